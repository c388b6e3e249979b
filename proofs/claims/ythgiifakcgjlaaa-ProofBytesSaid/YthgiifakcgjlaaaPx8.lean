/- Functions that the law reaches, as Lean functions. Conditions: those that each theorem names. -/
import Derived.Test.YthgiifakcgjlaaaPx0
import Derived.Test.YthgiifakcgjlaaaX2
import Derived.Test.YthgiifakcgjlaaaX2
import Derived.Test.YthgiifakcgjlaaaPx7
set_option maxHeartbeats 8000000
set_option maxRecDepth 100000
namespace Go.Proofs.Ythgiifakcgjlaaa.P
open Go.RowKit YthgiifakcgjlaaaX YthgiifakcgjlaaaW.PrintWords YthgiifakcgjlaaaW.PrintLast YthgiifakcgjlaaaW.PrintMore
attribute [local go_sem] max2_int min2_int max_two min_two max_three min_three max_four min_four
set_option linter.unusedVariables false
set_option linter.unusedSimpArgs false

mutual
def steepleref29_Shaped.j0 : Nat → Int → Bool → ByteArray → List (List (S70)) → List (S70) → List (List (S70)) → Int → Int → List (S70) → List (List (S70)) → Int → Int → List (S70) → List (List (S70)) → List ByteArray → Option (Bool)
 | 0, _, _, _, _, _, _, _, _, _, _, _, _, _, _, _ => none
 | k + 1, x0, x25, x216000, x216001, x216002, x216003, x216004, x216005, x216006, x216007, x216008, x216009, x216010, x216011, x216012 => if x25 = true then (some false) else (steepleref29_Shaped.l0 k x0 0 x216000 x216001 x216002 x216003 x216004 x216005 x216006 x216007 x216008 x216009 x216010 x216011 x216012)
def steepleref29_Shaped.l0 : Nat → Int → Int → ByteArray → List (List (S70)) → List (S70) → List (List (S70)) → Int → Int → List (S70) → List (List (S70)) → Int → Int → List (S70) → List (List (S70)) → List ByteArray → Option (Bool)
 | 0, _, _, _, _, _, _, _, _, _, _, _, _, _, _, _ => none
 | k + 1, x0, x5, x216000, x216001, x216002, x216003, x216004, x216005, x216006, x216007, x216008, x216009, x216010, x216011, x216012 => if x5 < (x216012.length : Int) then (if 0 ≤ x5 then (if ((rdOf ByteArray.empty x216012 x5).size : Int) = 32 then (steepleref29_Shaped.l0 k x0 (wrap64 (x5 + 1)) x216000 x216001 x216002 x216003 x216004 x216005 x216006 x216007 x216008 x216009 x216010 x216011 x216012) else (some false)) else (none)) else ((steepleref29_lists.f k x0 (([x216002, x216006, x216010, (([(⟨x216004, x216005⟩ : S70), (⟨x216008, x216009⟩ : S70)] : List (S70)))] : List (List (S70))))).bind fun t223 => (if t223 = true then ((steepleref29_lists.f k x0 x216001).bind fun t224 => (if t224 = true then ((steepleref29_lists.f k x0 x216003).bind fun t225 => (if t225 = true then ((steepleref29_lists.f k x0 x216007).bind fun t226 => (if t226 = true then ((steepleref29_lists.f k x0 x216011).bind fun t227 => (some t227)) else (some false))) else (some false))) else (some false))) else (some false)))
end
def steepleref29_Shaped.f (k : Nat) (a0 : Int) (a1_0 : ByteArray) (l1_1 : List (List (S70))) (l1_2 : List (S70)) (l1_3 : List (List (S70))) (a1_4 : Int) (a1_5 : Int) (l1_6 : List (S70)) (l1_7 : List (List (S70))) (a1_8 : Int) (a1_9 : Int) (l1_10 : List (S70)) (l1_11 : List (List (S70))) (l1_12 : List ByteArray) : Option (Bool) := if a0 < 0 then (steepleref29_Shaped.j0 k a0 true a1_0 l1_1 l1_2 l1_3 a1_4 a1_5 l1_6 l1_7 a1_8 a1_9 l1_10 l1_11 l1_12) else (if a0 > 7 then (steepleref29_Shaped.j0 k a0 true a1_0 l1_1 l1_2 l1_3 a1_4 a1_5 l1_6 l1_7 a1_8 a1_9 l1_10 l1_11 l1_12) else (if (a1_0.size : Int) = 32 then (steepleref29_Shaped.j0 k a0 (decide ((l1_12.length : Int) > 4096)) a1_0 l1_1 l1_2 l1_3 a1_4 a1_5 l1_6 l1_7 a1_8 a1_9 l1_10 l1_11 l1_12) else (steepleref29_Shaped.j0 k a0 true a1_0 l1_1 l1_2 l1_3 a1_4 a1_5 l1_6 l1_7 a1_8 a1_9 l1_10 l1_11 l1_12)))
theorem steepleref29_Shaped.calls (k : Nat) (a0 : Int) (a1_0 : ByteArray) (A1_1 : Option Addr) (c1_1 : Nat) (l1_1 : List (List (S70))) (P1_2_ : Nat → Prop) (A1_2 : Option Addr) (c1_2 : Nat) (l1_2 : List (S70)) (A1_3 : Option Addr) (c1_3 : Nat) (l1_3 : List (List (S70))) (a1_4 : Int) (a1_5 : Int) (P1_6_ : Nat → Prop) (A1_6 : Option Addr) (c1_6 : Nat) (l1_6 : List (S70)) (A1_7 : Option Addr) (c1_7 : Nat) (l1_7 : List (List (S70))) (a1_8 : Int) (a1_9 : Int) (P1_10_ : Nat → Prop) (A1_10 : Option Addr) (c1_10 : Nat) (l1_10 : List (S70)) (A1_11 : Option Addr) (c1_11 : Nat) (l1_11 : List (List (S70))) (A1_12 : Option Addr) (c1_12 : Nat) (l1_12 : List ByteArray) (r : Bool) (w : World) (hr1_1 : Kd.C (Kd.slice 70 k70) w A1_1 l1_1.length l1_1) (hc1_1 : l1_1.length ≤ c1_1) (hs1_2 : Kd.V k70 70 w w.heap.size (fun k_ => P1_2_ k_) (.slice A1_2 l1_2.length c1_2) l1_2) (hr1_3 : Kd.C (Kd.slice 70 k70) w A1_3 l1_3.length l1_3) (hc1_3 : l1_3.length ≤ c1_3) (hs1_6 : Kd.V k70 70 w w.heap.size (fun k_ => P1_6_ k_) (.slice A1_6 l1_6.length c1_6) l1_6) (hr1_7 : Kd.C (Kd.slice 70 k70) w A1_7 l1_7.length l1_7) (hc1_7 : l1_7.length ≤ c1_7) (hs1_10 : Kd.V k70 70 w w.heap.size (fun k_ => P1_10_ k_) (.slice A1_10 l1_10.length c1_10) l1_10) (hr1_11 : Kd.C (Kd.slice 70 k70) w A1_11 l1_11.length l1_11) (hc1_11 : l1_11.length ≤ c1_11) (hr1_12 : Kd.C Kd.string w A1_12 l1_12.length l1_12) (hc1_12 : l1_12.length ≤ c1_12) (h : steepleref29_Shaped.f k a0 a1_0 l1_1 l1_2 l1_3 a1_4 a1_5 l1_6 l1_7 a1_8 a1_9 l1_10 l1_11 l1_12 = some r) :
  Calls Try.prog 28 #[.int .i64 a0, .agg #[.string a1_0, .slice A1_1 l1_1.length c1_1, .slice A1_2 l1_2.length c1_2, .slice A1_3 l1_3.length c1_3, .int .u64 a1_4, .int .u64 a1_5, .slice A1_6 l1_6.length c1_6, .slice A1_7 l1_7.length c1_7, .int .u64 a1_8, .int .u64 a1_9, .slice A1_10 l1_10.length c1_10, .slice A1_11 l1_11.length c1_11, .slice A1_12 l1_12.length c1_12]] w fun e w' => e = .returned (.bool r) ∧ Below w.heap.size w w' := by
 have hu74 := Try.underlying74
 have hu70 := Try.underlying70
 have HR1_1 := Aside0.mk hr1_1
 have HC1_1 := Aside0.mk hc1_1
 clear hr1_1 hc1_1
 have HO1_2 := Aside0.mk (show Kd.V k70 70 w w.heap.size (fun k_ => ((P1_2_ k_ ∨ P1_6_ k_ ∨ P1_10_ k_) ∨ w.heap.size ≤ k_)) (.slice A1_2 l1_2.length c1_2) l1_2 from Kd.V_mono hs1_2 (fun k_ hk => .inl (.inl hk)))
 have HR1_3 := Aside0.mk hr1_3
 have HC1_3 := Aside0.mk hc1_3
 clear hr1_3 hc1_3
 have HO1_6 := Aside0.mk (show Kd.V k70 70 w w.heap.size (fun k_ => ((P1_2_ k_ ∨ P1_6_ k_ ∨ P1_10_ k_) ∨ w.heap.size ≤ k_)) (.slice A1_6 l1_6.length c1_6) l1_6 from Kd.V_mono hs1_6 (fun k_ hk => .inl (.inr (.inl hk))))
 have HR1_7 := Aside0.mk hr1_7
 have HC1_7 := Aside0.mk hc1_7
 clear hr1_7 hc1_7
 have HO1_10 := Aside0.mk (show Kd.V k70 70 w w.heap.size (fun k_ => ((P1_2_ k_ ∨ P1_6_ k_ ∨ P1_10_ k_) ∨ w.heap.size ≤ k_)) (.slice A1_10 l1_10.length c1_10) l1_10 from Kd.V_mono hs1_10 (fun k_ hk => .inl (.inr (.inr hk))))
 have HR1_11 := Aside0.mk hr1_11
 have HC1_11 := Aside0.mk hc1_11
 clear hr1_11 hc1_11
 have HR1_12 := Aside0.mk hr1_12
 have HC1_12 := Aside0.mk hc1_12
 clear hr1_12 hc1_12
 have HB := Aside0.mk (Below.refl w.heap.size w)
 have H : (if a0 < 0 then (steepleref29_Shaped.j0 k a0 true a1_0 l1_1 l1_2 l1_3 a1_4 a1_5 l1_6 l1_7 a1_8 a1_9 l1_10 l1_11 l1_12) else (if a0 > 7 then (steepleref29_Shaped.j0 k a0 true a1_0 l1_1 l1_2 l1_3 a1_4 a1_5 l1_6 l1_7 a1_8 a1_9 l1_10 l1_11 l1_12) else (if (a1_0.size : Int) = 32 then (steepleref29_Shaped.j0 k a0 (decide ((l1_12.length : Int) > 4096)) a1_0 l1_1 l1_2 l1_3 a1_4 a1_5 l1_6 l1_7 a1_8 a1_9 l1_10 l1_11 l1_12) else (steepleref29_Shaped.j0 k a0 true a1_0 l1_1 l1_2 l1_3 a1_4 a1_5 l1_6 l1_7 a1_8 a1_9 l1_10 l1_11 l1_12)))) = some r := h
 clear h
 have HC3 := Aside0.mk H
 clear H
 go_enter Try.func28, Try.ntmps28
 go_upto_region 1 with (first | ((with_reducible refine gate_dst (N := 3) rfl ?_); (try (refine gate_guard (by rfl) ?_; dsimp only)); refine box_event ?hg (N := 3) ?hd (cs := #[.string a1_0, .slice A1_1 l1_1.length c1_1, .slice A1_2 l1_2.length c1_2, .slice A1_3 l1_3.length c1_3, .int .u64 a1_4, .int .u64 a1_5, .slice A1_6 l1_6.length c1_6, .slice A1_7 l1_7.length c1_7, .int .u64 a1_8, .int .u64 a1_9, .slice A1_10 l1_10.length c1_10, .slice A1_11 l1_11.length c1_11, .slice A1_12 l1_12.length c1_12]) (t := 74) ?hr ?_; (case hd => rfl); (case hg => rfl); (case hr => go_simp <;> rfl); intro gb215 hg w4 hbox hb; have BK215 := Aside0.mk hbox; have GW215 := ge hg HB; have GE215 := ge hg HB; replace HO1_2 := Aside0.mk (Kd.V_below (Kd.V_elderB (by (with_reducible repeat (first | apply Kd.V_alloc | apply Kd.V_drewN | apply Kd.V_drew)); exact HO1_2.out) gb215 (Nat.le_of_eq hg.symm)) hb); replace HO1_6 := Aside0.mk (Kd.V_below (Kd.V_elderB (by (with_reducible repeat (first | apply Kd.V_alloc | apply Kd.V_drewN | apply Kd.V_drew)); exact HO1_6.out) gb215 (Nat.le_of_eq hg.symm)) hb); replace HO1_10 := Aside0.mk (Kd.V_below (Kd.V_elderB (by (with_reducible repeat (first | apply Kd.V_alloc | apply Kd.V_drewN | apply Kd.V_drew)); exact HO1_10.out) gb215 (Nat.le_of_eq hg.symm)) hb); replace HB := bh HB hb; clear hb hbox hg))
 (try simp only [Act.put, sA, s0, sS])
 go_cut [25] (fun v25 wc => ∃ (kq : Nat) (x25_2 : Bool), v25 = .bool x25_2 ∧ Aside0 (steepleref29_Shaped.j0 kq a0 x25_2 a1_0 l1_1 l1_2 l1_3 a1_4 a1_5 l1_6 l1_7 a1_8 a1_9 l1_10 l1_11 l1_12 = some r) ∧ Aside0 (kq ≤ k) ∧ Aside0 (Kd.V k70 70 wc w.heap.size (fun k_ => ((P1_2_ k_ ∨ P1_6_ k_ ∨ P1_10_ k_) ∨ w.heap.size ≤ k_) ∧ k_ ≠ gb215) (.slice A1_2 l1_2.length c1_2) l1_2) ∧ Aside0 (Kd.V k70 70 wc w.heap.size (fun k_ => ((P1_2_ k_ ∨ P1_6_ k_ ∨ P1_10_ k_) ∨ w.heap.size ≤ k_) ∧ k_ ≠ gb215) (.slice A1_6 l1_6.length c1_6) l1_6) ∧ Aside0 (Kd.V k70 70 wc w.heap.size (fun k_ => ((P1_2_ k_ ∨ P1_6_ k_ ∨ P1_10_ k_) ∨ w.heap.size ≤ k_) ∧ k_ ≠ gb215) (.slice A1_10 l1_10.length c1_10) l1_10) ∧ Aside0 (wc.heap[gb215]? = some (.cells #[.string a1_0, (.slice A1_1 l1_1.length c1_1), (.slice A1_2 l1_2.length c1_2), (.slice A1_3 l1_3.length c1_3), .int .u64 a1_4, .int .u64 a1_5, (.slice A1_6 l1_6.length c1_6), (.slice A1_7 l1_7.length c1_7), .int .u64 a1_8, .int .u64 a1_9, (.slice A1_10 l1_10.length c1_10), (.slice A1_11 l1_11.length c1_11), (.slice A1_12 l1_12.length c1_12)] 74 (0, 0))) ∧ Aside0 (Below w.heap.size w wc))
 case first =>
  have H := HC3.out
  clear HC3
  by_cases c5 : a0 < 0
  ·rw [if_pos c5] at H
   have c5b0 : decide (a0 < 0) = true := decide_eq_true c5
   clear c5
   (first | rw [c5b0] | (simp only [i64_w, i32_w]; rw [c5b0]) | skip)
   have H' := Aside0.mk H
   clear H
   go_wp2
   go_meet
   case rel => exact ⟨_, (true), (by first | rfl | (simp; done) | (simp [*]; done)), H', ⟨by first | omega | exact Nat.le_refl _⟩, ⟨by (with_reducible repeat (first | apply Kd.V_alloc | apply Kd.V_drewN | apply Kd.V_drew)); exact HO1_2.out⟩, ⟨by (with_reducible repeat (first | apply Kd.V_alloc | apply Kd.V_drewN | apply Kd.V_drew)); exact HO1_6.out⟩, ⟨by (with_reducible repeat (first | apply Kd.V_alloc | apply Kd.V_drewN | apply Kd.V_drew)); exact HO1_10.out⟩, ⟨bk BK215.out⟩, ⟨bq HB.out⟩⟩
  rw [if_neg c5] at H
  have c5b0 : decide (a0 < 0) = false := decide_eq_false c5
  clear c5
  (first | rw [c5b0] | (simp only [i64_w, i32_w]; rw [c5b0]) | skip)
  by_cases c6 : a0 > 7
  ·rw [if_pos c6] at H
   have c6b0 : decide (7 < a0) = true := decide_eq_true c6
   clear c6
   have H' := Aside0.mk H
   clear H
   go_wp2
   go_meet
   case rel => exact ⟨_, (true), (by first | rfl | (simp; done) | (simp [*]; done)), H', ⟨by first | omega | exact Nat.le_refl _⟩, ⟨by (with_reducible repeat (first | apply Kd.V_alloc | apply Kd.V_drewN | apply Kd.V_drew)); exact HO1_2.out⟩, ⟨by (with_reducible repeat (first | apply Kd.V_alloc | apply Kd.V_drewN | apply Kd.V_drew)); exact HO1_6.out⟩, ⟨by (with_reducible repeat (first | apply Kd.V_alloc | apply Kd.V_drewN | apply Kd.V_drew)); exact HO1_10.out⟩, ⟨bk BK215.out⟩, ⟨bq HB.out⟩⟩
  rw [if_neg c6] at H
  have c6b0 : decide (7 < a0) = false := decide_eq_false c6
  clear c6
  by_cases c7 : (a1_0.size : Int) = 32
  rotate_left
  ·rw [if_neg c7] at H
   have c7b0 : ((a1_0.size : Int) == 32) = false := beq_eq_false_iff_ne.mpr c7
   have c7b1 : ((a1_0.size : Int) != 32) = true := bne_iff_ne.mpr c7
   have H' := Aside0.mk H
   clear H
   obtain ⟨hcz9_0, hcz9_1, hcz9_2, hcz9_3, hcz9_4, hcz9_5, hcz9_6, hcz9_7, hcz9_8, hcz9_9, hcz9_10, hcz9_11, hcz9_12⟩ := zc13 BK215
   obtain ⟨hfz9_0, hfz9_1, hfz9_2, hfz9_3, hfz9_4, hfz9_5, hfz9_6, hfz9_7, hfz9_8, hfz9_9, hfz9_10, hfz9_11, hfz9_12⟩ := zf13 BK215
   go_wp2
   go_meet
   case rel => exact ⟨_, (true), (by first | rfl | (simp; done) | (simp [*]; done)), H', ⟨by first | omega | exact Nat.le_refl _⟩, ⟨by (with_reducible repeat (first | apply Kd.V_alloc | apply Kd.V_drewN | apply Kd.V_drew)); exact HO1_2.out⟩, ⟨by (with_reducible repeat (first | apply Kd.V_alloc | apply Kd.V_drewN | apply Kd.V_drew)); exact HO1_6.out⟩, ⟨by (with_reducible repeat (first | apply Kd.V_alloc | apply Kd.V_drewN | apply Kd.V_drew)); exact HO1_10.out⟩, ⟨bk BK215.out⟩, ⟨bq HB.out⟩⟩
  rw [if_pos c7] at H
  have c7b0 : ((a1_0.size : Int) == 32) = true := beq_iff_eq.mpr c7
  have c7b1 : ((a1_0.size : Int) != 32) = false := bne_eq_false_iff_eq.mpr c7
  clear c7
  have H' := Aside0.mk H
  clear H
  obtain ⟨hcz8_0, hcz8_1, hcz8_2, hcz8_3, hcz8_4, hcz8_5, hcz8_6, hcz8_7, hcz8_8, hcz8_9, hcz8_10, hcz8_11, hcz8_12⟩ := zc13 BK215
  obtain ⟨hfz8_0, hfz8_1, hfz8_2, hfz8_3, hfz8_4, hfz8_5, hfz8_6, hfz8_7, hfz8_8, hfz8_9, hfz8_10, hfz8_11, hfz8_12⟩ := zf13 BK215
  go_wp2
  go_meet
  case rel => exact ⟨_, (decide ((l1_12.length : Int) > 4096)), (by first | rfl | (simp; done) | (simp [*]; done)), H', ⟨by first | omega | exact Nat.le_refl _⟩, ⟨by (with_reducible repeat (first | apply Kd.V_alloc | apply Kd.V_drewN | apply Kd.V_drew)); exact HO1_2.out⟩, ⟨by (with_reducible repeat (first | apply Kd.V_alloc | apply Kd.V_drewN | apply Kd.V_drew)); exact HO1_6.out⟩, ⟨by (with_reducible repeat (first | apply Kd.V_alloc | apply Kd.V_drewN | apply Kd.V_drew)); exact HO1_10.out⟩, ⟨bk BK215.out⟩, ⟨bq HB.out⟩⟩
 case rest =>
  clear HC3
  try clear c1
  try clear c2
  try clear p2
  try clear c5
  try clear c5b0
  try clear c6
  try clear c6b0
  try clear c7
  try clear c7b0
  try clear c7b1
  try clear hcz8_0 hcz8_1 hcz8_10 hcz8_11 hcz8_12 hcz8_2 hcz8_3 hcz8_4 hcz8_5 hcz8_6 hcz8_7 hcz8_8 hcz8_9
  try clear hcz9_0 hcz9_1 hcz9_10 hcz9_11 hcz9_12 hcz9_2 hcz9_3 hcz9_4 hcz9_5 hcz9_6 hcz9_7 hcz9_8 hcz9_9
  try clear hfz8_0 hfz8_1 hfz8_10 hfz8_11 hfz8_12 hfz8_2 hfz8_3 hfz8_4 hfz8_5 hfz8_6 hfz8_7 hfz8_8 hfz8_9
  try clear hfz9_0 hfz9_1 hfz9_10 hfz9_11 hfz9_12 hfz9_2 hfz9_3 hfz9_4 hfz9_5 hfz9_6 hfz9_7 hfz9_8 hfz9_9
  obtain ⟨kq, x25_2, rfl, HA, HJ2, HO_216002, HO_216006, HO_216010, BK215, HB⟩ := hcut
  cases kq with
  | zero => exact absurd HA.out (by simp [steepleref29_Shaped.j0])
  | succ kj2 =>
   have H := HA.out
   clear HA
   simp only [steepleref29_Shaped.j0] at H
   by_cases c10 : x25_2 = true
   ·subst c10
    have H1 : (some false) = some r := by rw [if_pos rfl] at H; exact H
    clear H
    have H := H1
    clear H1
    obtain rfl := Option.some.inj H
    go_wp2
    go_ret
    exact ⟨er, bq HB.out⟩
   replace c10 := Bool.eq_false_iff.mpr c10
   subst c10
   have H1 : (steepleref29_Shaped.l0 kj2 a0 0 a1_0 l1_1 l1_2 l1_3 a1_4 a1_5 l1_6 l1_7 a1_8 a1_9 l1_10 l1_11 l1_12) = some r := by rw [if_neg (show ¬ (false = true) by decide)] at H; exact H
   clear H
   have H := H1
   clear H1
   have H' := Aside0.mk H
   clear H
   go_wp2
   go_loopg [5] kj2 (fun kq v5 w' => ∃ (x5_2 : Int), v5 = .int .i64 x5_2 ∧ Aside0 (steepleref29_Shaped.l0 kq a0 x5_2 a1_0 l1_1 l1_2 l1_3 a1_4 a1_5 l1_6 l1_7 a1_8 a1_9 l1_10 l1_11 l1_12 = some r) ∧ Aside0 (kq ≤ kj2) ∧ Aside0 (Kd.V k70 70 w' w.heap.size (fun k_ => ((P1_2_ k_ ∨ P1_6_ k_ ∨ P1_10_ k_) ∨ w.heap.size ≤ k_) ∧ k_ ≠ gb215) (.slice A1_2 l1_2.length c1_2) l1_2) ∧ Aside0 (Kd.V k70 70 w' w.heap.size (fun k_ => ((P1_2_ k_ ∨ P1_6_ k_ ∨ P1_10_ k_) ∨ w.heap.size ≤ k_) ∧ k_ ≠ gb215) (.slice A1_6 l1_6.length c1_6) l1_6) ∧ Aside0 (Kd.V k70 70 w' w.heap.size (fun k_ => ((P1_2_ k_ ∨ P1_6_ k_ ∨ P1_10_ k_) ∨ w.heap.size ≤ k_) ∧ k_ ≠ gb215) (.slice A1_10 l1_10.length c1_10) l1_10) ∧ Aside0 (w'.heap[gb215]? = some (.cells #[.string a1_0, (.slice A1_1 l1_1.length c1_1), (.slice A1_2 l1_2.length c1_2), (.slice A1_3 l1_3.length c1_3), .int .u64 a1_4, .int .u64 a1_5, (.slice A1_6 l1_6.length c1_6), (.slice A1_7 l1_7.length c1_7), .int .u64 a1_8, .int .u64 a1_9, (.slice A1_10 l1_10.length c1_10), (.slice A1_11 l1_11.length c1_11), (.slice A1_12 l1_12.length c1_12)] 74 (0, 0))) ∧ Aside0 (Below w.heap.size w w'))
   case atStart => exact ⟨(0), (by first | rfl | (simp; done) | (simp [*]; done)), H', ⟨Nat.le_refl _⟩, ⟨by (with_reducible repeat (first | apply Kd.V_alloc | apply Kd.V_drewN | apply Kd.V_drew)); exact HO_216002.out⟩, ⟨by (with_reducible repeat (first | apply Kd.V_alloc | apply Kd.V_drewN | apply Kd.V_drew)); exact HO_216006.out⟩, ⟨by (with_reducible repeat (first | apply Kd.V_alloc | apply Kd.V_drewN | apply Kd.V_drew)); exact HO_216010.out⟩, ⟨bk BK215.out⟩, ⟨bq HB.out⟩⟩
   case round =>
    clear H'
    try clear c1
    try clear c2
    try clear p2
    try clear c5
    try clear c5b0
    try clear c6
    try clear c6b0
    try clear c7
    try clear c7b0
    try clear c7b1
    try clear c10
    try clear hcz8_0 hcz8_1 hcz8_10 hcz8_11 hcz8_12 hcz8_2 hcz8_3 hcz8_4 hcz8_5 hcz8_6 hcz8_7 hcz8_8 hcz8_9
    try clear hcz9_0 hcz9_1 hcz9_10 hcz9_11 hcz9_12 hcz9_2 hcz9_3 hcz9_4 hcz9_5 hcz9_6 hcz9_7 hcz9_8 hcz9_9
    try clear hfz8_0 hfz8_1 hfz8_10 hfz8_11 hfz8_12 hfz8_2 hfz8_3 hfz8_4 hfz8_5 hfz8_6 hfz8_7 hfz8_8 hfz8_9
    try clear hfz9_0 hfz9_1 hfz9_10 hfz9_11 hfz9_12 hfz9_2 hfz9_3 hfz9_4 hfz9_5 hfz9_6 hfz9_7 hfz9_8 hfz9_9
    try clear p2
    obtain ⟨x5_2, rfl, HA, HK2, HO_216002, HO_216006, HO_216010, BK215, HB⟩ := hrel
    cases gk with
    | zero => exact absurd HA.out (by simp [steepleref29_Shaped.l0])
    | succ k2 =>
     have H := HA.out
     clear HA
     simp only [steepleref29_Shaped.l0] at H
     by_cases c11 : x5_2 < (l1_12.length : Int)
     ·rw [if_pos c11] at H
      have c11b0 : decide (x5_2 < (l1_12.length : Int)) = true := decide_eq_true c11
      clear c11
      by_cases c12 : 0 ≤ x5_2
      rotate_left
      ·rw [if_neg c12] at H
       exact absurd H (by simp)
      rw [if_pos c12] at H
      have c12b0 : decide (0 ≤ x5_2) = true := decide_eq_true c12
      clear c12
      by_cases c13 : ((rdOf ByteArray.empty l1_12 x5_2).size : Int) = 32
      rotate_left
      ·rw [if_neg c13] at H
       have c13b0 : (((rdOf ByteArray.empty l1_12 x5_2).size : Int) == 32) = false := beq_eq_false_iff_ne.mpr c13
       have c13b1 : (((rdOf ByteArray.empty l1_12 x5_2).size : Int) != 32) = true := bne_iff_ne.mpr c13
       obtain rfl := Option.some.inj H
       obtain ⟨hcz15_0, hcz15_1, hcz15_2, hcz15_3, hcz15_4, hcz15_5, hcz15_6, hcz15_7, hcz15_8, hcz15_9, hcz15_10, hcz15_11, hcz15_12⟩ := zc13 BK215
       obtain ⟨hfz15_0, hfz15_1, hfz15_2, hfz15_3, hfz15_4, hfz15_5, hfz15_6, hfz15_7, hfz15_8, hfz15_9, hfz15_10, hfz15_11, hfz15_12⟩ := zf13 BK215
       have p216 : 0 ≤ (x5_2 : Int) := dt
       have q216 : x5_2 < (l1_12.length : Int) := dt
       obtain ⟨ad216, e216, hx216_0⟩ := Kd.at_string HR1_12.out x5_2 p216 q216
       cases e216
       replace hx216_0 := (HB.out.cell (World.block_lt_of_cell? w _ hx216_0)).trans hx216_0
       replace p216 := eq_true p216
       replace q216 := eq_true q216
       go_wp2
       go_ret
       exact ⟨er, bq HB.out⟩
      rw [if_pos c13] at H
      have c13b0 : (((rdOf ByteArray.empty l1_12 x5_2).size : Int) == 32) = true := beq_iff_eq.mpr c13
      have c13b1 : (((rdOf ByteArray.empty l1_12 x5_2).size : Int) != 32) = false := bne_eq_false_iff_eq.mpr c13
      clear c13
      have H' := Aside0.mk H
      clear H
      obtain ⟨hcz14_0, hcz14_1, hcz14_2, hcz14_3, hcz14_4, hcz14_5, hcz14_6, hcz14_7, hcz14_8, hcz14_9, hcz14_10, hcz14_11, hcz14_12⟩ := zc13 BK215
      obtain ⟨hfz14_0, hfz14_1, hfz14_2, hfz14_3, hfz14_4, hfz14_5, hfz14_6, hfz14_7, hfz14_8, hfz14_9, hfz14_10, hfz14_11, hfz14_12⟩ := zf13 BK215
      have p216 : 0 ≤ (x5_2 : Int) := dt
      have q216 : x5_2 < (l1_12.length : Int) := dt
      obtain ⟨ad216, e216, hx216_0⟩ := Kd.at_string HR1_12.out x5_2 p216 q216
      cases e216
      replace hx216_0 := (HB.out.cell (World.block_lt_of_cell? w _ hx216_0)).trans hx216_0
      replace p216 := eq_true p216
      replace q216 := eq_true q216
      go_wp2
      go_roundg k2
      case measure => have := HJ2.out; have := HK2.out; omega
      case rel => exact ⟨(wrap64 (x5_2 + 1)), (by first | rfl | (simp; done) | (simp [*]; done)), H', ⟨by have := HJ2.out; have := HK2.out; omega⟩, ⟨by (with_reducible repeat (first | apply Kd.V_alloc | apply Kd.V_drewN | apply Kd.V_drew)); exact HO_216002.out⟩, ⟨by (with_reducible repeat (first | apply Kd.V_alloc | apply Kd.V_drewN | apply Kd.V_drew)); exact HO_216006.out⟩, ⟨by (with_reducible repeat (first | apply Kd.V_alloc | apply Kd.V_drewN | apply Kd.V_drew)); exact HO_216010.out⟩, ⟨bk BK215.out⟩, ⟨bq HB.out⟩⟩
     rw [if_neg c11] at H
     have c11b0 : decide (x5_2 < (l1_12.length : Int)) = false := decide_eq_false c11
     clear c11
     obtain ⟨y217, hy217⟩ : ∃ y_ : List (S70), y_ = (([(⟨a1_4, a1_5⟩ : S70), (⟨a1_8, a1_9⟩ : S70)] : List (S70))) := ⟨_, rfl⟩
     replace H : ((steepleref29_lists.f k2 a0 (([l1_2, l1_6, l1_10, y217] : List (List (S70))))).bind fun t223 => (if t223 = true then ((steepleref29_lists.f k2 a0 l1_1).bind fun t224 => (if t224 = true then ((steepleref29_lists.f k2 a0 l1_3).bind fun t225 => (if t225 = true then ((steepleref29_lists.f k2 a0 l1_7).bind fun t226 => (if t226 = true then ((steepleref29_lists.f k2 a0 l1_11).bind fun t227 => (some t227)) else (some false))) else (some false))) else (some false))) else (some false))) = some r := by first | (rw [hy217]; with_reducible exact H) | (have H2_ := (Option.bind_some _ _).symm.trans H; rw [hy217]; with_reducible exact H2_) | (have H2_ := (Option.bind_some _ _).symm.trans H; with_reducible exact H2_) | with_reducible exact H | (rw [hy217]; exact H) | exact H
     have Ny217 := Aside0.mk hy217
     clear hy217
     obtain ⟨y220, hy220⟩ : ∃ y_ : List (List (S70)), y_ = (([l1_2, l1_6, l1_10, y217] : List (List (S70)))) := ⟨_, rfl⟩
     replace H : ((steepleref29_lists.f k2 a0 y220).bind fun t223 => (if t223 = true then ((steepleref29_lists.f k2 a0 l1_1).bind fun t224 => (if t224 = true then ((steepleref29_lists.f k2 a0 l1_3).bind fun t225 => (if t225 = true then ((steepleref29_lists.f k2 a0 l1_7).bind fun t226 => (if t226 = true then ((steepleref29_lists.f k2 a0 l1_11).bind fun t227 => (some t227)) else (some false))) else (some false))) else (some false))) else (some false))) = some r := by first | (rw [hy220]; with_reducible exact H) | (have H2_ := (Option.bind_some _ _).symm.trans H; rw [hy220]; with_reducible exact H2_) | (have H2_ := (Option.bind_some _ _).symm.trans H; with_reducible exact H2_) | with_reducible exact H | (rw [hy220]; exact H) | exact H
     have Ny220 := Aside0.mk hy220
     clear hy220
     obtain ⟨t223, A16, H⟩ := bm2 H
     try dsimp only at H
     by_cases c17 : t223 = true
     rotate_left
     ·replace c17 := Bool.eq_false_iff.mpr c17
      subst c17
      have H1 : (some false) = some r := by rw [if_neg (show ¬ (false = true) by decide)] at H; exact H
      clear H
      have H := H1
      clear H1
      obtain rfl := Option.some.inj H
      obtain ⟨hcz77_0, hcz77_1, hcz77_2, hcz77_3, hcz77_4, hcz77_5, hcz77_6, hcz77_7, hcz77_8, hcz77_9, hcz77_10, hcz77_11, hcz77_12⟩ := zc13 BK215
      obtain ⟨hfz77_0, hfz77_1, hfz77_2, hfz77_3, hfz77_4, hfz77_5, hfz77_6, hfz77_7, hfz77_8, hfz77_9, hfz77_10, hfz77_11, hfz77_12⟩ := zf13 BK215
      go_wp2_with (first | ((with_reducible refine gate_dst (N := 53) rfl ?_); (try (refine gate_guard (by rfl) ?_; dsimp only)); refine Kd.R_lit k70 _ 70 ?hg (N := 53) ?hd (xs := ([(⟨a1_4, a1_5⟩ : S70), (⟨a1_8, a1_9⟩ : S70)] : List (S70))) (inner := [.int .u64 a1_4, .int .u64 a1_5, .int .u64 a1_8, .int .u64 a1_9]) (ok := fun _ => True) (okp := fun _ => True) ?hr ?hp (fun _ hk => hk) trivial (Below.refl _ _) (Nat.le_refl _) (by simp) ?_; (case hd => rfl); (case hg => rfl); (case hr => go_simp <;> rfl); (case hp => exact (Reps.c2 (show Kd.M k70 _ _ _ (⟨a1_4, a1_5⟩ : S70) [.int .u64 a1_4, .int .u64 a1_5] from (k70_mkM _ _ _ (⟨a1_4, a1_5⟩ : S70) )) (Reps.c2 (show Kd.M k70 _ _ _ (⟨a1_8, a1_9⟩ : S70) [.int .u64 a1_8, .int .u64 a1_9] from (k70_mkM _ _ _ (⟨a1_8, a1_9⟩ : S70) )) (Reps.none _ _)))); intro v218 w78 ho79 hb hg_ hnew_; clear hg_ hnew_; (first | rw [← Ny217.out] at ho79 | (simp only [Int.reduceToNat] at ho79; rw [← Ny217.out] at ho79)); have HO219 := Aside0.mk (Kd.R_lower (Kd.R_newM (M := fun k_ => (w.heap.size ≤ k_)) ho79 (below_size (bq HB.out)) (fun k_ h_ => h_)) (below_size (bq HB.out))); replace HO_216002 := Aside0.mk (Kd.V_elder' (by (with_reducible repeat (first | apply Kd.V_alloc | apply Kd.V_drewN | apply Kd.V_drew)); exact HO_216002.out) (Kd.R_base ho79) hb); replace HO_216006 := Aside0.mk (Kd.V_elder' (by (with_reducible repeat (first | apply Kd.V_alloc | apply Kd.V_drewN | apply Kd.V_drew)); exact HO_216006.out) (Kd.R_base ho79) hb); replace HO_216010 := Aside0.mk (Kd.V_elder' (by (with_reducible repeat (first | apply Kd.V_alloc | apply Kd.V_drewN | apply Kd.V_drew)); exact HO_216010.out) (Kd.R_base ho79) hb); replace BK215 := bb BK215 hb; replace HB := bh HB hb; clear hb ho79; obtain ⟨Ao80, co80, eo80⟩ := Kd.R_slice HO219.out; subst eo80) | ((with_reducible refine gate_dst (N := 54) rfl ?_); (try (refine gate_guard (by rfl) ?_; dsimp only)); refine Kd.N_lit (Kd.slice 70 k70) _ 69 ?hg (N' := 54) ?hd (xs := ([l1_2, l1_6, l1_10, y217] : List (List (S70)))) (inner := [.slice A1_2 l1_2.length c1_2, .slice A1_6 l1_6.length c1_6, .slice A1_10 l1_10.length c1_10, .slice Ao80 y217.length co80]) (ok := (fun k_ => ((P1_2_ k_ ∨ P1_6_ k_ ∨ P1_10_ k_) ∨ w.heap.size ≤ k_) ∧ k_ ≠ gb215)) (okp := (fun k_ => ((P1_2_ k_ ∨ P1_6_ k_ ∨ P1_10_ k_) ∨ w.heap.size ≤ k_) ∧ k_ ≠ gb215)) ?hr ?hp (fun _ hk => hk) ((show ∀ k_, w78.heap.size ≤ k_ → (fun k_ => ((P1_2_ k_ ∨ P1_6_ k_ ∨ P1_10_ k_) ∨ w.heap.size ≤ k_) ∧ k_ ≠ gb215) k_ from fun k_ hk => ⟨(.inr (Nat.le_trans (below_size (bq HB.out)) hk)), Kd.freshB (g := gb215) (o := .cells #[.string a1_0, .slice A1_1 l1_1.length c1_1, .slice A1_2 l1_2.length c1_2, .slice A1_3 l1_3.length c1_3, .int .u64 a1_4, .int .u64 a1_5, .slice A1_6 l1_6.length c1_6, .slice A1_7 l1_7.length c1_7, .int .u64 a1_8, .int .u64 a1_9, .slice A1_10 l1_10.length c1_10, .slice A1_11 l1_11.length c1_11, .slice A1_12 l1_12.length c1_12] 74 (0, 0)) (bk BK215.out) k_ hk⟩) _ (Nat.le_refl _)) (Below.refl _ _) (Nat.le_refl _) (by simp) ?_; (case hd => rfl); (case hg => rfl); (case hr => go_simp <;> rfl); (case hp => exact (Reps.one (show Kd.FK (Kd.slice 70 k70) _ _ l1_2 [.slice A1_2 l1_2.length c1_2] from (Kd.FK_slice_mk (Kd.V_reads' (Kd.V_mono (ok' := (fun k_ => ((P1_2_ k_ ∨ P1_6_ k_ ∨ P1_10_ k_) ∨ w.heap.size ≤ k_) ∧ k_ ≠ gb215)) (HO_216002.out) (fun k_ hk => ⟨hk.1.1, hk.1.2⟩))).2.1 (Kd.V_F (Kd.V_mono (ok' := (fun k_ => ((P1_2_ k_ ∨ P1_6_ k_ ∨ P1_10_ k_) ∨ w.heap.size ≤ k_) ∧ k_ ≠ gb215)) (HO_216002.out) (fun k_ hk => ⟨hk.1.1, hk.1.2⟩))))) (Reps.one (show Kd.FK (Kd.slice 70 k70) _ _ l1_6 [.slice A1_6 l1_6.length c1_6] from (Kd.FK_slice_mk (Kd.V_reads' (Kd.V_mono (ok' := (fun k_ => ((P1_2_ k_ ∨ P1_6_ k_ ∨ P1_10_ k_) ∨ w.heap.size ≤ k_) ∧ k_ ≠ gb215)) (HO_216006.out) (fun k_ hk => ⟨hk.1.1, hk.1.2⟩))).2.1 (Kd.V_F (Kd.V_mono (ok' := (fun k_ => ((P1_2_ k_ ∨ P1_6_ k_ ∨ P1_10_ k_) ∨ w.heap.size ≤ k_) ∧ k_ ≠ gb215)) (HO_216006.out) (fun k_ hk => ⟨hk.1.1, hk.1.2⟩))))) (Reps.one (show Kd.FK (Kd.slice 70 k70) _ _ l1_10 [.slice A1_10 l1_10.length c1_10] from (Kd.FK_slice_mk (Kd.V_reads' (Kd.V_mono (ok' := (fun k_ => ((P1_2_ k_ ∨ P1_6_ k_ ∨ P1_10_ k_) ∨ w.heap.size ≤ k_) ∧ k_ ≠ gb215)) (HO_216010.out) (fun k_ hk => ⟨hk.1.1, hk.1.2⟩))).2.1 (Kd.V_F (Kd.V_mono (ok' := (fun k_ => ((P1_2_ k_ ∨ P1_6_ k_ ∨ P1_10_ k_) ∨ w.heap.size ≤ k_) ∧ k_ ≠ gb215)) (HO_216010.out) (fun k_ hk => ⟨hk.1.1, hk.1.2⟩))))) (Reps.one (show Kd.FK (Kd.slice 70 k70) _ _ y217 [.slice Ao80 y217.length co80] from (Kd.FK_slice_mk (Kd.R_reads' (Kd.R_mono (ok' := (fun k_ => ((P1_2_ k_ ∨ P1_6_ k_ ∨ P1_10_ k_) ∨ w.heap.size ≤ k_) ∧ k_ ≠ gb215)) (Kd.R_types (HO219.out) BK215.out (by decide)) (fun k_ hk => ⟨(.inr (hk.1.1)), hk.2⟩))).2.1 (Kd.R_F (Kd.R_mono (ok' := (fun k_ => ((P1_2_ k_ ∨ P1_6_ k_ ∨ P1_10_ k_) ∨ w.heap.size ≤ k_) ∧ k_ ≠ gb215)) (Kd.R_types (HO219.out) BK215.out (by decide)) (fun k_ hk => ⟨(.inr (hk.1.1)), hk.2⟩))))) (Reps.none _ _)))))); intro v221 w81 ho82 hb hg_ hnew_; clear hg_ hnew_; (first | rw [← Ny220.out] at ho82 | (simp only [Int.reduceToNat] at ho82; rw [← Ny220.out] at ho82)); have HO222 := Aside0.mk (Kd.N_lower ho82 (below_size (bq HB.out))); replace HB := bh HB hb; clear HO219; clear hb ho82; obtain ⟨Ao83, co83, eo83⟩ := Kd.N_slice HO222.out; subst eo83) | ((with_reducible refine gate_callee (f := 72) rfl ?_); refine gL (some 57) rfl Try.func72 #[.int .i64 a0, .slice Ao83 y220.length co83] rfl ?_; (with_reducible refine (steepleref29_lists.calls k2 a0 _ _ y220 false _ ?side1 ?side2 A16.out).mono ?_); (case side1 => exact cq (Kd.N_reads' HO222.out).2.2); (case side2 => exact (Kd.N_reads' HO222.out).2.1); rintro e w84 ⟨rfl, hb⟩; refine ⟨_, rfl, ?_⟩; replace HB := bh HB hb; (try clear hb); (try clear hk hi)))
      go_ret
      exact ⟨er, bq HB.out⟩

     subst c17
     have H1 : ((steepleref29_lists.f k2 a0 l1_1).bind fun t224 => (if t224 = true then ((steepleref29_lists.f k2 a0 l1_3).bind fun t225 => (if t225 = true then ((steepleref29_lists.f k2 a0 l1_7).bind fun t226 => (if t226 = true then ((steepleref29_lists.f k2 a0 l1_11).bind fun t227 => (some t227)) else (some false))) else (some false))) else (some false))) = some r := by rw [if_pos rfl] at H; exact H
     clear H
     have H := H1
     clear H1
     obtain ⟨t224, A18, H⟩ := bm2 H
     try dsimp only at H
     by_cases c19 : t224 = true
     rotate_left
     ·replace c19 := Bool.eq_false_iff.mpr c19
      subst c19
      have H1 : (some false) = some r := by rw [if_neg (show ¬ (false = true) by decide)] at H; exact H
      clear H
      have H := H1
      clear H1
      obtain rfl := Option.some.inj H
      obtain ⟨hcz67_0, hcz67_1, hcz67_2, hcz67_3, hcz67_4, hcz67_5, hcz67_6, hcz67_7, hcz67_8, hcz67_9, hcz67_10, hcz67_11, hcz67_12⟩ := zc13 BK215
      obtain ⟨hfz67_0, hfz67_1, hfz67_2, hfz67_3, hfz67_4, hfz67_5, hfz67_6, hfz67_7, hfz67_8, hfz67_9, hfz67_10, hfz67_11, hfz67_12⟩ := zf13 BK215
      go_wp2_with (first | ((with_reducible refine gate_dst (N := 53) rfl ?_); (try (refine gate_guard (by rfl) ?_; dsimp only)); refine Kd.R_lit k70 _ 70 ?hg (N := 53) ?hd (xs := ([(⟨a1_4, a1_5⟩ : S70), (⟨a1_8, a1_9⟩ : S70)] : List (S70))) (inner := [.int .u64 a1_4, .int .u64 a1_5, .int .u64 a1_8, .int .u64 a1_9]) (ok := fun _ => True) (okp := fun _ => True) ?hr ?hp (fun _ hk => hk) trivial (Below.refl _ _) (Nat.le_refl _) (by simp) ?_; (case hd => rfl); (case hg => rfl); (case hr => go_simp <;> rfl); (case hp => exact (Reps.c2 (show Kd.M k70 _ _ _ (⟨a1_4, a1_5⟩ : S70) [.int .u64 a1_4, .int .u64 a1_5] from (k70_mkM _ _ _ (⟨a1_4, a1_5⟩ : S70) )) (Reps.c2 (show Kd.M k70 _ _ _ (⟨a1_8, a1_9⟩ : S70) [.int .u64 a1_8, .int .u64 a1_9] from (k70_mkM _ _ _ (⟨a1_8, a1_9⟩ : S70) )) (Reps.none _ _)))); intro v218 w68 ho69 hb hg_ hnew_; clear hg_ hnew_; (first | rw [← Ny217.out] at ho69 | (simp only [Int.reduceToNat] at ho69; rw [← Ny217.out] at ho69)); have HO219 := Aside0.mk (Kd.R_lower (Kd.R_newM (M := fun k_ => (w.heap.size ≤ k_)) ho69 (below_size (bq HB.out)) (fun k_ h_ => h_)) (below_size (bq HB.out))); replace HO_216002 := Aside0.mk (Kd.V_elder' (by (with_reducible repeat (first | apply Kd.V_alloc | apply Kd.V_drewN | apply Kd.V_drew)); exact HO_216002.out) (Kd.R_base ho69) hb); replace HO_216006 := Aside0.mk (Kd.V_elder' (by (with_reducible repeat (first | apply Kd.V_alloc | apply Kd.V_drewN | apply Kd.V_drew)); exact HO_216006.out) (Kd.R_base ho69) hb); replace HO_216010 := Aside0.mk (Kd.V_elder' (by (with_reducible repeat (first | apply Kd.V_alloc | apply Kd.V_drewN | apply Kd.V_drew)); exact HO_216010.out) (Kd.R_base ho69) hb); replace BK215 := bb BK215 hb; replace HB := bh HB hb; clear hb ho69; obtain ⟨Ao70, co70, eo70⟩ := Kd.R_slice HO219.out; subst eo70) | ((with_reducible refine gate_dst (N := 54) rfl ?_); (try (refine gate_guard (by rfl) ?_; dsimp only)); refine Kd.N_lit (Kd.slice 70 k70) _ 69 ?hg (N' := 54) ?hd (xs := ([l1_2, l1_6, l1_10, y217] : List (List (S70)))) (inner := [.slice A1_2 l1_2.length c1_2, .slice A1_6 l1_6.length c1_6, .slice A1_10 l1_10.length c1_10, .slice Ao70 y217.length co70]) (ok := (fun k_ => ((P1_2_ k_ ∨ P1_6_ k_ ∨ P1_10_ k_) ∨ w.heap.size ≤ k_) ∧ k_ ≠ gb215)) (okp := (fun k_ => ((P1_2_ k_ ∨ P1_6_ k_ ∨ P1_10_ k_) ∨ w.heap.size ≤ k_) ∧ k_ ≠ gb215)) ?hr ?hp (fun _ hk => hk) ((show ∀ k_, w68.heap.size ≤ k_ → (fun k_ => ((P1_2_ k_ ∨ P1_6_ k_ ∨ P1_10_ k_) ∨ w.heap.size ≤ k_) ∧ k_ ≠ gb215) k_ from fun k_ hk => ⟨(.inr (Nat.le_trans (below_size (bq HB.out)) hk)), Kd.freshB (g := gb215) (o := .cells #[.string a1_0, .slice A1_1 l1_1.length c1_1, .slice A1_2 l1_2.length c1_2, .slice A1_3 l1_3.length c1_3, .int .u64 a1_4, .int .u64 a1_5, .slice A1_6 l1_6.length c1_6, .slice A1_7 l1_7.length c1_7, .int .u64 a1_8, .int .u64 a1_9, .slice A1_10 l1_10.length c1_10, .slice A1_11 l1_11.length c1_11, .slice A1_12 l1_12.length c1_12] 74 (0, 0)) (bk BK215.out) k_ hk⟩) _ (Nat.le_refl _)) (Below.refl _ _) (Nat.le_refl _) (by simp) ?_; (case hd => rfl); (case hg => rfl); (case hr => go_simp <;> rfl); (case hp => exact (Reps.one (show Kd.FK (Kd.slice 70 k70) _ _ l1_2 [.slice A1_2 l1_2.length c1_2] from (Kd.FK_slice_mk (Kd.V_reads' (Kd.V_mono (ok' := (fun k_ => ((P1_2_ k_ ∨ P1_6_ k_ ∨ P1_10_ k_) ∨ w.heap.size ≤ k_) ∧ k_ ≠ gb215)) (HO_216002.out) (fun k_ hk => ⟨hk.1.1, hk.1.2⟩))).2.1 (Kd.V_F (Kd.V_mono (ok' := (fun k_ => ((P1_2_ k_ ∨ P1_6_ k_ ∨ P1_10_ k_) ∨ w.heap.size ≤ k_) ∧ k_ ≠ gb215)) (HO_216002.out) (fun k_ hk => ⟨hk.1.1, hk.1.2⟩))))) (Reps.one (show Kd.FK (Kd.slice 70 k70) _ _ l1_6 [.slice A1_6 l1_6.length c1_6] from (Kd.FK_slice_mk (Kd.V_reads' (Kd.V_mono (ok' := (fun k_ => ((P1_2_ k_ ∨ P1_6_ k_ ∨ P1_10_ k_) ∨ w.heap.size ≤ k_) ∧ k_ ≠ gb215)) (HO_216006.out) (fun k_ hk => ⟨hk.1.1, hk.1.2⟩))).2.1 (Kd.V_F (Kd.V_mono (ok' := (fun k_ => ((P1_2_ k_ ∨ P1_6_ k_ ∨ P1_10_ k_) ∨ w.heap.size ≤ k_) ∧ k_ ≠ gb215)) (HO_216006.out) (fun k_ hk => ⟨hk.1.1, hk.1.2⟩))))) (Reps.one (show Kd.FK (Kd.slice 70 k70) _ _ l1_10 [.slice A1_10 l1_10.length c1_10] from (Kd.FK_slice_mk (Kd.V_reads' (Kd.V_mono (ok' := (fun k_ => ((P1_2_ k_ ∨ P1_6_ k_ ∨ P1_10_ k_) ∨ w.heap.size ≤ k_) ∧ k_ ≠ gb215)) (HO_216010.out) (fun k_ hk => ⟨hk.1.1, hk.1.2⟩))).2.1 (Kd.V_F (Kd.V_mono (ok' := (fun k_ => ((P1_2_ k_ ∨ P1_6_ k_ ∨ P1_10_ k_) ∨ w.heap.size ≤ k_) ∧ k_ ≠ gb215)) (HO_216010.out) (fun k_ hk => ⟨hk.1.1, hk.1.2⟩))))) (Reps.one (show Kd.FK (Kd.slice 70 k70) _ _ y217 [.slice Ao70 y217.length co70] from (Kd.FK_slice_mk (Kd.R_reads' (Kd.R_mono (ok' := (fun k_ => ((P1_2_ k_ ∨ P1_6_ k_ ∨ P1_10_ k_) ∨ w.heap.size ≤ k_) ∧ k_ ≠ gb215)) (Kd.R_types (HO219.out) BK215.out (by decide)) (fun k_ hk => ⟨(.inr (hk.1.1)), hk.2⟩))).2.1 (Kd.R_F (Kd.R_mono (ok' := (fun k_ => ((P1_2_ k_ ∨ P1_6_ k_ ∨ P1_10_ k_) ∨ w.heap.size ≤ k_) ∧ k_ ≠ gb215)) (Kd.R_types (HO219.out) BK215.out (by decide)) (fun k_ hk => ⟨(.inr (hk.1.1)), hk.2⟩))))) (Reps.none _ _)))))); intro v221 w71 ho72 hb hg_ hnew_; clear hg_ hnew_; (first | rw [← Ny220.out] at ho72 | (simp only [Int.reduceToNat] at ho72; rw [← Ny220.out] at ho72)); have HO222 := Aside0.mk (Kd.N_lower ho72 (below_size (bq HB.out))); replace BK215 := bb BK215 hb; replace HB := bh HB hb; clear HO219; clear hb ho72; obtain ⟨Ao73, co73, eo73⟩ := Kd.N_slice HO222.out; subst eo73) | ((with_reducible refine gate_callee (f := 72) rfl ?_); refine gL (some 57) rfl Try.func72 #[.int .i64 a0, .slice Ao73 y220.length co73] rfl ?_; (with_reducible refine (steepleref29_lists.calls k2 a0 _ _ y220 true _ ?side1 ?side2 A16.out).mono ?_); (case side1 => exact cq (Kd.N_reads' HO222.out).2.2); (case side2 => exact (Kd.N_reads' HO222.out).2.1); rintro e w74 ⟨rfl, hb⟩; refine ⟨_, rfl, ?_⟩; replace BK215 := bb BK215 hb; replace HB := bh HB hb; (try clear hb); (try clear hk hi); obtain ⟨hcz75_0, hcz75_1, hcz75_2, hcz75_3, hcz75_4, hcz75_5, hcz75_6, hcz75_7, hcz75_8, hcz75_9, hcz75_10, hcz75_11, hcz75_12⟩ := zc13 BK215; obtain ⟨hfz75_0, hfz75_1, hfz75_2, hfz75_3, hfz75_4, hfz75_5, hfz75_6, hfz75_7, hfz75_8, hfz75_9, hfz75_10, hfz75_11, hfz75_12⟩ := zf13 BK215) | (go_at_call 72; (with_reducible refine (steepleref29_lists.calls k2 a0 _ _ l1_1 false _ ?side1 ?side2 A18.out).mono ?_); (case side1 => exact cq (Kd.C_below HR1_1.out HB.out)); (case side2 => exact HC1_1.out); rintro e w76 ⟨rfl, hb⟩; replace HB := bh HB hb; (try clear hb); (try clear hk hi)))
      go_ret
      exact ⟨er, bq HB.out⟩
     subst c19
     have H1 : ((steepleref29_lists.f k2 a0 l1_3).bind fun t225 => (if t225 = true then ((steepleref29_lists.f k2 a0 l1_7).bind fun t226 => (if t226 = true then ((steepleref29_lists.f k2 a0 l1_11).bind fun t227 => (some t227)) else (some false))) else (some false))) = some r := by rw [if_pos rfl] at H; exact H
     clear H
     have H := H1
     clear H1
     obtain ⟨t225, A20, H⟩ := bm2 H
     try dsimp only at H
     by_cases c21 : t225 = true
     rotate_left
     ·replace c21 := Bool.eq_false_iff.mpr c21
      subst c21
      have H1 : (some false) = some r := by rw [if_neg (show ¬ (false = true) by decide)] at H; exact H
      clear H
      have H := H1
      clear H1
      obtain rfl := Option.some.inj H
      obtain ⟨hcz55_0, hcz55_1, hcz55_2, hcz55_3, hcz55_4, hcz55_5, hcz55_6, hcz55_7, hcz55_8, hcz55_9, hcz55_10, hcz55_11, hcz55_12⟩ := zc13 BK215
      obtain ⟨hfz55_0, hfz55_1, hfz55_2, hfz55_3, hfz55_4, hfz55_5, hfz55_6, hfz55_7, hfz55_8, hfz55_9, hfz55_10, hfz55_11, hfz55_12⟩ := zf13 BK215
      go_wp2_with (first | ((with_reducible refine gate_dst (N := 53) rfl ?_); (try (refine gate_guard (by rfl) ?_; dsimp only)); refine Kd.R_lit k70 _ 70 ?hg (N := 53) ?hd (xs := ([(⟨a1_4, a1_5⟩ : S70), (⟨a1_8, a1_9⟩ : S70)] : List (S70))) (inner := [.int .u64 a1_4, .int .u64 a1_5, .int .u64 a1_8, .int .u64 a1_9]) (ok := fun _ => True) (okp := fun _ => True) ?hr ?hp (fun _ hk => hk) trivial (Below.refl _ _) (Nat.le_refl _) (by simp) ?_; (case hd => rfl); (case hg => rfl); (case hr => go_simp <;> rfl); (case hp => exact (Reps.c2 (show Kd.M k70 _ _ _ (⟨a1_4, a1_5⟩ : S70) [.int .u64 a1_4, .int .u64 a1_5] from (k70_mkM _ _ _ (⟨a1_4, a1_5⟩ : S70) )) (Reps.c2 (show Kd.M k70 _ _ _ (⟨a1_8, a1_9⟩ : S70) [.int .u64 a1_8, .int .u64 a1_9] from (k70_mkM _ _ _ (⟨a1_8, a1_9⟩ : S70) )) (Reps.none _ _)))); intro v218 w56 ho57 hb hg_ hnew_; clear hg_ hnew_; (first | rw [← Ny217.out] at ho57 | (simp only [Int.reduceToNat] at ho57; rw [← Ny217.out] at ho57)); have HO219 := Aside0.mk (Kd.R_lower (Kd.R_newM (M := fun k_ => (w.heap.size ≤ k_)) ho57 (below_size (bq HB.out)) (fun k_ h_ => h_)) (below_size (bq HB.out))); replace HO_216002 := Aside0.mk (Kd.V_elder' (by (with_reducible repeat (first | apply Kd.V_alloc | apply Kd.V_drewN | apply Kd.V_drew)); exact HO_216002.out) (Kd.R_base ho57) hb); replace HO_216006 := Aside0.mk (Kd.V_elder' (by (with_reducible repeat (first | apply Kd.V_alloc | apply Kd.V_drewN | apply Kd.V_drew)); exact HO_216006.out) (Kd.R_base ho57) hb); replace HO_216010 := Aside0.mk (Kd.V_elder' (by (with_reducible repeat (first | apply Kd.V_alloc | apply Kd.V_drewN | apply Kd.V_drew)); exact HO_216010.out) (Kd.R_base ho57) hb); replace BK215 := bb BK215 hb; replace HB := bh HB hb; clear hb ho57; obtain ⟨Ao58, co58, eo58⟩ := Kd.R_slice HO219.out; subst eo58) | ((with_reducible refine gate_dst (N := 54) rfl ?_); (try (refine gate_guard (by rfl) ?_; dsimp only)); refine Kd.N_lit (Kd.slice 70 k70) _ 69 ?hg (N' := 54) ?hd (xs := ([l1_2, l1_6, l1_10, y217] : List (List (S70)))) (inner := [.slice A1_2 l1_2.length c1_2, .slice A1_6 l1_6.length c1_6, .slice A1_10 l1_10.length c1_10, .slice Ao58 y217.length co58]) (ok := (fun k_ => ((P1_2_ k_ ∨ P1_6_ k_ ∨ P1_10_ k_) ∨ w.heap.size ≤ k_) ∧ k_ ≠ gb215)) (okp := (fun k_ => ((P1_2_ k_ ∨ P1_6_ k_ ∨ P1_10_ k_) ∨ w.heap.size ≤ k_) ∧ k_ ≠ gb215)) ?hr ?hp (fun _ hk => hk) ((show ∀ k_, w56.heap.size ≤ k_ → (fun k_ => ((P1_2_ k_ ∨ P1_6_ k_ ∨ P1_10_ k_) ∨ w.heap.size ≤ k_) ∧ k_ ≠ gb215) k_ from fun k_ hk => ⟨(.inr (Nat.le_trans (below_size (bq HB.out)) hk)), Kd.freshB (g := gb215) (o := .cells #[.string a1_0, .slice A1_1 l1_1.length c1_1, .slice A1_2 l1_2.length c1_2, .slice A1_3 l1_3.length c1_3, .int .u64 a1_4, .int .u64 a1_5, .slice A1_6 l1_6.length c1_6, .slice A1_7 l1_7.length c1_7, .int .u64 a1_8, .int .u64 a1_9, .slice A1_10 l1_10.length c1_10, .slice A1_11 l1_11.length c1_11, .slice A1_12 l1_12.length c1_12] 74 (0, 0)) (bk BK215.out) k_ hk⟩) _ (Nat.le_refl _)) (Below.refl _ _) (Nat.le_refl _) (by simp) ?_; (case hd => rfl); (case hg => rfl); (case hr => go_simp <;> rfl); (case hp => exact (Reps.one (show Kd.FK (Kd.slice 70 k70) _ _ l1_2 [.slice A1_2 l1_2.length c1_2] from (Kd.FK_slice_mk (Kd.V_reads' (Kd.V_mono (ok' := (fun k_ => ((P1_2_ k_ ∨ P1_6_ k_ ∨ P1_10_ k_) ∨ w.heap.size ≤ k_) ∧ k_ ≠ gb215)) (HO_216002.out) (fun k_ hk => ⟨hk.1.1, hk.1.2⟩))).2.1 (Kd.V_F (Kd.V_mono (ok' := (fun k_ => ((P1_2_ k_ ∨ P1_6_ k_ ∨ P1_10_ k_) ∨ w.heap.size ≤ k_) ∧ k_ ≠ gb215)) (HO_216002.out) (fun k_ hk => ⟨hk.1.1, hk.1.2⟩))))) (Reps.one (show Kd.FK (Kd.slice 70 k70) _ _ l1_6 [.slice A1_6 l1_6.length c1_6] from (Kd.FK_slice_mk (Kd.V_reads' (Kd.V_mono (ok' := (fun k_ => ((P1_2_ k_ ∨ P1_6_ k_ ∨ P1_10_ k_) ∨ w.heap.size ≤ k_) ∧ k_ ≠ gb215)) (HO_216006.out) (fun k_ hk => ⟨hk.1.1, hk.1.2⟩))).2.1 (Kd.V_F (Kd.V_mono (ok' := (fun k_ => ((P1_2_ k_ ∨ P1_6_ k_ ∨ P1_10_ k_) ∨ w.heap.size ≤ k_) ∧ k_ ≠ gb215)) (HO_216006.out) (fun k_ hk => ⟨hk.1.1, hk.1.2⟩))))) (Reps.one (show Kd.FK (Kd.slice 70 k70) _ _ l1_10 [.slice A1_10 l1_10.length c1_10] from (Kd.FK_slice_mk (Kd.V_reads' (Kd.V_mono (ok' := (fun k_ => ((P1_2_ k_ ∨ P1_6_ k_ ∨ P1_10_ k_) ∨ w.heap.size ≤ k_) ∧ k_ ≠ gb215)) (HO_216010.out) (fun k_ hk => ⟨hk.1.1, hk.1.2⟩))).2.1 (Kd.V_F (Kd.V_mono (ok' := (fun k_ => ((P1_2_ k_ ∨ P1_6_ k_ ∨ P1_10_ k_) ∨ w.heap.size ≤ k_) ∧ k_ ≠ gb215)) (HO_216010.out) (fun k_ hk => ⟨hk.1.1, hk.1.2⟩))))) (Reps.one (show Kd.FK (Kd.slice 70 k70) _ _ y217 [.slice Ao58 y217.length co58] from (Kd.FK_slice_mk (Kd.R_reads' (Kd.R_mono (ok' := (fun k_ => ((P1_2_ k_ ∨ P1_6_ k_ ∨ P1_10_ k_) ∨ w.heap.size ≤ k_) ∧ k_ ≠ gb215)) (Kd.R_types (HO219.out) BK215.out (by decide)) (fun k_ hk => ⟨(.inr (hk.1.1)), hk.2⟩))).2.1 (Kd.R_F (Kd.R_mono (ok' := (fun k_ => ((P1_2_ k_ ∨ P1_6_ k_ ∨ P1_10_ k_) ∨ w.heap.size ≤ k_) ∧ k_ ≠ gb215)) (Kd.R_types (HO219.out) BK215.out (by decide)) (fun k_ hk => ⟨(.inr (hk.1.1)), hk.2⟩))))) (Reps.none _ _)))))); intro v221 w59 ho60 hb hg_ hnew_; clear hg_ hnew_; (first | rw [← Ny220.out] at ho60 | (simp only [Int.reduceToNat] at ho60; rw [← Ny220.out] at ho60)); have HO222 := Aside0.mk (Kd.N_lower ho60 (below_size (bq HB.out))); replace BK215 := bb BK215 hb; replace HB := bh HB hb; clear HO219; clear hb ho60; obtain ⟨Ao61, co61, eo61⟩ := Kd.N_slice HO222.out; subst eo61) | ((with_reducible refine gate_callee (f := 72) rfl ?_); refine gL (some 57) rfl Try.func72 #[.int .i64 a0, .slice Ao61 y220.length co61] rfl ?_; (with_reducible refine (steepleref29_lists.calls k2 a0 _ _ y220 true _ ?side1 ?side2 A16.out).mono ?_); (case side1 => exact cq (Kd.N_reads' HO222.out).2.2); (case side2 => exact (Kd.N_reads' HO222.out).2.1); rintro e w62 ⟨rfl, hb⟩; refine ⟨_, rfl, ?_⟩; replace BK215 := bb BK215 hb; replace HB := bh HB hb; (try clear hb); (try clear hk hi); obtain ⟨hcz63_0, hcz63_1, hcz63_2, hcz63_3, hcz63_4, hcz63_5, hcz63_6, hcz63_7, hcz63_8, hcz63_9, hcz63_10, hcz63_11, hcz63_12⟩ := zc13 BK215; obtain ⟨hfz63_0, hfz63_1, hfz63_2, hfz63_3, hfz63_4, hfz63_5, hfz63_6, hfz63_7, hfz63_8, hfz63_9, hfz63_10, hfz63_11, hfz63_12⟩ := zf13 BK215) | (go_at_call 72; (with_reducible refine (steepleref29_lists.calls k2 a0 _ _ l1_1 true _ ?side1 ?side2 A18.out).mono ?_); (case side1 => exact cq (Kd.C_below HR1_1.out HB.out)); (case side2 => exact HC1_1.out); rintro e w64 ⟨rfl, hb⟩; replace BK215 := bb BK215 hb; replace HB := bh HB hb; (try clear hb); (try clear hk hi); obtain ⟨hcz65_0, hcz65_1, hcz65_2, hcz65_3, hcz65_4, hcz65_5, hcz65_6, hcz65_7, hcz65_8, hcz65_9, hcz65_10, hcz65_11, hcz65_12⟩ := zc13 BK215; obtain ⟨hfz65_0, hfz65_1, hfz65_2, hfz65_3, hfz65_4, hfz65_5, hfz65_6, hfz65_7, hfz65_8, hfz65_9, hfz65_10, hfz65_11, hfz65_12⟩ := zf13 BK215) | (go_at_call 72; (with_reducible refine (steepleref29_lists.calls k2 a0 _ _ l1_3 false _ ?side1 ?side2 A20.out).mono ?_); (case side1 => exact cq (Kd.C_below HR1_3.out HB.out)); (case side2 => exact HC1_3.out); rintro e w66 ⟨rfl, hb⟩; replace HB := bh HB hb; (try clear hb); (try clear hk hi)))
      go_ret
      exact ⟨er, bq HB.out⟩
     subst c21
     have H1 : ((steepleref29_lists.f k2 a0 l1_7).bind fun t226 => (if t226 = true then ((steepleref29_lists.f k2 a0 l1_11).bind fun t227 => (some t227)) else (some false))) = some r := by rw [if_pos rfl] at H; exact H
     clear H
     have H := H1
     clear H1
     obtain ⟨t226, A22, H⟩ := bm2 H
     try dsimp only at H
     by_cases c23 : t226 = true
     rotate_left
     ·replace c23 := Bool.eq_false_iff.mpr c23
      subst c23
      have H1 : (some false) = some r := by rw [if_neg (show ¬ (false = true) by decide)] at H; exact H
      clear H
      have H := H1
      clear H1
      obtain rfl := Option.some.inj H
      obtain ⟨hcz41_0, hcz41_1, hcz41_2, hcz41_3, hcz41_4, hcz41_5, hcz41_6, hcz41_7, hcz41_8, hcz41_9, hcz41_10, hcz41_11, hcz41_12⟩ := zc13 BK215
      obtain ⟨hfz41_0, hfz41_1, hfz41_2, hfz41_3, hfz41_4, hfz41_5, hfz41_6, hfz41_7, hfz41_8, hfz41_9, hfz41_10, hfz41_11, hfz41_12⟩ := zf13 BK215
      go_wp2_with (first | ((with_reducible refine gate_dst (N := 53) rfl ?_); (try (refine gate_guard (by rfl) ?_; dsimp only)); refine Kd.R_lit k70 _ 70 ?hg (N := 53) ?hd (xs := ([(⟨a1_4, a1_5⟩ : S70), (⟨a1_8, a1_9⟩ : S70)] : List (S70))) (inner := [.int .u64 a1_4, .int .u64 a1_5, .int .u64 a1_8, .int .u64 a1_9]) (ok := fun _ => True) (okp := fun _ => True) ?hr ?hp (fun _ hk => hk) trivial (Below.refl _ _) (Nat.le_refl _) (by simp) ?_; (case hd => rfl); (case hg => rfl); (case hr => go_simp <;> rfl); (case hp => exact (Reps.c2 (show Kd.M k70 _ _ _ (⟨a1_4, a1_5⟩ : S70) [.int .u64 a1_4, .int .u64 a1_5] from (k70_mkM _ _ _ (⟨a1_4, a1_5⟩ : S70) )) (Reps.c2 (show Kd.M k70 _ _ _ (⟨a1_8, a1_9⟩ : S70) [.int .u64 a1_8, .int .u64 a1_9] from (k70_mkM _ _ _ (⟨a1_8, a1_9⟩ : S70) )) (Reps.none _ _)))); intro v218 w42 ho43 hb hg_ hnew_; clear hg_ hnew_; (first | rw [← Ny217.out] at ho43 | (simp only [Int.reduceToNat] at ho43; rw [← Ny217.out] at ho43)); have HO219 := Aside0.mk (Kd.R_lower (Kd.R_newM (M := fun k_ => (w.heap.size ≤ k_)) ho43 (below_size (bq HB.out)) (fun k_ h_ => h_)) (below_size (bq HB.out))); replace HO_216002 := Aside0.mk (Kd.V_elder' (by (with_reducible repeat (first | apply Kd.V_alloc | apply Kd.V_drewN | apply Kd.V_drew)); exact HO_216002.out) (Kd.R_base ho43) hb); replace HO_216006 := Aside0.mk (Kd.V_elder' (by (with_reducible repeat (first | apply Kd.V_alloc | apply Kd.V_drewN | apply Kd.V_drew)); exact HO_216006.out) (Kd.R_base ho43) hb); replace HO_216010 := Aside0.mk (Kd.V_elder' (by (with_reducible repeat (first | apply Kd.V_alloc | apply Kd.V_drewN | apply Kd.V_drew)); exact HO_216010.out) (Kd.R_base ho43) hb); replace BK215 := bb BK215 hb; replace HB := bh HB hb; clear hb ho43; obtain ⟨Ao44, co44, eo44⟩ := Kd.R_slice HO219.out; subst eo44) | ((with_reducible refine gate_dst (N := 54) rfl ?_); (try (refine gate_guard (by rfl) ?_; dsimp only)); refine Kd.N_lit (Kd.slice 70 k70) _ 69 ?hg (N' := 54) ?hd (xs := ([l1_2, l1_6, l1_10, y217] : List (List (S70)))) (inner := [.slice A1_2 l1_2.length c1_2, .slice A1_6 l1_6.length c1_6, .slice A1_10 l1_10.length c1_10, .slice Ao44 y217.length co44]) (ok := (fun k_ => ((P1_2_ k_ ∨ P1_6_ k_ ∨ P1_10_ k_) ∨ w.heap.size ≤ k_) ∧ k_ ≠ gb215)) (okp := (fun k_ => ((P1_2_ k_ ∨ P1_6_ k_ ∨ P1_10_ k_) ∨ w.heap.size ≤ k_) ∧ k_ ≠ gb215)) ?hr ?hp (fun _ hk => hk) ((show ∀ k_, w42.heap.size ≤ k_ → (fun k_ => ((P1_2_ k_ ∨ P1_6_ k_ ∨ P1_10_ k_) ∨ w.heap.size ≤ k_) ∧ k_ ≠ gb215) k_ from fun k_ hk => ⟨(.inr (Nat.le_trans (below_size (bq HB.out)) hk)), Kd.freshB (g := gb215) (o := .cells #[.string a1_0, .slice A1_1 l1_1.length c1_1, .slice A1_2 l1_2.length c1_2, .slice A1_3 l1_3.length c1_3, .int .u64 a1_4, .int .u64 a1_5, .slice A1_6 l1_6.length c1_6, .slice A1_7 l1_7.length c1_7, .int .u64 a1_8, .int .u64 a1_9, .slice A1_10 l1_10.length c1_10, .slice A1_11 l1_11.length c1_11, .slice A1_12 l1_12.length c1_12] 74 (0, 0)) (bk BK215.out) k_ hk⟩) _ (Nat.le_refl _)) (Below.refl _ _) (Nat.le_refl _) (by simp) ?_; (case hd => rfl); (case hg => rfl); (case hr => go_simp <;> rfl); (case hp => exact (Reps.one (show Kd.FK (Kd.slice 70 k70) _ _ l1_2 [.slice A1_2 l1_2.length c1_2] from (Kd.FK_slice_mk (Kd.V_reads' (Kd.V_mono (ok' := (fun k_ => ((P1_2_ k_ ∨ P1_6_ k_ ∨ P1_10_ k_) ∨ w.heap.size ≤ k_) ∧ k_ ≠ gb215)) (HO_216002.out) (fun k_ hk => ⟨hk.1.1, hk.1.2⟩))).2.1 (Kd.V_F (Kd.V_mono (ok' := (fun k_ => ((P1_2_ k_ ∨ P1_6_ k_ ∨ P1_10_ k_) ∨ w.heap.size ≤ k_) ∧ k_ ≠ gb215)) (HO_216002.out) (fun k_ hk => ⟨hk.1.1, hk.1.2⟩))))) (Reps.one (show Kd.FK (Kd.slice 70 k70) _ _ l1_6 [.slice A1_6 l1_6.length c1_6] from (Kd.FK_slice_mk (Kd.V_reads' (Kd.V_mono (ok' := (fun k_ => ((P1_2_ k_ ∨ P1_6_ k_ ∨ P1_10_ k_) ∨ w.heap.size ≤ k_) ∧ k_ ≠ gb215)) (HO_216006.out) (fun k_ hk => ⟨hk.1.1, hk.1.2⟩))).2.1 (Kd.V_F (Kd.V_mono (ok' := (fun k_ => ((P1_2_ k_ ∨ P1_6_ k_ ∨ P1_10_ k_) ∨ w.heap.size ≤ k_) ∧ k_ ≠ gb215)) (HO_216006.out) (fun k_ hk => ⟨hk.1.1, hk.1.2⟩))))) (Reps.one (show Kd.FK (Kd.slice 70 k70) _ _ l1_10 [.slice A1_10 l1_10.length c1_10] from (Kd.FK_slice_mk (Kd.V_reads' (Kd.V_mono (ok' := (fun k_ => ((P1_2_ k_ ∨ P1_6_ k_ ∨ P1_10_ k_) ∨ w.heap.size ≤ k_) ∧ k_ ≠ gb215)) (HO_216010.out) (fun k_ hk => ⟨hk.1.1, hk.1.2⟩))).2.1 (Kd.V_F (Kd.V_mono (ok' := (fun k_ => ((P1_2_ k_ ∨ P1_6_ k_ ∨ P1_10_ k_) ∨ w.heap.size ≤ k_) ∧ k_ ≠ gb215)) (HO_216010.out) (fun k_ hk => ⟨hk.1.1, hk.1.2⟩))))) (Reps.one (show Kd.FK (Kd.slice 70 k70) _ _ y217 [.slice Ao44 y217.length co44] from (Kd.FK_slice_mk (Kd.R_reads' (Kd.R_mono (ok' := (fun k_ => ((P1_2_ k_ ∨ P1_6_ k_ ∨ P1_10_ k_) ∨ w.heap.size ≤ k_) ∧ k_ ≠ gb215)) (Kd.R_types (HO219.out) BK215.out (by decide)) (fun k_ hk => ⟨(.inr (hk.1.1)), hk.2⟩))).2.1 (Kd.R_F (Kd.R_mono (ok' := (fun k_ => ((P1_2_ k_ ∨ P1_6_ k_ ∨ P1_10_ k_) ∨ w.heap.size ≤ k_) ∧ k_ ≠ gb215)) (Kd.R_types (HO219.out) BK215.out (by decide)) (fun k_ hk => ⟨(.inr (hk.1.1)), hk.2⟩))))) (Reps.none _ _)))))); intro v221 w45 ho46 hb hg_ hnew_; clear hg_ hnew_; (first | rw [← Ny220.out] at ho46 | (simp only [Int.reduceToNat] at ho46; rw [← Ny220.out] at ho46)); have HO222 := Aside0.mk (Kd.N_lower ho46 (below_size (bq HB.out))); replace BK215 := bb BK215 hb; replace HB := bh HB hb; clear HO219; clear hb ho46; obtain ⟨Ao47, co47, eo47⟩ := Kd.N_slice HO222.out; subst eo47) | ((with_reducible refine gate_callee (f := 72) rfl ?_); refine gL (some 57) rfl Try.func72 #[.int .i64 a0, .slice Ao47 y220.length co47] rfl ?_; (with_reducible refine (steepleref29_lists.calls k2 a0 _ _ y220 true _ ?side1 ?side2 A16.out).mono ?_); (case side1 => exact cq (Kd.N_reads' HO222.out).2.2); (case side2 => exact (Kd.N_reads' HO222.out).2.1); rintro e w48 ⟨rfl, hb⟩; refine ⟨_, rfl, ?_⟩; replace BK215 := bb BK215 hb; replace HB := bh HB hb; (try clear hb); (try clear hk hi); obtain ⟨hcz49_0, hcz49_1, hcz49_2, hcz49_3, hcz49_4, hcz49_5, hcz49_6, hcz49_7, hcz49_8, hcz49_9, hcz49_10, hcz49_11, hcz49_12⟩ := zc13 BK215; obtain ⟨hfz49_0, hfz49_1, hfz49_2, hfz49_3, hfz49_4, hfz49_5, hfz49_6, hfz49_7, hfz49_8, hfz49_9, hfz49_10, hfz49_11, hfz49_12⟩ := zf13 BK215) | (go_at_call 72; (with_reducible refine (steepleref29_lists.calls k2 a0 _ _ l1_1 true _ ?side1 ?side2 A18.out).mono ?_); (case side1 => exact cq (Kd.C_below HR1_1.out HB.out)); (case side2 => exact HC1_1.out); rintro e w50 ⟨rfl, hb⟩; replace BK215 := bb BK215 hb; replace HB := bh HB hb; (try clear hb); (try clear hk hi); obtain ⟨hcz51_0, hcz51_1, hcz51_2, hcz51_3, hcz51_4, hcz51_5, hcz51_6, hcz51_7, hcz51_8, hcz51_9, hcz51_10, hcz51_11, hcz51_12⟩ := zc13 BK215; obtain ⟨hfz51_0, hfz51_1, hfz51_2, hfz51_3, hfz51_4, hfz51_5, hfz51_6, hfz51_7, hfz51_8, hfz51_9, hfz51_10, hfz51_11, hfz51_12⟩ := zf13 BK215) | (go_at_call 72; (with_reducible refine (steepleref29_lists.calls k2 a0 _ _ l1_3 true _ ?side1 ?side2 A20.out).mono ?_); (case side1 => exact cq (Kd.C_below HR1_3.out HB.out)); (case side2 => exact HC1_3.out); rintro e w52 ⟨rfl, hb⟩; replace BK215 := bb BK215 hb; replace HB := bh HB hb; (try clear hb); (try clear hk hi); obtain ⟨hcz53_0, hcz53_1, hcz53_2, hcz53_3, hcz53_4, hcz53_5, hcz53_6, hcz53_7, hcz53_8, hcz53_9, hcz53_10, hcz53_11, hcz53_12⟩ := zc13 BK215; obtain ⟨hfz53_0, hfz53_1, hfz53_2, hfz53_3, hfz53_4, hfz53_5, hfz53_6, hfz53_7, hfz53_8, hfz53_9, hfz53_10, hfz53_11, hfz53_12⟩ := zf13 BK215) | (go_at_call 72; (with_reducible refine (steepleref29_lists.calls k2 a0 _ _ l1_7 false _ ?side1 ?side2 A22.out).mono ?_); (case side1 => exact cq (Kd.C_below HR1_7.out HB.out)); (case side2 => exact HC1_7.out); rintro e w54 ⟨rfl, hb⟩; replace HB := bh HB hb; (try clear hb); (try clear hk hi)))
      go_ret
      exact ⟨er, bq HB.out⟩
     subst c23
     have H1 : ((steepleref29_lists.f k2 a0 l1_11).bind fun t227 => (some t227)) = some r := by rw [if_pos rfl] at H; exact H
     clear H
     have H := H1
     clear H1
     obtain ⟨t227, A24, H⟩ := bm2 H
     replace H : (some t227) = some r := H
     obtain rfl := Option.some.inj H
     obtain ⟨hcz25_0, hcz25_1, hcz25_2, hcz25_3, hcz25_4, hcz25_5, hcz25_6, hcz25_7, hcz25_8, hcz25_9, hcz25_10, hcz25_11, hcz25_12⟩ := zc13 BK215
     obtain ⟨hfz25_0, hfz25_1, hfz25_2, hfz25_3, hfz25_4, hfz25_5, hfz25_6, hfz25_7, hfz25_8, hfz25_9, hfz25_10, hfz25_11, hfz25_12⟩ := zf13 BK215
     go_wp2_with (first | ((with_reducible refine gate_dst (N := 53) rfl ?_); (try (refine gate_guard (by rfl) ?_; dsimp only)); refine Kd.R_lit k70 _ 70 ?hg (N := 53) ?hd (xs := ([(⟨a1_4, a1_5⟩ : S70), (⟨a1_8, a1_9⟩ : S70)] : List (S70))) (inner := [.int .u64 a1_4, .int .u64 a1_5, .int .u64 a1_8, .int .u64 a1_9]) (ok := fun _ => True) (okp := fun _ => True) ?hr ?hp (fun _ hk => hk) trivial (Below.refl _ _) (Nat.le_refl _) (by simp) ?_; (case hd => rfl); (case hg => rfl); (case hr => go_simp <;> rfl); (case hp => exact (Reps.c2 (show Kd.M k70 _ _ _ (⟨a1_4, a1_5⟩ : S70) [.int .u64 a1_4, .int .u64 a1_5] from (k70_mkM _ _ _ (⟨a1_4, a1_5⟩ : S70) )) (Reps.c2 (show Kd.M k70 _ _ _ (⟨a1_8, a1_9⟩ : S70) [.int .u64 a1_8, .int .u64 a1_9] from (k70_mkM _ _ _ (⟨a1_8, a1_9⟩ : S70) )) (Reps.none _ _)))); intro v218 w26 ho27 hb hg_ hnew_; clear hg_ hnew_; (first | rw [← Ny217.out] at ho27 | (simp only [Int.reduceToNat] at ho27; rw [← Ny217.out] at ho27)); have HO219 := Aside0.mk (Kd.R_lower (Kd.R_newM (M := fun k_ => (w.heap.size ≤ k_)) ho27 (below_size (bq HB.out)) (fun k_ h_ => h_)) (below_size (bq HB.out))); replace HO_216002 := Aside0.mk (Kd.V_elder' (by (with_reducible repeat (first | apply Kd.V_alloc | apply Kd.V_drewN | apply Kd.V_drew)); exact HO_216002.out) (Kd.R_base ho27) hb); replace HO_216006 := Aside0.mk (Kd.V_elder' (by (with_reducible repeat (first | apply Kd.V_alloc | apply Kd.V_drewN | apply Kd.V_drew)); exact HO_216006.out) (Kd.R_base ho27) hb); replace HO_216010 := Aside0.mk (Kd.V_elder' (by (with_reducible repeat (first | apply Kd.V_alloc | apply Kd.V_drewN | apply Kd.V_drew)); exact HO_216010.out) (Kd.R_base ho27) hb); replace BK215 := bb BK215 hb; replace HB := bh HB hb; clear hb ho27; obtain ⟨Ao28, co28, eo28⟩ := Kd.R_slice HO219.out; subst eo28) | ((with_reducible refine gate_dst (N := 54) rfl ?_); (try (refine gate_guard (by rfl) ?_; dsimp only)); refine Kd.N_lit (Kd.slice 70 k70) _ 69 ?hg (N' := 54) ?hd (xs := ([l1_2, l1_6, l1_10, y217] : List (List (S70)))) (inner := [.slice A1_2 l1_2.length c1_2, .slice A1_6 l1_6.length c1_6, .slice A1_10 l1_10.length c1_10, .slice Ao28 y217.length co28]) (ok := (fun k_ => ((P1_2_ k_ ∨ P1_6_ k_ ∨ P1_10_ k_) ∨ w.heap.size ≤ k_) ∧ k_ ≠ gb215)) (okp := (fun k_ => ((P1_2_ k_ ∨ P1_6_ k_ ∨ P1_10_ k_) ∨ w.heap.size ≤ k_) ∧ k_ ≠ gb215)) ?hr ?hp (fun _ hk => hk) ((show ∀ k_, w26.heap.size ≤ k_ → (fun k_ => ((P1_2_ k_ ∨ P1_6_ k_ ∨ P1_10_ k_) ∨ w.heap.size ≤ k_) ∧ k_ ≠ gb215) k_ from fun k_ hk => ⟨(.inr (Nat.le_trans (below_size (bq HB.out)) hk)), Kd.freshB (g := gb215) (o := .cells #[.string a1_0, .slice A1_1 l1_1.length c1_1, .slice A1_2 l1_2.length c1_2, .slice A1_3 l1_3.length c1_3, .int .u64 a1_4, .int .u64 a1_5, .slice A1_6 l1_6.length c1_6, .slice A1_7 l1_7.length c1_7, .int .u64 a1_8, .int .u64 a1_9, .slice A1_10 l1_10.length c1_10, .slice A1_11 l1_11.length c1_11, .slice A1_12 l1_12.length c1_12] 74 (0, 0)) (bk BK215.out) k_ hk⟩) _ (Nat.le_refl _)) (Below.refl _ _) (Nat.le_refl _) (by simp) ?_; (case hd => rfl); (case hg => rfl); (case hr => go_simp <;> rfl); (case hp => exact (Reps.one (show Kd.FK (Kd.slice 70 k70) _ _ l1_2 [.slice A1_2 l1_2.length c1_2] from (Kd.FK_slice_mk (Kd.V_reads' (Kd.V_mono (ok' := (fun k_ => ((P1_2_ k_ ∨ P1_6_ k_ ∨ P1_10_ k_) ∨ w.heap.size ≤ k_) ∧ k_ ≠ gb215)) (HO_216002.out) (fun k_ hk => ⟨hk.1.1, hk.1.2⟩))).2.1 (Kd.V_F (Kd.V_mono (ok' := (fun k_ => ((P1_2_ k_ ∨ P1_6_ k_ ∨ P1_10_ k_) ∨ w.heap.size ≤ k_) ∧ k_ ≠ gb215)) (HO_216002.out) (fun k_ hk => ⟨hk.1.1, hk.1.2⟩))))) (Reps.one (show Kd.FK (Kd.slice 70 k70) _ _ l1_6 [.slice A1_6 l1_6.length c1_6] from (Kd.FK_slice_mk (Kd.V_reads' (Kd.V_mono (ok' := (fun k_ => ((P1_2_ k_ ∨ P1_6_ k_ ∨ P1_10_ k_) ∨ w.heap.size ≤ k_) ∧ k_ ≠ gb215)) (HO_216006.out) (fun k_ hk => ⟨hk.1.1, hk.1.2⟩))).2.1 (Kd.V_F (Kd.V_mono (ok' := (fun k_ => ((P1_2_ k_ ∨ P1_6_ k_ ∨ P1_10_ k_) ∨ w.heap.size ≤ k_) ∧ k_ ≠ gb215)) (HO_216006.out) (fun k_ hk => ⟨hk.1.1, hk.1.2⟩))))) (Reps.one (show Kd.FK (Kd.slice 70 k70) _ _ l1_10 [.slice A1_10 l1_10.length c1_10] from (Kd.FK_slice_mk (Kd.V_reads' (Kd.V_mono (ok' := (fun k_ => ((P1_2_ k_ ∨ P1_6_ k_ ∨ P1_10_ k_) ∨ w.heap.size ≤ k_) ∧ k_ ≠ gb215)) (HO_216010.out) (fun k_ hk => ⟨hk.1.1, hk.1.2⟩))).2.1 (Kd.V_F (Kd.V_mono (ok' := (fun k_ => ((P1_2_ k_ ∨ P1_6_ k_ ∨ P1_10_ k_) ∨ w.heap.size ≤ k_) ∧ k_ ≠ gb215)) (HO_216010.out) (fun k_ hk => ⟨hk.1.1, hk.1.2⟩))))) (Reps.one (show Kd.FK (Kd.slice 70 k70) _ _ y217 [.slice Ao28 y217.length co28] from (Kd.FK_slice_mk (Kd.R_reads' (Kd.R_mono (ok' := (fun k_ => ((P1_2_ k_ ∨ P1_6_ k_ ∨ P1_10_ k_) ∨ w.heap.size ≤ k_) ∧ k_ ≠ gb215)) (Kd.R_types (HO219.out) BK215.out (by decide)) (fun k_ hk => ⟨(.inr (hk.1.1)), hk.2⟩))).2.1 (Kd.R_F (Kd.R_mono (ok' := (fun k_ => ((P1_2_ k_ ∨ P1_6_ k_ ∨ P1_10_ k_) ∨ w.heap.size ≤ k_) ∧ k_ ≠ gb215)) (Kd.R_types (HO219.out) BK215.out (by decide)) (fun k_ hk => ⟨(.inr (hk.1.1)), hk.2⟩))))) (Reps.none _ _)))))); intro v221 w29 ho30 hb hg_ hnew_; clear hg_ hnew_; (first | rw [← Ny220.out] at ho30 | (simp only [Int.reduceToNat] at ho30; rw [← Ny220.out] at ho30)); have HO222 := Aside0.mk (Kd.N_lower ho30 (below_size (bq HB.out))); replace BK215 := bb BK215 hb; replace HB := bh HB hb; clear HO219; clear hb ho30; obtain ⟨Ao31, co31, eo31⟩ := Kd.N_slice HO222.out; subst eo31) | ((with_reducible refine gate_callee (f := 72) rfl ?_); refine gL (some 57) rfl Try.func72 #[.int .i64 a0, .slice Ao31 y220.length co31] rfl ?_; (with_reducible refine (steepleref29_lists.calls k2 a0 _ _ y220 true _ ?side1 ?side2 A16.out).mono ?_); (case side1 => exact cq (Kd.N_reads' HO222.out).2.2); (case side2 => exact (Kd.N_reads' HO222.out).2.1); rintro e w32 ⟨rfl, hb⟩; refine ⟨_, rfl, ?_⟩; replace BK215 := bb BK215 hb; replace HB := bh HB hb; (try clear hb); (try clear hk hi); obtain ⟨hcz33_0, hcz33_1, hcz33_2, hcz33_3, hcz33_4, hcz33_5, hcz33_6, hcz33_7, hcz33_8, hcz33_9, hcz33_10, hcz33_11, hcz33_12⟩ := zc13 BK215; obtain ⟨hfz33_0, hfz33_1, hfz33_2, hfz33_3, hfz33_4, hfz33_5, hfz33_6, hfz33_7, hfz33_8, hfz33_9, hfz33_10, hfz33_11, hfz33_12⟩ := zf13 BK215) | (go_at_call 72; (with_reducible refine (steepleref29_lists.calls k2 a0 _ _ l1_1 true _ ?side1 ?side2 A18.out).mono ?_); (case side1 => exact cq (Kd.C_below HR1_1.out HB.out)); (case side2 => exact HC1_1.out); rintro e w34 ⟨rfl, hb⟩; replace BK215 := bb BK215 hb; replace HB := bh HB hb; (try clear hb); (try clear hk hi); obtain ⟨hcz35_0, hcz35_1, hcz35_2, hcz35_3, hcz35_4, hcz35_5, hcz35_6, hcz35_7, hcz35_8, hcz35_9, hcz35_10, hcz35_11, hcz35_12⟩ := zc13 BK215; obtain ⟨hfz35_0, hfz35_1, hfz35_2, hfz35_3, hfz35_4, hfz35_5, hfz35_6, hfz35_7, hfz35_8, hfz35_9, hfz35_10, hfz35_11, hfz35_12⟩ := zf13 BK215) | (go_at_call 72; (with_reducible refine (steepleref29_lists.calls k2 a0 _ _ l1_3 true _ ?side1 ?side2 A20.out).mono ?_); (case side1 => exact cq (Kd.C_below HR1_3.out HB.out)); (case side2 => exact HC1_3.out); rintro e w36 ⟨rfl, hb⟩; replace BK215 := bb BK215 hb; replace HB := bh HB hb; (try clear hb); (try clear hk hi); obtain ⟨hcz37_0, hcz37_1, hcz37_2, hcz37_3, hcz37_4, hcz37_5, hcz37_6, hcz37_7, hcz37_8, hcz37_9, hcz37_10, hcz37_11, hcz37_12⟩ := zc13 BK215; obtain ⟨hfz37_0, hfz37_1, hfz37_2, hfz37_3, hfz37_4, hfz37_5, hfz37_6, hfz37_7, hfz37_8, hfz37_9, hfz37_10, hfz37_11, hfz37_12⟩ := zf13 BK215) | (go_at_call 72; (with_reducible refine (steepleref29_lists.calls k2 a0 _ _ l1_7 true _ ?side1 ?side2 A22.out).mono ?_); (case side1 => exact cq (Kd.C_below HR1_7.out HB.out)); (case side2 => exact HC1_7.out); rintro e w38 ⟨rfl, hb⟩; replace BK215 := bb BK215 hb; replace HB := bh HB hb; (try clear hb); (try clear hk hi); obtain ⟨hcz39_0, hcz39_1, hcz39_2, hcz39_3, hcz39_4, hcz39_5, hcz39_6, hcz39_7, hcz39_8, hcz39_9, hcz39_10, hcz39_11, hcz39_12⟩ := zc13 BK215; obtain ⟨hfz39_0, hfz39_1, hfz39_2, hfz39_3, hfz39_4, hfz39_5, hfz39_6, hfz39_7, hfz39_8, hfz39_9, hfz39_10, hfz39_11, hfz39_12⟩ := zf13 BK215) | (go_at_call 72; (with_reducible refine (steepleref29_lists.calls k2 a0 _ _ l1_11 t227 _ ?side1 ?side2 A24.out).mono ?_); (case side1 => exact cq (Kd.C_below HR1_11.out HB.out)); (case side2 => exact HC1_11.out); rintro e w40 ⟨rfl, hb⟩; replace HB := bh HB hb; (try clear hb); (try clear hk hi)))
     go_ret
     exact ⟨er, bq HB.out⟩
def octet_Wide.j0 : Nat → Int → Bool → Option (Int)
 | 0, _, _ => none
 | k + 1, x0, x3 => if x3 = true then (some 0) else (if x0 ≤ 3 then (some 1) else (if 0 ≤ (wrap64 (x0 - 3)) then (some (shl .i64 1 (wrap64 (x0 - 3)))) else (none)))
def octet_Wide.f (k : Nat) (a0 : Int) : Option (Int) := if a0 < 0 then (octet_Wide.j0 k a0 true) else (octet_Wide.j0 k a0 (decide (a0 > 7)))
theorem octet_Wide.mono_l : ∀ k, (∀ y0 y1, LeO (octet_Wide.j0 k y0 y1) (octet_Wide.j0 (k + 1) y0 y1))
 | 0 => fun _ _ r h => by simp [octet_Wide.j0] at h
 | k + 1 => by
  have ih0 := octet_Wide.mono_l k
  intro y0 y1
  unfold octet_Wide.j0
  repeat' first
  | (with_reducible exact ih0 _ _)
  | (with_reducible exact LeO.refl _)
  | (with_reducible exact LeO.none _)
  | (with_reducible refine LeO.ite ?_ ?_)
  | (with_reducible refine LeO.bind ?_ (fun _ => ?_))
theorem octet_Wide.mono : ∀ a0 k, LeO (octet_Wide.f k a0) (octet_Wide.f (k + 1) a0) := by
 intro a0 k
 have ih0 := octet_Wide.mono_l k
 unfold octet_Wide.f
 repeat' first
   | (with_reducible exact ih0 _ _)
   | (with_reducible exact LeO.refl _)
   | (with_reducible exact LeO.none _)
   | (with_reducible refine LeO.ite ?_ ?_)
   | (with_reducible refine LeO.bind ?_ (fun _ => ?_))
theorem octet_Wide.calls (k : Nat) (a0 : Int) (r : Int) (w : World) (h : octet_Wide.f k a0 = some r) :
  Calls Try.prog 90 #[.int .i64 a0] w fun e w' => e = .returned (.int .i64 r) ∧ Drawn0 w w' := by
 have H : (if a0 < 0 then (octet_Wide.j0 k a0 true) else (octet_Wide.j0 k a0 (decide (a0 > 7)))) = some r := h
 clear h
 have HC2 := Aside0.mk H
 clear H
 go_enter Try.func90, Try.ntmps90
 go_upto_region 1 with (fail)
 go_cut [3] (fun v3 wc => ∃ (kq : Nat) (x3_1 : Bool), v3 = .bool x3_1 ∧ Aside0 (octet_Wide.j0 kq a0 x3_1 = some r) ∧ Aside0 (kq ≤ k) ∧ Drawn0 w wc)
 case first =>
  have H := HC2.out
  clear HC2
  by_cases c3 : a0 < 0
  ·rw [if_pos c3] at H
   have c3b0 : decide (a0 < 0) = true := decide_eq_true c3
   clear c3
   (first | rw [c3b0] | (simp only [i64_w, i32_w]; rw [c3b0]) | skip)
   have H' := Aside0.mk H
   clear H
   go_wp2
   go_meet
   case rel => exact ⟨_, (true), (by first | rfl | (simp; done) | (simp [*]; done)), H', ⟨by first | omega | exact Nat.le_refl _⟩, by repeat (first | exact Drawn0.refl _ | apply Drawn0.step)⟩
  rw [if_neg c3] at H
  have c3b0 : decide (a0 < 0) = false := decide_eq_false c3
  clear c3
  (first | rw [c3b0] | (simp only [i64_w, i32_w]; rw [c3b0]) | skip)
  have H' := Aside0.mk H
  clear H
  go_wp2
  go_meet
  case rel => exact ⟨_, (decide (a0 > 7)), (by first | rfl | (simp; done) | (simp [*]; done)), H', ⟨by first | omega | exact Nat.le_refl _⟩, by repeat (first | exact Drawn0.refl _ | apply Drawn0.step)⟩
 case rest =>
  clear HC2
  try clear p2
  try clear c3
  try clear c3b0
  obtain ⟨kq, x3_1, rfl, HA, HJ1, ⟨mc1, rfl⟩⟩ := hcut
  cases kq with
  | zero => exact absurd HA.out (by simp [octet_Wide.j0])
  | succ kj1 =>
   have H := HA.out
   clear HA
   simp only [octet_Wide.j0] at H
   by_cases c4 : x3_1 = true
   ·subst c4
    have H1 : (some 0) = some r := by rw [if_pos rfl] at H; exact H
    clear H
    have H := H1
    clear H1
    obtain rfl := Option.some.inj H
    go_wp2
    go_ret
    exact ⟨by first | rfl | (simp; done) | (simp [*]; done), by repeat (first | exact Drawn0.refl _ | apply Drawn0.step)⟩
   replace c4 := Bool.eq_false_iff.mpr c4
   subst c4
   have H1 : (if a0 ≤ 3 then (some 1) else (if 0 ≤ (wrap64 (a0 - 3)) then (some (shl .i64 1 (wrap64 (a0 - 3)))) else (none))) = some r := by rw [if_neg (show ¬ (false = true) by decide)] at H; exact H
   clear H
   have H := H1
   clear H1
   by_cases c5 : a0 ≤ 3
   ·rw [if_pos c5] at H
    have c5b0 : decide (a0 ≤ 3) = true := decide_eq_true c5
    clear c5
    obtain rfl := Option.some.inj H
    go_wp2
    go_ret
    exact ⟨by first | rfl | (simp; done) | (simp [*]; done), by repeat (first | exact Drawn0.refl _ | apply Drawn0.step)⟩
   rw [if_neg c5] at H
   have c5b0 : decide (a0 ≤ 3) = false := decide_eq_false c5
   clear c5
   obtain ⟨ji6, hji6⟩ : ∃ j_ : Int, (wrap64 (a0 - 3)) = j_ := ⟨_, rfl⟩
   replace H : (if 0 ≤ (ji6) then (some (shl .i64 1 (ji6))) else (none)) = some r := by first | (rw [hji6] at H; exact H) | (simp only [hji6] at H ⊢; exact H)
   have hji6w : (IntKind.i64.wrap (a0 - 3)) = ji6 := (i64_w _).trans hji6
   by_cases c7 : 0 ≤ (ji6)
   rotate_left
   ·rw [if_neg c7] at H
    exact absurd H (by simp)

   rw [if_pos c7] at H
   have c7b0 := eq_true c7
   have c7b1 : decide (0 ≤ (ji6)) = true := decide_eq_true c7
   clear c7
   obtain ⟨ji8, hji8⟩ : ∃ j_ : Int, (shl .i64 1 (ji6)) = j_ := ⟨_, rfl⟩
   replace H : (some ji8) = some r := by first | (rw [hji8] at H; exact H) | (simp only [hji8] at H ⊢; exact H)
   have hji8_ : (IntKind.i64.wrap (1 * 2 ^ min (ji6).toNat 64)) = ji8 := hji8
   have hji8z : (ji6) ≤ 64 → (IntKind.i64.wrap (1 * 2 ^ (ji6).toNat)) = ji8 := shl_small hji8
   have hji8u : (IntKind.i64.wrap (2 ^ min (ji6).toNat 64)) = ji8 := by have h_ := hji8_; rw [Int.one_mul] at h_; exact h_
   have hji8v : (ji6) ≤ 64 → (IntKind.i64.wrap (2 ^ (ji6).toNat)) = ji8 := fun hle_ => by have h_ := hji8z hle_; rw [Int.one_mul] at h_; exact h_
   have hji8y : (wrap64 (1 * 2 ^ min (ji6).toNat 64)) = ji8 := (i64_w _).symm.trans hji8_
   have hji8x : (ji6) ≤ 64 → (wrap64 (1 * 2 ^ (ji6).toNat)) = ji8 := fun h_ => (i64_w _).symm.trans (hji8z h_)
   obtain rfl := Option.some.inj H
   go_wp2
   go_ret
   exact ⟨by first | rfl | (simp; done) | (simp only [← hji6, ← hji8] <;> (first | rfl | simp)) | (simp [*]; done), by repeat (first | exact Drawn0.refl _ | apply Drawn0.step)⟩
def proof_shaped_1.f (a0 : ByteArray) : Option (Bool) := some ((a0.size : Int) != 32)
theorem proof_shaped_1.calls (a0 : ByteArray) (r : Bool) (w : World) (h : proof_shaped_1.f a0 = some r) :
  Calls Try.prog 100 #[.string a0] w fun e w' => e = .returned (.bool r) ∧ Drawn0 w w' := by
 have H : (some ((a0.size : Int) != 32)) = some r := h
 clear h
 obtain rfl := Option.some.inj H
 go_enter Try.func100, Try.ntmps100
 go_wp2
 go_ret
 exact ⟨by first | rfl | (simp; done) | (simp [*]; done), by repeat (first | exact Drawn0.refl _ | apply Drawn0.step)⟩

end Go.Proofs.Ythgiifakcgjlaaa.P
