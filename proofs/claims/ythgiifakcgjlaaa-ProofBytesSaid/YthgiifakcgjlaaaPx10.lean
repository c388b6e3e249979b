/- Functions that the law reaches, as Lean functions. Conditions: those that each theorem names. -/
import Derived.Test.YthgiifakcgjlaaaPx0
import Derived.Test.YthgiifakcgjlaaaX2
import Derived.Test.YthgiifakcgjlaaaX2
import Derived.Test.YthgiifakcgjlaaaHBox
import Derived.Test.YthgiifakcgjlaaaPx8
import Derived.Test.YthgiifakcgjlaaaPx9
namespace Go.Proofs.Ythgiifakcgjlaaa.P
open Go.RowKit YthgiifakcgjlaaaX YthgiifakcgjlaaaW.PrintWords YthgiifakcgjlaaaW.PrintLast YthgiifakcgjlaaaW.PrintMore
attribute [local go_sem] max2_int min2_int max_two min_two max_three min_three max_four min_four
set_option linter.unusedVariables false
set_option linter.unusedSimpArgs false

mutual
def proof_shaped.j0 : Nat → Int → Bool → ByteArray → List (List (S61)) → List (S61) → List (List (S61)) → Int → Int → List (S61) → List (List (S61)) → Int → Int → List (S61) → List (List (S61)) → List ByteArray → Option (Bool)
 | 0, _, _, _, _, _, _, _, _, _, _, _, _, _, _, _ => none
 | k + 1, x2, x25, x242000, x242001, x242002, x242003, x242004, x242005, x242006, x242007, x242008, x242009, x242010, x242011, x242012 => if x25 = true then (some false) else ((slices_ContainsFunc_string_string.f k x242012).bind fun t243 => (if t243 = true then (some false) else ((some (([x242002, x242006, x242010, (([(⟨x242004, x242005⟩ : S61), (⟨x242008, x242009⟩ : S61)] : List (S61)))] : List (List (S61))) : List (List (S61)))).bind fun y247 => (proof_shaped.l0 k x2 y247 (y247.length : Int) 0 x242000 x242001 x242002 x242003 x242004 x242005 x242006 x242007 x242008 x242009 x242010 x242011 x242012))))
def proof_shaped.l0 : Nat → Int → List (List (S61)) → Int → Int → ByteArray → List (List (S61)) → List (S61) → List (List (S61)) → Int → Int → List (S61) → List (List (S61)) → Int → Int → List (S61) → List (List (S61)) → List ByteArray → Option (Bool)
 | 0, _, _, _, _, _, _, _, _, _, _, _, _, _, _, _, _, _ => none
 | k + 1, x5, x43, x44, x45, x242000, x242001, x242002, x242003, x242004, x242005, x242006, x242007, x242008, x242009, x242010, x242011, x242012 => if x45 < x44 then (if 0 ≤ x45 then (if x45 < (x43.length : Int) then ((proof_shaped_2.f k (rd_L6 x43 x45) x5).bind fun t251 => (if t251 = true then (some false) else (proof_shaped.l0 k x5 x43 x44 (wrap64 (x45 + 1)) x242000 x242001 x242002 x242003 x242004 x242005 x242006 x242007 x242008 x242009 x242010 x242011 x242012))) else (none)) else (none)) else ((some (([x242001, x242003, x242007, x242011] : List (List (List (S61)))) : List (List (List (S61))))).bind fun y252 => (proof_shaped.l1 k x5 y252 (y252.length : Int) 0))
def proof_shaped.l1 : Nat → Int → List (List (List (S61))) → Int → Int → Option (Bool)
 | 0, _, _, _, _ => none
 | k + 1, x5, x62, x63, x64 => if x64 < x63 then (if 0 ≤ x64 then (if x64 < (x62.length : Int) then (if ((rd_L9 x62 x64).length : Int) > 4096 then (some false) else ((api_Elem_104.f k (rd_L9 x62 x64) x5).bind fun t256 => (if t256 = true then (some false) else (proof_shaped.l1 k x5 x62 x63 (wrap64 (x64 + 1)))))) else (none)) else (none)) else (some true)
end
def proof_shaped.f (k : Nat) (a0 : Int) (a1_0 : ByteArray) (l1_1 : List (List (S61))) (l1_2 : List (S61)) (l1_3 : List (List (S61))) (a1_4 : Int) (a1_5 : Int) (l1_6 : List (S61)) (l1_7 : List (List (S61))) (a1_8 : Int) (a1_9 : Int) (l1_10 : List (S61)) (l1_11 : List (List (S61))) (l1_12 : List ByteArray) : Option (Bool) := (octet_Wide.f k a0).bind fun t242 => (if t242 = 0 then (proof_shaped.j0 k a0 true a1_0 l1_1 l1_2 l1_3 a1_4 a1_5 l1_6 l1_7 a1_8 a1_9 l1_10 l1_11 l1_12) else (if (a1_0.size : Int) = 32 then (proof_shaped.j0 k a0 (decide ((l1_12.length : Int) > 4096)) a1_0 l1_1 l1_2 l1_3 a1_4 a1_5 l1_6 l1_7 a1_8 a1_9 l1_10 l1_11 l1_12) else (proof_shaped.j0 k a0 true a1_0 l1_1 l1_2 l1_3 a1_4 a1_5 l1_6 l1_7 a1_8 a1_9 l1_10 l1_11 l1_12)))
set_option maxHeartbeats 8000000 in
set_option maxRecDepth 100000 in
theorem proof_shaped.calls (k : Nat) (a0 : Int) (a1_0 : ByteArray) (P1_1_ : Nat → Prop) (A1_1 : Option Addr) (c1_1 : Nat) (l1_1 : List (List (S61))) (P1_2_ : Nat → Prop) (A1_2 : Option Addr) (c1_2 : Nat) (l1_2 : List (S61)) (P1_3_ : Nat → Prop) (A1_3 : Option Addr) (c1_3 : Nat) (l1_3 : List (List (S61))) (a1_4 : Int) (a1_5 : Int) (P1_6_ : Nat → Prop) (A1_6 : Option Addr) (c1_6 : Nat) (l1_6 : List (S61)) (P1_7_ : Nat → Prop) (A1_7 : Option Addr) (c1_7 : Nat) (l1_7 : List (List (S61))) (a1_8 : Int) (a1_9 : Int) (P1_10_ : Nat → Prop) (A1_10 : Option Addr) (c1_10 : Nat) (l1_10 : List (S61)) (P1_11_ : Nat → Prop) (A1_11 : Option Addr) (c1_11 : Nat) (l1_11 : List (List (S61))) (A1_12 : Option Addr) (c1_12 : Nat) (l1_12 : List ByteArray) (r : Bool) (w : World) (hs1_1 : Kd.V (Kd.slice 61 k61) 58 w w.heap.size (fun k_ => P1_1_ k_) (.slice A1_1 l1_1.length c1_1) l1_1) (hs1_2 : Kd.V k61 61 w w.heap.size (fun k_ => P1_2_ k_) (.slice A1_2 l1_2.length c1_2) l1_2) (hs1_3 : Kd.V (Kd.slice 61 k61) 58 w w.heap.size (fun k_ => P1_3_ k_) (.slice A1_3 l1_3.length c1_3) l1_3) (hs1_6 : Kd.V k61 61 w w.heap.size (fun k_ => P1_6_ k_) (.slice A1_6 l1_6.length c1_6) l1_6) (hs1_7 : Kd.V (Kd.slice 61 k61) 58 w w.heap.size (fun k_ => P1_7_ k_) (.slice A1_7 l1_7.length c1_7) l1_7) (hs1_10 : Kd.V k61 61 w w.heap.size (fun k_ => P1_10_ k_) (.slice A1_10 l1_10.length c1_10) l1_10) (hs1_11 : Kd.V (Kd.slice 61 k61) 58 w w.heap.size (fun k_ => P1_11_ k_) (.slice A1_11 l1_11.length c1_11) l1_11) (hr1_12 : Kd.C Kd.string w A1_12 l1_12.length l1_12) (hc1_12 : l1_12.length ≤ c1_12) (h : proof_shaped.f k a0 a1_0 l1_1 l1_2 l1_3 a1_4 a1_5 l1_6 l1_7 a1_8 a1_9 l1_10 l1_11 l1_12 = some r) :
  Calls Try.prog 62 #[.int .i64 a0, .agg #[.string a1_0, .slice A1_1 l1_1.length c1_1, .slice A1_2 l1_2.length c1_2, .slice A1_3 l1_3.length c1_3, .int .u64 a1_4, .int .u64 a1_5, .slice A1_6 l1_6.length c1_6, .slice A1_7 l1_7.length c1_7, .int .u64 a1_8, .int .u64 a1_9, .slice A1_10 l1_10.length c1_10, .slice A1_11 l1_11.length c1_11, .slice A1_12 l1_12.length c1_12]] w fun e w' => e = .returned (.bool r) ∧ Below w.heap.size w w' := by
 have hu66 := Try.underlying66
 have hu61 := Try.underlying61
 have HO1_1 := Aside0.mk (show Kd.V (Kd.slice 61 k61) 58 w w.heap.size (fun k_ => ((P1_1_ k_ ∨ P1_2_ k_ ∨ P1_3_ k_ ∨ P1_6_ k_ ∨ P1_7_ k_ ∨ P1_10_ k_ ∨ P1_11_ k_) ∨ w.heap.size ≤ k_)) (.slice A1_1 l1_1.length c1_1) l1_1 from Kd.V_mono hs1_1 (fun k_ hk => .inl (.inl hk)))
 have HO1_2 := Aside0.mk (show Kd.V k61 61 w w.heap.size (fun k_ => ((P1_1_ k_ ∨ P1_2_ k_ ∨ P1_3_ k_ ∨ P1_6_ k_ ∨ P1_7_ k_ ∨ P1_10_ k_ ∨ P1_11_ k_) ∨ w.heap.size ≤ k_)) (.slice A1_2 l1_2.length c1_2) l1_2 from Kd.V_mono hs1_2 (fun k_ hk => .inl (.inr (.inl hk))))
 have HO1_3 := Aside0.mk (show Kd.V (Kd.slice 61 k61) 58 w w.heap.size (fun k_ => ((P1_1_ k_ ∨ P1_2_ k_ ∨ P1_3_ k_ ∨ P1_6_ k_ ∨ P1_7_ k_ ∨ P1_10_ k_ ∨ P1_11_ k_) ∨ w.heap.size ≤ k_)) (.slice A1_3 l1_3.length c1_3) l1_3 from Kd.V_mono hs1_3 (fun k_ hk => .inl (.inr (.inr (.inl hk)))))
 have HO1_6 := Aside0.mk (show Kd.V k61 61 w w.heap.size (fun k_ => ((P1_1_ k_ ∨ P1_2_ k_ ∨ P1_3_ k_ ∨ P1_6_ k_ ∨ P1_7_ k_ ∨ P1_10_ k_ ∨ P1_11_ k_) ∨ w.heap.size ≤ k_)) (.slice A1_6 l1_6.length c1_6) l1_6 from Kd.V_mono hs1_6 (fun k_ hk => .inl (.inr (.inr (.inr (.inl hk))))))
 have HO1_7 := Aside0.mk (show Kd.V (Kd.slice 61 k61) 58 w w.heap.size (fun k_ => ((P1_1_ k_ ∨ P1_2_ k_ ∨ P1_3_ k_ ∨ P1_6_ k_ ∨ P1_7_ k_ ∨ P1_10_ k_ ∨ P1_11_ k_) ∨ w.heap.size ≤ k_)) (.slice A1_7 l1_7.length c1_7) l1_7 from Kd.V_mono hs1_7 (fun k_ hk => .inl (.inr (.inr (.inr (.inr (.inl hk)))))))
 have HO1_10 := Aside0.mk (show Kd.V k61 61 w w.heap.size (fun k_ => ((P1_1_ k_ ∨ P1_2_ k_ ∨ P1_3_ k_ ∨ P1_6_ k_ ∨ P1_7_ k_ ∨ P1_10_ k_ ∨ P1_11_ k_) ∨ w.heap.size ≤ k_)) (.slice A1_10 l1_10.length c1_10) l1_10 from Kd.V_mono hs1_10 (fun k_ hk => .inl (.inr (.inr (.inr (.inr (.inr (.inl hk))))))))
 have HO1_11 := Aside0.mk (show Kd.V (Kd.slice 61 k61) 58 w w.heap.size (fun k_ => ((P1_1_ k_ ∨ P1_2_ k_ ∨ P1_3_ k_ ∨ P1_6_ k_ ∨ P1_7_ k_ ∨ P1_10_ k_ ∨ P1_11_ k_) ∨ w.heap.size ≤ k_)) (.slice A1_11 l1_11.length c1_11) l1_11 from Kd.V_mono hs1_11 (fun k_ hk => .inl (.inr (.inr (.inr (.inr (.inr (.inr hk))))))))
 have HR1_12 := Aside0.mk hr1_12
 have HC1_12 := Aside0.mk hc1_12
 clear hr1_12 hc1_12
 have HB := Aside0.mk (Below.refl w.heap.size w)
 have H : ((octet_Wide.f k a0).bind fun t242 => (if t242 = 0 then (proof_shaped.j0 k a0 true a1_0 l1_1 l1_2 l1_3 a1_4 a1_5 l1_6 l1_7 a1_8 a1_9 l1_10 l1_11 l1_12) else (if (a1_0.size : Int) = 32 then (proof_shaped.j0 k a0 (decide ((l1_12.length : Int) > 4096)) a1_0 l1_1 l1_2 l1_3 a1_4 a1_5 l1_6 l1_7 a1_8 a1_9 l1_10 l1_11 l1_12) else (proof_shaped.j0 k a0 true a1_0 l1_1 l1_2 l1_3 a1_4 a1_5 l1_6 l1_7 a1_8 a1_9 l1_10 l1_11 l1_12)))) = some r := h
 clear h
 have HC3 := Aside0.mk H
 clear H
 go_enter Try.func62, Try.ntmps62
 go_upto_region 1 with (first | ((with_reducible refine gate_dst (N := 2) rfl ?_); (try (refine gate_guard (by rfl) ?_; dsimp only)); refine box_event ?hg (N := 2) ?hd (cs := #[.int .i64 a0]) (t := 3) ?hr ?_; (case hd => rfl); (case hg => rfl); (case hr => go_simp <;> rfl); intro gl hgl wl hbox hb; have BY := Aside0.mk hbox; replace HO1_1 := Aside0.mk (Kd.V_below HO1_1.out hb); replace HO1_2 := Aside0.mk (Kd.V_below HO1_2.out hb); replace HO1_3 := Aside0.mk (Kd.V_below HO1_3.out hb); replace HO1_6 := Aside0.mk (Kd.V_below HO1_6.out hb); replace HO1_7 := Aside0.mk (Kd.V_below HO1_7.out hb); replace HO1_10 := Aside0.mk (Kd.V_below HO1_10.out hb); replace HO1_11 := Aside0.mk (Kd.V_below HO1_11.out hb); replace HB := bh HB hb; clear hb hbox hgl) | ((with_reducible refine gate_dst (N := 3) rfl ?_); (try (refine gate_guard (by rfl) ?_; dsimp only)); refine box_event ?hg (N := 3) ?hd (cs := #[.string a1_0, .slice A1_1 l1_1.length c1_1, .slice A1_2 l1_2.length c1_2, .slice A1_3 l1_3.length c1_3, .int .u64 a1_4, .int .u64 a1_5, .slice A1_6 l1_6.length c1_6, .slice A1_7 l1_7.length c1_7, .int .u64 a1_8, .int .u64 a1_9, .slice A1_10 l1_10.length c1_10, .slice A1_11 l1_11.length c1_11, .slice A1_12 l1_12.length c1_12]) (t := 66) ?hr ?_; (case hd => rfl); (case hg => rfl); (case hr => go_simp <;> rfl); intro gb241 hg w4 hbox hb; replace BY := bb BY hb; have BK241 := Aside0.mk hbox; have GW241 := ge hg HB; have GE241 := ge hg HB; replace HO1_1 := Aside0.mk (Kd.V_below (Kd.V_elderB (by (with_reducible repeat (first | apply Kd.V_alloc | apply Kd.V_drewN | apply Kd.V_drew)); exact HO1_1.out) gb241 (Nat.le_of_eq hg.symm)) hb); replace HO1_2 := Aside0.mk (Kd.V_below (Kd.V_elderB (by (with_reducible repeat (first | apply Kd.V_alloc | apply Kd.V_drewN | apply Kd.V_drew)); exact HO1_2.out) gb241 (Nat.le_of_eq hg.symm)) hb); replace HO1_3 := Aside0.mk (Kd.V_below (Kd.V_elderB (by (with_reducible repeat (first | apply Kd.V_alloc | apply Kd.V_drewN | apply Kd.V_drew)); exact HO1_3.out) gb241 (Nat.le_of_eq hg.symm)) hb); replace HO1_6 := Aside0.mk (Kd.V_below (Kd.V_elderB (by (with_reducible repeat (first | apply Kd.V_alloc | apply Kd.V_drewN | apply Kd.V_drew)); exact HO1_6.out) gb241 (Nat.le_of_eq hg.symm)) hb); replace HO1_7 := Aside0.mk (Kd.V_below (Kd.V_elderB (by (with_reducible repeat (first | apply Kd.V_alloc | apply Kd.V_drewN | apply Kd.V_drew)); exact HO1_7.out) gb241 (Nat.le_of_eq hg.symm)) hb); replace HO1_10 := Aside0.mk (Kd.V_below (Kd.V_elderB (by (with_reducible repeat (first | apply Kd.V_alloc | apply Kd.V_drewN | apply Kd.V_drew)); exact HO1_10.out) gb241 (Nat.le_of_eq hg.symm)) hb); replace HO1_11 := Aside0.mk (Kd.V_below (Kd.V_elderB (by (with_reducible repeat (first | apply Kd.V_alloc | apply Kd.V_drewN | apply Kd.V_drew)); exact HO1_11.out) gb241 (Nat.le_of_eq hg.symm)) hb); replace HB := bh HB hb; clear hb hbox hg))
 (try simp only [Act.put, sA, s0, sS])
 go_cut [25] (fun v25 wc => ∃ (kq : Nat) (x25_2 : Bool), v25 = .bool x25_2 ∧ Aside0 (proof_shaped.j0 kq a0 x25_2 a1_0 l1_1 l1_2 l1_3 a1_4 a1_5 l1_6 l1_7 a1_8 a1_9 l1_10 l1_11 l1_12 = some r) ∧ Aside0 (kq ≤ k) ∧ Aside0 (Kd.V (Kd.slice 61 k61) 58 wc w.heap.size (fun k_ => ((P1_1_ k_ ∨ P1_2_ k_ ∨ P1_3_ k_ ∨ P1_6_ k_ ∨ P1_7_ k_ ∨ P1_10_ k_ ∨ P1_11_ k_) ∨ w.heap.size ≤ k_) ∧ k_ ≠ gb241) (.slice A1_1 l1_1.length c1_1) l1_1) ∧ Aside0 (Kd.V k61 61 wc w.heap.size (fun k_ => ((P1_1_ k_ ∨ P1_2_ k_ ∨ P1_3_ k_ ∨ P1_6_ k_ ∨ P1_7_ k_ ∨ P1_10_ k_ ∨ P1_11_ k_) ∨ w.heap.size ≤ k_) ∧ k_ ≠ gb241) (.slice A1_2 l1_2.length c1_2) l1_2) ∧ Aside0 (Kd.V (Kd.slice 61 k61) 58 wc w.heap.size (fun k_ => ((P1_1_ k_ ∨ P1_2_ k_ ∨ P1_3_ k_ ∨ P1_6_ k_ ∨ P1_7_ k_ ∨ P1_10_ k_ ∨ P1_11_ k_) ∨ w.heap.size ≤ k_) ∧ k_ ≠ gb241) (.slice A1_3 l1_3.length c1_3) l1_3) ∧ Aside0 (Kd.V k61 61 wc w.heap.size (fun k_ => ((P1_1_ k_ ∨ P1_2_ k_ ∨ P1_3_ k_ ∨ P1_6_ k_ ∨ P1_7_ k_ ∨ P1_10_ k_ ∨ P1_11_ k_) ∨ w.heap.size ≤ k_) ∧ k_ ≠ gb241) (.slice A1_6 l1_6.length c1_6) l1_6) ∧ Aside0 (Kd.V (Kd.slice 61 k61) 58 wc w.heap.size (fun k_ => ((P1_1_ k_ ∨ P1_2_ k_ ∨ P1_3_ k_ ∨ P1_6_ k_ ∨ P1_7_ k_ ∨ P1_10_ k_ ∨ P1_11_ k_) ∨ w.heap.size ≤ k_) ∧ k_ ≠ gb241) (.slice A1_7 l1_7.length c1_7) l1_7) ∧ Aside0 (Kd.V k61 61 wc w.heap.size (fun k_ => ((P1_1_ k_ ∨ P1_2_ k_ ∨ P1_3_ k_ ∨ P1_6_ k_ ∨ P1_7_ k_ ∨ P1_10_ k_ ∨ P1_11_ k_) ∨ w.heap.size ≤ k_) ∧ k_ ≠ gb241) (.slice A1_10 l1_10.length c1_10) l1_10) ∧ Aside0 (Kd.V (Kd.slice 61 k61) 58 wc w.heap.size (fun k_ => ((P1_1_ k_ ∨ P1_2_ k_ ∨ P1_3_ k_ ∨ P1_6_ k_ ∨ P1_7_ k_ ∨ P1_10_ k_ ∨ P1_11_ k_) ∨ w.heap.size ≤ k_) ∧ k_ ≠ gb241) (.slice A1_11 l1_11.length c1_11) l1_11) ∧ Aside0 (wc.heap[gb241]? = some (.cells #[.string a1_0, (.slice A1_1 l1_1.length c1_1), (.slice A1_2 l1_2.length c1_2), (.slice A1_3 l1_3.length c1_3), .int .u64 a1_4, .int .u64 a1_5, (.slice A1_6 l1_6.length c1_6), (.slice A1_7 l1_7.length c1_7), .int .u64 a1_8, .int .u64 a1_9, (.slice A1_10 l1_10.length c1_10), (.slice A1_11 l1_11.length c1_11), (.slice A1_12 l1_12.length c1_12)] 66 (0, 0))) ∧ Aside0 (wc.heap[gl]? = some (.cells #[.int .i64 a0] 3 (0, 0))) ∧ Aside0 (Below w.heap.size w wc))
 case first =>
  have hcY := lev_cell BY
  have H := HC3.out
  clear HC3
  obtain ⟨t242, A5, H⟩ := bm2 H
  try dsimp only at H
  by_cases c6 : t242 = 0
  ·rw [if_pos c6] at H
   have c6b0 : (t242 == 0) = true := beq_iff_eq.mpr c6
   have c6b1 : (t242 != 0) = false := bne_eq_false_iff_eq.mpr c6
   clear c6
   (first | rw [c6b0] | (simp only [i64_w, i32_w]; rw [c6b0]) | skip)
   have H' := Aside0.mk H
   clear H
   go_wp2_with (first | ((with_reducible refine gate_callee (f := 90) rfl ?_); refine gL (some 11) rfl Try.func90 #[.int .i64 a0] rfl ?_; (with_reducible refine (octet_Wide.calls k a0 t242 _ A5.out).mono ?_); rintro e w' ⟨rfl, ⟨nd, rfl⟩⟩; refine ⟨_, rfl, ?_⟩))
   go_meet
   case rel => exact ⟨_, (true), (by first | rfl | (simp; done) | (simp [*]; done)), H', ⟨by first | omega | exact Nat.le_refl _⟩, ⟨by (with_reducible repeat (first | apply Kd.V_alloc | apply Kd.V_drewN | apply Kd.V_drew)); exact HO1_1.out⟩, ⟨by (with_reducible repeat (first | apply Kd.V_alloc | apply Kd.V_drewN | apply Kd.V_drew)); exact HO1_2.out⟩, ⟨by (with_reducible repeat (first | apply Kd.V_alloc | apply Kd.V_drewN | apply Kd.V_drew)); exact HO1_3.out⟩, ⟨by (with_reducible repeat (first | apply Kd.V_alloc | apply Kd.V_drewN | apply Kd.V_drew)); exact HO1_6.out⟩, ⟨by (with_reducible repeat (first | apply Kd.V_alloc | apply Kd.V_drewN | apply Kd.V_drew)); exact HO1_7.out⟩, ⟨by (with_reducible repeat (first | apply Kd.V_alloc | apply Kd.V_drewN | apply Kd.V_drew)); exact HO1_10.out⟩, ⟨by (with_reducible repeat (first | apply Kd.V_alloc | apply Kd.V_drewN | apply Kd.V_drew)); exact HO1_11.out⟩, ⟨bk BK241.out⟩, ⟨bk BY.out⟩, ⟨bq HB.out⟩⟩
  rw [if_neg c6] at H
  have c6b0 : (t242 == 0) = false := beq_eq_false_iff_ne.mpr c6
  have c6b1 : (t242 != 0) = true := bne_iff_ne.mpr c6
  (first | rw [c6b0] | (simp only [i64_w, i32_w]; rw [c6b0]) | skip)
  by_cases c7 : (a1_0.size : Int) = 32
  rotate_left
  ·rw [if_neg c7] at H
   have c7b0 : ((a1_0.size : Int) == 32) = false := beq_eq_false_iff_ne.mpr c7
   have c7b1 : ((a1_0.size : Int) != 32) = true := bne_iff_ne.mpr c7
   have H' := Aside0.mk H
   clear H
   go_wp2_with (first | ((with_reducible refine gate_callee (f := 90) rfl ?_); refine gL (some 11) rfl Try.func90 #[.int .i64 a0] rfl ?_; (with_reducible refine (octet_Wide.calls k a0 t242 _ A5.out).mono ?_); rintro e w' ⟨rfl, ⟨nd, rfl⟩⟩; refine ⟨_, rfl, ?_⟩; obtain ⟨hcz9_0, hcz9_1, hcz9_2, hcz9_3, hcz9_4, hcz9_5, hcz9_6, hcz9_7, hcz9_8, hcz9_9, hcz9_10, hcz9_11, hcz9_12⟩ := zc13 BK241; obtain ⟨hfz9_0, hfz9_1, hfz9_2, hfz9_3, hfz9_4, hfz9_5, hfz9_6, hfz9_7, hfz9_8, hfz9_9, hfz9_10, hfz9_11, hfz9_12⟩ := zf13 BK241))
   go_meet
   case rel => exact ⟨_, (true), (by first | rfl | (simp; done) | (simp [*]; done)), H', ⟨by first | omega | exact Nat.le_refl _⟩, ⟨by (with_reducible repeat (first | apply Kd.V_alloc | apply Kd.V_drewN | apply Kd.V_drew)); exact HO1_1.out⟩, ⟨by (with_reducible repeat (first | apply Kd.V_alloc | apply Kd.V_drewN | apply Kd.V_drew)); exact HO1_2.out⟩, ⟨by (with_reducible repeat (first | apply Kd.V_alloc | apply Kd.V_drewN | apply Kd.V_drew)); exact HO1_3.out⟩, ⟨by (with_reducible repeat (first | apply Kd.V_alloc | apply Kd.V_drewN | apply Kd.V_drew)); exact HO1_6.out⟩, ⟨by (with_reducible repeat (first | apply Kd.V_alloc | apply Kd.V_drewN | apply Kd.V_drew)); exact HO1_7.out⟩, ⟨by (with_reducible repeat (first | apply Kd.V_alloc | apply Kd.V_drewN | apply Kd.V_drew)); exact HO1_10.out⟩, ⟨by (with_reducible repeat (first | apply Kd.V_alloc | apply Kd.V_drewN | apply Kd.V_drew)); exact HO1_11.out⟩, ⟨bk BK241.out⟩, ⟨bk BY.out⟩, ⟨bq HB.out⟩⟩
  rw [if_pos c7] at H
  have c7b0 : ((a1_0.size : Int) == 32) = true := beq_iff_eq.mpr c7
  have c7b1 : ((a1_0.size : Int) != 32) = false := bne_eq_false_iff_eq.mpr c7
  clear c7
  have H' := Aside0.mk H
  clear H
  go_wp2_with (first | ((with_reducible refine gate_callee (f := 90) rfl ?_); refine gL (some 11) rfl Try.func90 #[.int .i64 a0] rfl ?_; (with_reducible refine (octet_Wide.calls k a0 t242 _ A5.out).mono ?_); rintro e w' ⟨rfl, ⟨nd, rfl⟩⟩; refine ⟨_, rfl, ?_⟩; obtain ⟨hcz8_0, hcz8_1, hcz8_2, hcz8_3, hcz8_4, hcz8_5, hcz8_6, hcz8_7, hcz8_8, hcz8_9, hcz8_10, hcz8_11, hcz8_12⟩ := zc13 BK241; obtain ⟨hfz8_0, hfz8_1, hfz8_2, hfz8_3, hfz8_4, hfz8_5, hfz8_6, hfz8_7, hfz8_8, hfz8_9, hfz8_10, hfz8_11, hfz8_12⟩ := zf13 BK241))
  go_meet
  case rel => exact ⟨_, (decide ((l1_12.length : Int) > 4096)), (by first | rfl | (simp; done) | (simp [*]; done)), H', ⟨by first | omega | exact Nat.le_refl _⟩, ⟨by (with_reducible repeat (first | apply Kd.V_alloc | apply Kd.V_drewN | apply Kd.V_drew)); exact HO1_1.out⟩, ⟨by (with_reducible repeat (first | apply Kd.V_alloc | apply Kd.V_drewN | apply Kd.V_drew)); exact HO1_2.out⟩, ⟨by (with_reducible repeat (first | apply Kd.V_alloc | apply Kd.V_drewN | apply Kd.V_drew)); exact HO1_3.out⟩, ⟨by (with_reducible repeat (first | apply Kd.V_alloc | apply Kd.V_drewN | apply Kd.V_drew)); exact HO1_6.out⟩, ⟨by (with_reducible repeat (first | apply Kd.V_alloc | apply Kd.V_drewN | apply Kd.V_drew)); exact HO1_7.out⟩, ⟨by (with_reducible repeat (first | apply Kd.V_alloc | apply Kd.V_drewN | apply Kd.V_drew)); exact HO1_10.out⟩, ⟨by (with_reducible repeat (first | apply Kd.V_alloc | apply Kd.V_drewN | apply Kd.V_drew)); exact HO1_11.out⟩, ⟨bk BK241.out⟩, ⟨bk BY.out⟩, ⟨bq HB.out⟩⟩
 case rest =>
  clear HC3
  try clear c1
  try clear p2
  try clear c6
  try clear c6b0
  try clear c6b1
  try clear c7
  try clear c7b0
  try clear c7b1
  try clear c9
  try clear hcz8_0 hcz8_1 hcz8_10 hcz8_11 hcz8_12 hcz8_2 hcz8_3 hcz8_4 hcz8_5 hcz8_6 hcz8_7 hcz8_8 hcz8_9
  try clear hcz9_0 hcz9_1 hcz9_10 hcz9_11 hcz9_12 hcz9_2 hcz9_3 hcz9_4 hcz9_5 hcz9_6 hcz9_7 hcz9_8 hcz9_9
  try clear hfz8_0 hfz8_1 hfz8_10 hfz8_11 hfz8_12 hfz8_2 hfz8_3 hfz8_4 hfz8_5 hfz8_6 hfz8_7 hfz8_8 hfz8_9
  try clear hfz9_0 hfz9_1 hfz9_10 hfz9_11 hfz9_12 hfz9_2 hfz9_3 hfz9_4 hfz9_5 hfz9_6 hfz9_7 hfz9_8 hfz9_9
  obtain ⟨kq, x25_2, rfl, HA, HJ2, HO_242001, HO_242002, HO_242003, HO_242006, HO_242007, HO_242010, HO_242011, BK241, BY, HB⟩ := hcut
  cases kq with
  | zero => exact absurd HA.out (by simp [proof_shaped.j0])
  | succ kj2 =>
   have H := HA.out
   clear HA
   simp only [proof_shaped.j0] at H
   by_cases c10 : x25_2 = true
   ·subst c10
    have H1 : (some false) = some r := by rw [if_pos rfl] at H; exact H
    clear H
    have H := H1
    clear H1
    obtain rfl := Option.some.inj H
    go_wp2
    go_ret
    exact ⟨er, bq HB.out⟩
   replace c10 := Bool.eq_false_iff.mpr c10
   subst c10
   have H1 : ((slices_ContainsFunc_string_string.f kj2 l1_12).bind fun t243 => (if t243 = true then (some false) else ((some (([l1_2, l1_6, l1_10, (([(⟨a1_4, a1_5⟩ : S61), (⟨a1_8, a1_9⟩ : S61)] : List (S61)))] : List (List (S61))) : List (List (S61)))).bind fun y247 => (proof_shaped.l0 kj2 a0 y247 (y247.length : Int) 0 a1_0 l1_1 l1_2 l1_3 a1_4 a1_5 l1_6 l1_7 a1_8 a1_9 l1_10 l1_11 l1_12)))) = some r := by rw [if_neg (show ¬ (false = true) by decide)] at H; exact H
   clear H
   have H := H1
   clear H1
   obtain ⟨t243, A11, H⟩ := bm2 H
   try dsimp only at H
   by_cases c12 : t243 = true
   ·subst c12
    have H1 : (some false) = some r := by rw [if_pos rfl] at H; exact H
    clear H
    have H := H1
    clear H1
    obtain rfl := Option.some.inj H
    obtain ⟨hcz13_0, hcz13_1, hcz13_2, hcz13_3, hcz13_4, hcz13_5, hcz13_6, hcz13_7, hcz13_8, hcz13_9, hcz13_10, hcz13_11, hcz13_12⟩ := zc13 BK241
    obtain ⟨hfz13_0, hfz13_1, hfz13_2, hfz13_3, hfz13_4, hfz13_5, hfz13_6, hfz13_7, hfz13_8, hfz13_9, hfz13_10, hfz13_11, hfz13_12⟩ := zf13 BK241
    go_wp2_with (first | ((with_reducible refine gate_callee (f := 99) rfl ?_); refine gL (some 29) rfl Try.func99 #[.slice A1_12 l1_12.length c1_12, .func (.func 100) #[] #[]] rfl ?_; (with_reducible refine (slices_ContainsFunc_string_string.calls kj2 _ _ l1_12 true _ ?side1 ?side2 A11.out).mono ?_); (case side1 => exact cq (Kd.C_below HR1_12.out HB.out)); (case side2 => exact HC1_12.out); rintro e w' ⟨rfl, ⟨nd, rfl⟩⟩; refine ⟨_, rfl, ?_⟩))
    go_ret
    exact ⟨er, bq HB.out⟩
   replace c12 := Bool.eq_false_iff.mpr c12
   subst c12
   have H1 : ((some (([l1_2, l1_6, l1_10, (([(⟨a1_4, a1_5⟩ : S61), (⟨a1_8, a1_9⟩ : S61)] : List (S61)))] : List (List (S61))) : List (List (S61)))).bind fun y247 => (proof_shaped.l0 kj2 a0 y247 (y247.length : Int) 0 a1_0 l1_1 l1_2 l1_3 a1_4 a1_5 l1_6 l1_7 a1_8 a1_9 l1_10 l1_11 l1_12)) = some r := by rw [if_neg (show ¬ (false = true) by decide)] at H; exact H
   clear H
   have H := H1
   clear H1
   obtain ⟨y244, hy244⟩ : ∃ y_ : List (S61), y_ = (([(⟨a1_4, a1_5⟩ : S61), (⟨a1_8, a1_9⟩ : S61)] : List (S61))) := ⟨_, rfl⟩
   replace H : ((some (([l1_2, l1_6, l1_10, y244] : List (List (S61))) : List (List (S61)))).bind fun y247 => (proof_shaped.l0 kj2 a0 y247 (y247.length : Int) 0 a1_0 l1_1 l1_2 l1_3 a1_4 a1_5 l1_6 l1_7 a1_8 a1_9 l1_10 l1_11 l1_12)) = some r := by first | (rw [hy244]; with_reducible exact H) | (have H2_ := (Option.bind_some _ _).symm.trans H; rw [hy244]; with_reducible exact H2_) | (have H2_ := (Option.bind_some _ _).symm.trans H; with_reducible exact H2_) | with_reducible exact H | (rw [hy244]; exact H) | exact H
   have Ny244 := Aside0.mk hy244
   clear hy244
   obtain ⟨y247, hy247⟩ : ∃ y_ : List (List (S61)), y_ = (([l1_2, l1_6, l1_10, y244] : List (List (S61)))) := ⟨_, rfl⟩
   replace H : (proof_shaped.l0 kj2 a0 y247 (y247.length : Int) 0 a1_0 l1_1 l1_2 l1_3 a1_4 a1_5 l1_6 l1_7 a1_8 a1_9 l1_10 l1_11 l1_12) = some r := by first | (rw [hy247]; with_reducible exact H) | (have H2_ := (Option.bind_some _ _).symm.trans H; rw [hy247]; with_reducible exact H2_) | (have H2_ := (Option.bind_some _ _).symm.trans H; with_reducible exact H2_) | with_reducible exact H | (rw [hy247]; exact H) | exact H
   have Ny247 := Aside0.mk hy247
   clear hy247
   have H' := Aside0.mk H
   clear H
   obtain ⟨hcz14_0, hcz14_1, hcz14_2, hcz14_3, hcz14_4, hcz14_5, hcz14_6, hcz14_7, hcz14_8, hcz14_9, hcz14_10, hcz14_11, hcz14_12⟩ := zc13 BK241
   obtain ⟨hfz14_0, hfz14_1, hfz14_2, hfz14_3, hfz14_4, hfz14_5, hfz14_6, hfz14_7, hfz14_8, hfz14_9, hfz14_10, hfz14_11, hfz14_12⟩ := zf13 BK241
   go_wp2_with (first | ((with_reducible refine gate_callee (f := 99) rfl ?_); refine gL (some 29) rfl Try.func99 #[.slice A1_12 l1_12.length c1_12, .func (.func 100) #[] #[]] rfl ?_; (with_reducible refine (slices_ContainsFunc_string_string.calls kj2 _ _ l1_12 false _ ?side1 ?side2 A11.out).mono ?_); (case side1 => exact cq (Kd.C_below HR1_12.out HB.out)); (case side2 => exact HC1_12.out); rintro e w' ⟨rfl, ⟨nd, rfl⟩⟩; refine ⟨_, rfl, ?_⟩) | ((with_reducible refine gate_dst (N := 42) rfl ?_); (try (refine gate_guard (by rfl) ?_; dsimp only)); refine Kd.R_lit k61 _ 61 ?hg (N := 42) ?hd (xs := ([(⟨a1_4, a1_5⟩ : S61), (⟨a1_8, a1_9⟩ : S61)] : List (S61))) (inner := [.int .u64 a1_4, .int .u64 a1_5, .int .u64 a1_8, .int .u64 a1_9]) (ok := fun _ => True) (okp := fun _ => True) ?hr ?hp (fun _ hk => hk) trivial (Below.refl _ _) (Nat.le_refl _) (by simp) ?_; (case hd => rfl); (case hg => rfl); (case hr => go_simp <;> rfl); (case hp => exact (Reps.c2 (show Kd.M k61 _ _ _ (⟨a1_4, a1_5⟩ : S61) [.int .u64 a1_4, .int .u64 a1_5] from (k61_mkM _ _ _ (⟨a1_4, a1_5⟩ : S61) )) (Reps.c2 (show Kd.M k61 _ _ _ (⟨a1_8, a1_9⟩ : S61) [.int .u64 a1_8, .int .u64 a1_9] from (k61_mkM _ _ _ (⟨a1_8, a1_9⟩ : S61) )) (Reps.none _ _)))); intro v245 w15 ho16 hb hg_ hnew_; clear hg_ hnew_; (first | rw [← Ny244.out] at ho16 | (simp only [Int.reduceToNat] at ho16; rw [← Ny244.out] at ho16)); have HO246 := Aside0.mk (Kd.R_lower (Kd.R_newM (M := fun k_ => (w.heap.size ≤ k_)) ho16 (below_size (bq HB.out)) (fun k_ h_ => h_)) (below_size (bq HB.out))); replace HO_242001 := Aside0.mk (Kd.V_elder' (by (with_reducible repeat (first | apply Kd.V_alloc | apply Kd.V_drewN | apply Kd.V_drew)); exact HO_242001.out) (Kd.R_base ho16) hb); replace HO_242002 := Aside0.mk (Kd.V_elder' (by (with_reducible repeat (first | apply Kd.V_alloc | apply Kd.V_drewN | apply Kd.V_drew)); exact HO_242002.out) (Kd.R_base ho16) hb); replace HO_242003 := Aside0.mk (Kd.V_elder' (by (with_reducible repeat (first | apply Kd.V_alloc | apply Kd.V_drewN | apply Kd.V_drew)); exact HO_242003.out) (Kd.R_base ho16) hb); replace HO_242006 := Aside0.mk (Kd.V_elder' (by (with_reducible repeat (first | apply Kd.V_alloc | apply Kd.V_drewN | apply Kd.V_drew)); exact HO_242006.out) (Kd.R_base ho16) hb); replace HO_242007 := Aside0.mk (Kd.V_elder' (by (with_reducible repeat (first | apply Kd.V_alloc | apply Kd.V_drewN | apply Kd.V_drew)); exact HO_242007.out) (Kd.R_base ho16) hb); replace HO_242010 := Aside0.mk (Kd.V_elder' (by (with_reducible repeat (first | apply Kd.V_alloc | apply Kd.V_drewN | apply Kd.V_drew)); exact HO_242010.out) (Kd.R_base ho16) hb); replace HO_242011 := Aside0.mk (Kd.V_elder' (by (with_reducible repeat (first | apply Kd.V_alloc | apply Kd.V_drewN | apply Kd.V_drew)); exact HO_242011.out) (Kd.R_base ho16) hb); replace BK241 := bb BK241 hb; replace BY := bb BY hb; replace HB := bh HB hb; clear hb ho16; obtain ⟨Ao17, co17, eo17⟩ := Kd.R_slice HO246.out; subst eo17) | ((with_reducible refine gate_dst (N := 43) rfl ?_); (try (refine gate_guard (by rfl) ?_; dsimp only)); refine Kd.N_lit (Kd.slice 61 k61) _ 58 ?hg (N' := 43) ?hd (xs := ([l1_2, l1_6, l1_10, y244] : List (List (S61)))) (inner := [.slice A1_2 l1_2.length c1_2, .slice A1_6 l1_6.length c1_6, .slice A1_10 l1_10.length c1_10, .slice Ao17 y244.length co17]) (ok := (fun k_ => ((P1_1_ k_ ∨ P1_2_ k_ ∨ P1_3_ k_ ∨ P1_6_ k_ ∨ P1_7_ k_ ∨ P1_10_ k_ ∨ P1_11_ k_) ∨ w.heap.size ≤ k_) ∧ k_ ≠ gb241)) (okp := (fun k_ => ((P1_1_ k_ ∨ P1_2_ k_ ∨ P1_3_ k_ ∨ P1_6_ k_ ∨ P1_7_ k_ ∨ P1_10_ k_ ∨ P1_11_ k_) ∨ w.heap.size ≤ k_) ∧ k_ ≠ gb241)) ?hr ?hp (fun _ hk => hk) ((show ∀ k_, w15.heap.size ≤ k_ → (fun k_ => ((P1_1_ k_ ∨ P1_2_ k_ ∨ P1_3_ k_ ∨ P1_6_ k_ ∨ P1_7_ k_ ∨ P1_10_ k_ ∨ P1_11_ k_) ∨ w.heap.size ≤ k_) ∧ k_ ≠ gb241) k_ from fun k_ hk => ⟨(.inr (Nat.le_trans (below_size (bq HB.out)) hk)), Kd.freshB (g := gb241) (o := .cells #[.string a1_0, .slice A1_1 l1_1.length c1_1, .slice A1_2 l1_2.length c1_2, .slice A1_3 l1_3.length c1_3, .int .u64 a1_4, .int .u64 a1_5, .slice A1_6 l1_6.length c1_6, .slice A1_7 l1_7.length c1_7, .int .u64 a1_8, .int .u64 a1_9, .slice A1_10 l1_10.length c1_10, .slice A1_11 l1_11.length c1_11, .slice A1_12 l1_12.length c1_12] 66 (0, 0)) (bk BK241.out) k_ hk⟩) _ (Nat.le_refl _)) (Below.refl _ _) (Nat.le_refl _) (by simp) ?_; (case hd => rfl); (case hg => rfl); (case hr => go_simp <;> rfl); (case hp => exact (Reps.one (show Kd.FK (Kd.slice 61 k61) _ _ l1_2 [.slice A1_2 l1_2.length c1_2] from (Kd.FK_slice_mk (Kd.V_reads' (Kd.V_mono (ok' := (fun k_ => ((P1_1_ k_ ∨ P1_2_ k_ ∨ P1_3_ k_ ∨ P1_6_ k_ ∨ P1_7_ k_ ∨ P1_10_ k_ ∨ P1_11_ k_) ∨ w.heap.size ≤ k_) ∧ k_ ≠ gb241)) (HO_242002.out) (fun k_ hk => ⟨hk.1.1, hk.1.2⟩))).2.1 (Kd.V_F (Kd.V_mono (ok' := (fun k_ => ((P1_1_ k_ ∨ P1_2_ k_ ∨ P1_3_ k_ ∨ P1_6_ k_ ∨ P1_7_ k_ ∨ P1_10_ k_ ∨ P1_11_ k_) ∨ w.heap.size ≤ k_) ∧ k_ ≠ gb241)) (HO_242002.out) (fun k_ hk => ⟨hk.1.1, hk.1.2⟩))))) (Reps.one (show Kd.FK (Kd.slice 61 k61) _ _ l1_6 [.slice A1_6 l1_6.length c1_6] from (Kd.FK_slice_mk (Kd.V_reads' (Kd.V_mono (ok' := (fun k_ => ((P1_1_ k_ ∨ P1_2_ k_ ∨ P1_3_ k_ ∨ P1_6_ k_ ∨ P1_7_ k_ ∨ P1_10_ k_ ∨ P1_11_ k_) ∨ w.heap.size ≤ k_) ∧ k_ ≠ gb241)) (HO_242006.out) (fun k_ hk => ⟨hk.1.1, hk.1.2⟩))).2.1 (Kd.V_F (Kd.V_mono (ok' := (fun k_ => ((P1_1_ k_ ∨ P1_2_ k_ ∨ P1_3_ k_ ∨ P1_6_ k_ ∨ P1_7_ k_ ∨ P1_10_ k_ ∨ P1_11_ k_) ∨ w.heap.size ≤ k_) ∧ k_ ≠ gb241)) (HO_242006.out) (fun k_ hk => ⟨hk.1.1, hk.1.2⟩))))) (Reps.one (show Kd.FK (Kd.slice 61 k61) _ _ l1_10 [.slice A1_10 l1_10.length c1_10] from (Kd.FK_slice_mk (Kd.V_reads' (Kd.V_mono (ok' := (fun k_ => ((P1_1_ k_ ∨ P1_2_ k_ ∨ P1_3_ k_ ∨ P1_6_ k_ ∨ P1_7_ k_ ∨ P1_10_ k_ ∨ P1_11_ k_) ∨ w.heap.size ≤ k_) ∧ k_ ≠ gb241)) (HO_242010.out) (fun k_ hk => ⟨hk.1.1, hk.1.2⟩))).2.1 (Kd.V_F (Kd.V_mono (ok' := (fun k_ => ((P1_1_ k_ ∨ P1_2_ k_ ∨ P1_3_ k_ ∨ P1_6_ k_ ∨ P1_7_ k_ ∨ P1_10_ k_ ∨ P1_11_ k_) ∨ w.heap.size ≤ k_) ∧ k_ ≠ gb241)) (HO_242010.out) (fun k_ hk => ⟨hk.1.1, hk.1.2⟩))))) (Reps.one (show Kd.FK (Kd.slice 61 k61) _ _ y244 [.slice Ao17 y244.length co17] from (Kd.FK_slice_mk (Kd.R_reads' (Kd.R_mono (ok' := (fun k_ => ((P1_1_ k_ ∨ P1_2_ k_ ∨ P1_3_ k_ ∨ P1_6_ k_ ∨ P1_7_ k_ ∨ P1_10_ k_ ∨ P1_11_ k_) ∨ w.heap.size ≤ k_) ∧ k_ ≠ gb241)) (Kd.R_types (HO246.out) BK241.out (by decide)) (fun k_ hk => ⟨(.inr (hk.1.1)), hk.2⟩))).2.1 (Kd.R_F (Kd.R_mono (ok' := (fun k_ => ((P1_1_ k_ ∨ P1_2_ k_ ∨ P1_3_ k_ ∨ P1_6_ k_ ∨ P1_7_ k_ ∨ P1_10_ k_ ∨ P1_11_ k_) ∨ w.heap.size ≤ k_) ∧ k_ ≠ gb241)) (Kd.R_types (HO246.out) BK241.out (by decide)) (fun k_ hk => ⟨(.inr (hk.1.1)), hk.2⟩))))) (Reps.none _ _)))))); intro v248 w18 ho19 hb hg_ hnew_; clear hg_ hnew_; (first | rw [← Ny247.out] at ho19 | (simp only [Int.reduceToNat] at ho19; rw [← Ny247.out] at ho19)); have HO249 := Aside0.mk (Kd.N_lower ho19 (below_size (bq HB.out))); replace HO_242001 := Aside0.mk (Kd.V_elder' (by (with_reducible repeat (first | apply Kd.V_alloc | apply Kd.V_drewN | apply Kd.V_drew)); exact HO_242001.out) (Kd.N_base ho19) hb); replace HO_242002 := Aside0.mk (Kd.V_elder' (by (with_reducible repeat (first | apply Kd.V_alloc | apply Kd.V_drewN | apply Kd.V_drew)); exact HO_242002.out) (Kd.N_base ho19) hb); replace HO_242003 := Aside0.mk (Kd.V_elder' (by (with_reducible repeat (first | apply Kd.V_alloc | apply Kd.V_drewN | apply Kd.V_drew)); exact HO_242003.out) (Kd.N_base ho19) hb); replace HO_242006 := Aside0.mk (Kd.V_elder' (by (with_reducible repeat (first | apply Kd.V_alloc | apply Kd.V_drewN | apply Kd.V_drew)); exact HO_242006.out) (Kd.N_base ho19) hb); replace HO_242007 := Aside0.mk (Kd.V_elder' (by (with_reducible repeat (first | apply Kd.V_alloc | apply Kd.V_drewN | apply Kd.V_drew)); exact HO_242007.out) (Kd.N_base ho19) hb); replace HO_242010 := Aside0.mk (Kd.V_elder' (by (with_reducible repeat (first | apply Kd.V_alloc | apply Kd.V_drewN | apply Kd.V_drew)); exact HO_242010.out) (Kd.N_base ho19) hb); replace HO_242011 := Aside0.mk (Kd.V_elder' (by (with_reducible repeat (first | apply Kd.V_alloc | apply Kd.V_drewN | apply Kd.V_drew)); exact HO_242011.out) (Kd.N_base ho19) hb); replace BK241 := bb BK241 hb; replace BY := bb BY hb; replace HB := bh HB hb; clear HO246; clear hb ho19; obtain ⟨Ao20, co20, eo20⟩ := Kd.N_slice HO249.out; subst eo20))
   go_loopg [45] kj2 (fun kq v45 w' => ∃ (x45_2 : Int), v45 = .int .i64 x45_2 ∧ Aside0 (proof_shaped.l0 kq a0 y247 (y247.length : Int) x45_2 a1_0 l1_1 l1_2 l1_3 a1_4 a1_5 l1_6 l1_7 a1_8 a1_9 l1_10 l1_11 l1_12 = some r) ∧ Aside0 (kq ≤ kj2) ∧ Aside0 (Kd.N (Kd.slice 61 k61) 58 w' w.heap.size (fun k_ => ((P1_1_ k_ ∨ P1_2_ k_ ∨ P1_3_ k_ ∨ P1_6_ k_ ∨ P1_7_ k_ ∨ P1_10_ k_ ∨ P1_11_ k_) ∨ w.heap.size ≤ k_) ∧ k_ ≠ gb241) (.slice Ao20 y247.length co20) y247) ∧ Aside0 (Kd.V (Kd.slice 61 k61) 58 w' w.heap.size (fun k_ => ((P1_1_ k_ ∨ P1_2_ k_ ∨ P1_3_ k_ ∨ P1_6_ k_ ∨ P1_7_ k_ ∨ P1_10_ k_ ∨ P1_11_ k_) ∨ w.heap.size ≤ k_) ∧ some k_ ≠ ((.slice Ao20 y247.length co20) : Value).ownBlock ∧ k_ ≠ gb241) (.slice A1_1 l1_1.length c1_1) l1_1) ∧ Aside0 (Kd.V k61 61 w' w.heap.size (fun k_ => ((P1_1_ k_ ∨ P1_2_ k_ ∨ P1_3_ k_ ∨ P1_6_ k_ ∨ P1_7_ k_ ∨ P1_10_ k_ ∨ P1_11_ k_) ∨ w.heap.size ≤ k_) ∧ some k_ ≠ ((.slice Ao20 y247.length co20) : Value).ownBlock ∧ k_ ≠ gb241) (.slice A1_2 l1_2.length c1_2) l1_2) ∧ Aside0 (Kd.V (Kd.slice 61 k61) 58 w' w.heap.size (fun k_ => ((P1_1_ k_ ∨ P1_2_ k_ ∨ P1_3_ k_ ∨ P1_6_ k_ ∨ P1_7_ k_ ∨ P1_10_ k_ ∨ P1_11_ k_) ∨ w.heap.size ≤ k_) ∧ some k_ ≠ ((.slice Ao20 y247.length co20) : Value).ownBlock ∧ k_ ≠ gb241) (.slice A1_3 l1_3.length c1_3) l1_3) ∧ Aside0 (Kd.V k61 61 w' w.heap.size (fun k_ => ((P1_1_ k_ ∨ P1_2_ k_ ∨ P1_3_ k_ ∨ P1_6_ k_ ∨ P1_7_ k_ ∨ P1_10_ k_ ∨ P1_11_ k_) ∨ w.heap.size ≤ k_) ∧ some k_ ≠ ((.slice Ao20 y247.length co20) : Value).ownBlock ∧ k_ ≠ gb241) (.slice A1_6 l1_6.length c1_6) l1_6) ∧ Aside0 (Kd.V (Kd.slice 61 k61) 58 w' w.heap.size (fun k_ => ((P1_1_ k_ ∨ P1_2_ k_ ∨ P1_3_ k_ ∨ P1_6_ k_ ∨ P1_7_ k_ ∨ P1_10_ k_ ∨ P1_11_ k_) ∨ w.heap.size ≤ k_) ∧ some k_ ≠ ((.slice Ao20 y247.length co20) : Value).ownBlock ∧ k_ ≠ gb241) (.slice A1_7 l1_7.length c1_7) l1_7) ∧ Aside0 (Kd.V k61 61 w' w.heap.size (fun k_ => ((P1_1_ k_ ∨ P1_2_ k_ ∨ P1_3_ k_ ∨ P1_6_ k_ ∨ P1_7_ k_ ∨ P1_10_ k_ ∨ P1_11_ k_) ∨ w.heap.size ≤ k_) ∧ some k_ ≠ ((.slice Ao20 y247.length co20) : Value).ownBlock ∧ k_ ≠ gb241) (.slice A1_10 l1_10.length c1_10) l1_10) ∧ Aside0 (Kd.V (Kd.slice 61 k61) 58 w' w.heap.size (fun k_ => ((P1_1_ k_ ∨ P1_2_ k_ ∨ P1_3_ k_ ∨ P1_6_ k_ ∨ P1_7_ k_ ∨ P1_10_ k_ ∨ P1_11_ k_) ∨ w.heap.size ≤ k_) ∧ some k_ ≠ ((.slice Ao20 y247.length co20) : Value).ownBlock ∧ k_ ≠ gb241) (.slice A1_11 l1_11.length c1_11) l1_11) ∧ Aside0 (w'.heap[gb241]? = some (.cells #[.string a1_0, (.slice A1_1 l1_1.length c1_1), (.slice A1_2 l1_2.length c1_2), (.slice A1_3 l1_3.length c1_3), .int .u64 a1_4, .int .u64 a1_5, (.slice A1_6 l1_6.length c1_6), (.slice A1_7 l1_7.length c1_7), .int .u64 a1_8, .int .u64 a1_9, (.slice A1_10 l1_10.length c1_10), (.slice A1_11 l1_11.length c1_11), (.slice A1_12 l1_12.length c1_12)] 66 (0, 0))) ∧ Aside0 (w'.heap[gl]? = some (.cells #[.int .i64 a0] 3 (0, 0))) ∧ Aside0 (Below w.heap.size w w'))
   case atStart => exact ⟨(0), (by first | rfl | (simp; done) | (simp [*]; done)), H', ⟨Nat.le_refl _⟩, ⟨by (with_reducible repeat (first | apply Kd.N_alloc | apply Kd.N_drewN | apply Kd.N_drew)); exact HO249.out⟩, ⟨by (with_reducible repeat (first | apply Kd.V_alloc | apply Kd.V_drewN | apply Kd.V_drew)); exact Kd.V_mono HO_242001.out (fun _ hk => ⟨hk.1.1.1, ⟨hk.2, hk.1.1.2⟩⟩)⟩, ⟨by (with_reducible repeat (first | apply Kd.V_alloc | apply Kd.V_drewN | apply Kd.V_drew)); exact Kd.V_mono HO_242002.out (fun _ hk => ⟨hk.1.1.1, ⟨hk.2, hk.1.1.2⟩⟩)⟩, ⟨by (with_reducible repeat (first | apply Kd.V_alloc | apply Kd.V_drewN | apply Kd.V_drew)); exact Kd.V_mono HO_242003.out (fun _ hk => ⟨hk.1.1.1, ⟨hk.2, hk.1.1.2⟩⟩)⟩, ⟨by (with_reducible repeat (first | apply Kd.V_alloc | apply Kd.V_drewN | apply Kd.V_drew)); exact Kd.V_mono HO_242006.out (fun _ hk => ⟨hk.1.1.1, ⟨hk.2, hk.1.1.2⟩⟩)⟩, ⟨by (with_reducible repeat (first | apply Kd.V_alloc | apply Kd.V_drewN | apply Kd.V_drew)); exact Kd.V_mono HO_242007.out (fun _ hk => ⟨hk.1.1.1, ⟨hk.2, hk.1.1.2⟩⟩)⟩, ⟨by (with_reducible repeat (first | apply Kd.V_alloc | apply Kd.V_drewN | apply Kd.V_drew)); exact Kd.V_mono HO_242010.out (fun _ hk => ⟨hk.1.1.1, ⟨hk.2, hk.1.1.2⟩⟩)⟩, ⟨by (with_reducible repeat (first | apply Kd.V_alloc | apply Kd.V_drewN | apply Kd.V_drew)); exact Kd.V_mono HO_242011.out (fun _ hk => ⟨hk.1.1.1, ⟨hk.2, hk.1.1.2⟩⟩)⟩, ⟨bk BK241.out⟩, ⟨bk BY.out⟩, ⟨bq HB.out⟩⟩
   case round =>
    clear H'
    try clear c1
    try clear c2
    try clear p2
    try clear c6
    try clear c6b0
    try clear c6b1
    try clear c7
    try clear c7b0
    try clear c7b1
    try clear c9
    try clear c10
    try clear c12
    try clear hcz13_0 hcz13_1 hcz13_10 hcz13_11 hcz13_12 hcz13_2 hcz13_3 hcz13_4 hcz13_5 hcz13_6 hcz13_7 hcz13_8 hcz13_9
    try clear hcz14_0 hcz14_1 hcz14_10 hcz14_11 hcz14_12 hcz14_2 hcz14_3 hcz14_4 hcz14_5 hcz14_6 hcz14_7 hcz14_8 hcz14_9
    try clear hcz8_0 hcz8_1 hcz8_10 hcz8_11 hcz8_12 hcz8_2 hcz8_3 hcz8_4 hcz8_5 hcz8_6 hcz8_7 hcz8_8 hcz8_9
    try clear hcz9_0 hcz9_1 hcz9_10 hcz9_11 hcz9_12 hcz9_2 hcz9_3 hcz9_4 hcz9_5 hcz9_6 hcz9_7 hcz9_8 hcz9_9
    try clear hfz13_0 hfz13_1 hfz13_10 hfz13_11 hfz13_12 hfz13_2 hfz13_3 hfz13_4 hfz13_5 hfz13_6 hfz13_7 hfz13_8 hfz13_9
    try clear hfz14_0 hfz14_1 hfz14_10 hfz14_11 hfz14_12 hfz14_2 hfz14_3 hfz14_4 hfz14_5 hfz14_6 hfz14_7 hfz14_8 hfz14_9
    try clear hfz8_0 hfz8_1 hfz8_10 hfz8_11 hfz8_12 hfz8_2 hfz8_3 hfz8_4 hfz8_5 hfz8_6 hfz8_7 hfz8_8 hfz8_9
    try clear hfz9_0 hfz9_1 hfz9_10 hfz9_11 hfz9_12 hfz9_2 hfz9_3 hfz9_4 hfz9_5 hfz9_6 hfz9_7 hfz9_8 hfz9_9
    try clear p2
    obtain ⟨x45_2, rfl, HA, HK2, HO_43, HO_242001, HO_242002, HO_242003, HO_242006, HO_242007, HO_242010, HO_242011, BK241, BY, HB⟩ := hrel
    cases gk with
    | zero => exact absurd HA.out (by simp [proof_shaped.l0])
    | succ k2 =>
     have H := HA.out
     clear HA
     simp only [proof_shaped.l0] at H
     by_cases c21 : x45_2 < (y247.length : Int)
     ·rw [if_pos c21] at H
      have c21b0 : decide (x45_2 < (y247.length : Int)) = true := decide_eq_true c21
      clear c21
      by_cases c22 : 0 ≤ x45_2
      rotate_left
      ·rw [if_neg c22] at H
       exact absurd H (by simp)
      rw [if_pos c22] at H
      have c22b0 : decide (0 ≤ x45_2) = true := decide_eq_true c22
      clear c22
      by_cases c23 : x45_2 < (y247.length : Int)
      rotate_left
      ·rw [if_neg c23] at H
       exact absurd H (by simp)
      rw [if_pos c23] at H
      have c23b0 : decide (x45_2 < (y247.length : Int)) = true := decide_eq_true c23
      clear c23
      obtain ⟨t251, A24, H⟩ := bm2 H
      try dsimp only at H
      by_cases c25 : t251 = true
      ·subst c25
       have H1 : (some false) = some r := by rw [if_pos rfl] at H; exact H
       clear H
       have H := H1
       clear H1
       obtain rfl := Option.some.inj H
       have p250 : 0 ≤ (x45_2 : Int) := dt
       have q250 : x45_2 < (y247.length : Int) := dt
       obtain ⟨ad250, A250_0, c250_0, e250, hx250_0, hl250_0, hi250_0⟩ := at_L6 (Kd.N_reads' HO_43.out).2.2 x45_2 p250 q250
       cases e250
       obtain ⟨ce250, hce250, hMe250, hcc250⟩ := Kd.N_get HO_43.out [] x45_2 p250 (by first | exact q250 | exact dt | (have e_ := (Kd.N_reads' HO_43.out).1; omega))
       obtain ⟨ua250_0, uc250_0, rfl, ul250_0, ge250_0⟩ := Kd.FK_slice_open hMe250
       have hv250_0 := hcc250 0 _ rfl
       rw [Nat.add_zero, show ((Kd.slice 61 k61)).sz = 1 from rfl, Nat.mul_one] at hv250_0
       replace hv250_0 := Option.some.inj (hv250_0.symm.trans hx250_0)
       injection hv250_0 with hva_ hvn_ hvc_
       rw [hva_] at ge250_0
       rw [hvc_] at ul250_0
       have HL250_0 := Aside0.mk (show Kd.V k61 61 _ w.heap.size _ _ (rd_L6 y247 x45_2) from Kd.V_mk ul250_0 ge250_0)
       clear hva_ hvn_ hvc_ ge250_0 ul250_0
       clear hcc250 hce250
       have HR250_0 := Aside0.mk hi250_0
       have HC250_0 := Aside0.mk hl250_0
       clear hi250_0 hl250_0
       replace p250 := eq_true p250
       replace q250 := eq_true q250
       go_wp2_with (first | (go_at_call 101; (with_reducible refine (proof_shaped_2.calls (gl := gl) (hY := (by first | exact lev_of BY.out | exact lev_of (bk BY.out))) k2 _ _ (rd_L6 y247 x45_2) a0 true _ ?side1 ?side2 A24.out).mono ?_); (case side1 => repeat (first | exact (by repeat (first | (with_reducible exact HR250_0.out) | (with_reducible refine Kd.C_alloc ?_ _) | (with_reducible refine Kd.C_drewN ?_ _) | (with_reducible refine Kd.C_drew ?_) | exact HR250_0.out)) | (with_reducible refine Kd.C_alloc ?_ _) | (with_reducible refine Kd.C_drewN ?_ _) | (with_reducible refine Kd.C_drew ?_))); (case side2 => exact HC250_0.out); rintro e w26 ⟨rfl, hb⟩; replace BY := bb BY hb; replace HB := bh HB hb; (try clear hb); (try clear hk hi)))
       go_ret
       exact ⟨er, bq HB.out⟩
      replace c25 := Bool.eq_false_iff.mpr c25
      subst c25
      have H1 : (proof_shaped.l0 k2 a0 y247 (y247.length : Int) (wrap64 (x45_2 + 1)) a1_0 l1_1 l1_2 l1_3 a1_4 a1_5 l1_6 l1_7 a1_8 a1_9 l1_10 l1_11 l1_12) = some r := by rw [if_neg (show ¬ (false = true) by decide)] at H; exact H
      clear H
      have H := H1
      clear H1
      have H' := Aside0.mk H
      clear H
      have p250 : 0 ≤ (x45_2 : Int) := dt
      have q250 : x45_2 < (y247.length : Int) := dt
      obtain ⟨ad250, A250_0, c250_0, e250, hx250_0, hl250_0, hi250_0⟩ := at_L6 (Kd.N_reads' HO_43.out).2.2 x45_2 p250 q250
      cases e250
      obtain ⟨ce250, hce250, hMe250, hcc250⟩ := Kd.N_get HO_43.out [] x45_2 p250 (by first | exact q250 | exact dt | (have e_ := (Kd.N_reads' HO_43.out).1; omega))
      obtain ⟨ua250_0, uc250_0, rfl, ul250_0, ge250_0⟩ := Kd.FK_slice_open hMe250
      have hv250_0 := hcc250 0 _ rfl
      rw [Nat.add_zero, show ((Kd.slice 61 k61)).sz = 1 from rfl, Nat.mul_one] at hv250_0
      replace hv250_0 := Option.some.inj (hv250_0.symm.trans hx250_0)
      injection hv250_0 with hva_ hvn_ hvc_
      rw [hva_] at ge250_0
      rw [hvc_] at ul250_0
      have HL250_0 := Aside0.mk (show Kd.V k61 61 _ w.heap.size _ _ (rd_L6 y247 x45_2) from Kd.V_mk ul250_0 ge250_0)
      clear hva_ hvn_ hvc_ ge250_0 ul250_0
      clear hcc250 hce250
      have HR250_0 := Aside0.mk hi250_0
      have HC250_0 := Aside0.mk hl250_0
      clear hi250_0 hl250_0
      replace p250 := eq_true p250
      replace q250 := eq_true q250
      go_wp2_with (first | (go_at_call 101; (with_reducible refine (proof_shaped_2.calls (gl := gl) (hY := (by first | exact lev_of BY.out | exact lev_of (bk BY.out))) k2 _ _ (rd_L6 y247 x45_2) a0 false _ ?side1 ?side2 A24.out).mono ?_); (case side1 => repeat (first | exact (by repeat (first | (with_reducible exact HR250_0.out) | (with_reducible refine Kd.C_alloc ?_ _) | (with_reducible refine Kd.C_drewN ?_ _) | (with_reducible refine Kd.C_drew ?_) | exact HR250_0.out)) | (with_reducible refine Kd.C_alloc ?_ _) | (with_reducible refine Kd.C_drewN ?_ _) | (with_reducible refine Kd.C_drew ?_))); (case side2 => exact HC250_0.out); rintro e w27 ⟨rfl, hb⟩; replace HO_43 := kNb HO_43 hb; replace HO_242001 := kVb HO_242001 hb; replace HO_242002 := kVb HO_242002 hb; replace HO_242003 := kVb HO_242003 hb; replace HO_242006 := kVb HO_242006 hb; replace HO_242007 := kVb HO_242007 hb; replace HO_242010 := kVb HO_242010 hb; replace HO_242011 := kVb HO_242011 hb; replace BK241 := bb BK241 hb; replace BY := bb BY hb; replace HB := bh HB hb; (try clear hb); (try clear hk hi)))
      go_roundg k2
      case measure => have := HJ2.out; have := HK2.out; omega
      case rel => exact ⟨(wrap64 (x45_2 + 1)), (by first | rfl | (simp; done) | (simp [*]; done)), H', ⟨by have := HJ2.out; have := HK2.out; omega⟩, ⟨by (with_reducible repeat (first | apply Kd.N_alloc | apply Kd.N_drewN | apply Kd.N_drew)); exact HO_43.out⟩, ⟨by (with_reducible repeat (first | apply Kd.V_alloc | apply Kd.V_drewN | apply Kd.V_drew)); exact HO_242001.out⟩, ⟨by (with_reducible repeat (first | apply Kd.V_alloc | apply Kd.V_drewN | apply Kd.V_drew)); exact HO_242002.out⟩, ⟨by (with_reducible repeat (first | apply Kd.V_alloc | apply Kd.V_drewN | apply Kd.V_drew)); exact HO_242003.out⟩, ⟨by (with_reducible repeat (first | apply Kd.V_alloc | apply Kd.V_drewN | apply Kd.V_drew)); exact HO_242006.out⟩, ⟨by (with_reducible repeat (first | apply Kd.V_alloc | apply Kd.V_drewN | apply Kd.V_drew)); exact HO_242007.out⟩, ⟨by (with_reducible repeat (first | apply Kd.V_alloc | apply Kd.V_drewN | apply Kd.V_drew)); exact HO_242010.out⟩, ⟨by (with_reducible repeat (first | apply Kd.V_alloc | apply Kd.V_drewN | apply Kd.V_drew)); exact HO_242011.out⟩, ⟨bk BK241.out⟩, ⟨bk BY.out⟩, ⟨bq HB.out⟩⟩
     rw [if_neg c21] at H
     have c21b0 : decide (x45_2 < (y247.length : Int)) = false := decide_eq_false c21
     clear c21
     obtain ⟨y252, hy252⟩ : ∃ y_ : List (List (List (S61))), y_ = (([l1_1, l1_3, l1_7, l1_11] : List (List (List (S61))))) := ⟨_, rfl⟩
     replace H : (proof_shaped.l1 k2 a0 y252 (y252.length : Int) 0) = some r := by first | (rw [hy252]; with_reducible exact H) | (have H2_ := (Option.bind_some _ _).symm.trans H; rw [hy252]; with_reducible exact H2_) | (have H2_ := (Option.bind_some _ _).symm.trans H; with_reducible exact H2_) | with_reducible exact H | (rw [hy252]; exact H) | exact H
     have Ny252 := Aside0.mk hy252
     clear hy252
     have H' := Aside0.mk H
     clear H
     obtain ⟨hcz28_0, hcz28_1, hcz28_2, hcz28_3, hcz28_4, hcz28_5, hcz28_6, hcz28_7, hcz28_8, hcz28_9, hcz28_10, hcz28_11, hcz28_12⟩ := zc13 BK241
     obtain ⟨hfz28_0, hfz28_1, hfz28_2, hfz28_3, hfz28_4, hfz28_5, hfz28_6, hfz28_7, hfz28_8, hfz28_9, hfz28_10, hfz28_11, hfz28_12⟩ := zf13 BK241
     go_wp2_with (first | ((with_reducible refine gate_dst (N := 62) rfl ?_); (try (refine gate_guard (by rfl) ?_; dsimp only)); refine Kd.N_lit (Kd.slice 58 (Kd.slice 61 k61)) _ 57 ?hg (N' := 62) ?hd (xs := ([l1_1, l1_3, l1_7, l1_11] : List (List (List (S61))))) (inner := [.slice A1_1 l1_1.length c1_1, .slice A1_3 l1_3.length c1_3, .slice A1_7 l1_7.length c1_7, .slice A1_11 l1_11.length c1_11]) (ok := (fun k_ => ((P1_1_ k_ ∨ P1_2_ k_ ∨ P1_3_ k_ ∨ P1_6_ k_ ∨ P1_7_ k_ ∨ P1_10_ k_ ∨ P1_11_ k_) ∨ w.heap.size ≤ k_) ∧ some k_ ≠ (.slice Ao20 y247.length co20 : Value).ownBlock ∧ k_ ≠ gb241)) (okp := (fun k_ => ((P1_1_ k_ ∨ P1_2_ k_ ∨ P1_3_ k_ ∨ P1_6_ k_ ∨ P1_7_ k_ ∨ P1_10_ k_ ∨ P1_11_ k_) ∨ w.heap.size ≤ k_) ∧ some k_ ≠ (.slice Ao20 y247.length co20 : Value).ownBlock ∧ k_ ≠ gb241)) ?hr ?hp (fun _ hk => hk) ((show ∀ k_, wr.heap.size ≤ k_ → (fun k_ => ((P1_1_ k_ ∨ P1_2_ k_ ∨ P1_3_ k_ ∨ P1_6_ k_ ∨ P1_7_ k_ ∨ P1_10_ k_ ∨ P1_11_ k_) ∨ w.heap.size ≤ k_) ∧ some k_ ≠ (.slice Ao20 y247.length co20 : Value).ownBlock ∧ k_ ≠ gb241) k_ from fun k_ hk => ⟨(.inr (Nat.le_trans (below_size (bq HB.out)) hk)), Kd.fresh' (Kd.N_lt (by (with_reducible repeat (first | apply Kd.N_alloc | apply Kd.N_drewN | apply Kd.N_drew)); exact HO_43.out)) k_ hk, Kd.freshB (g := gb241) (o := .cells #[.string a1_0, .slice A1_1 l1_1.length c1_1, .slice A1_2 l1_2.length c1_2, .slice A1_3 l1_3.length c1_3, .int .u64 a1_4, .int .u64 a1_5, .slice A1_6 l1_6.length c1_6, .slice A1_7 l1_7.length c1_7, .int .u64 a1_8, .int .u64 a1_9, .slice A1_10 l1_10.length c1_10, .slice A1_11 l1_11.length c1_11, .slice A1_12 l1_12.length c1_12] 66 (0, 0)) (bk BK241.out) k_ hk⟩) _ (Nat.le_refl _)) (Below.refl _ _) (Nat.le_refl _) (by simp) ?_; (case hd => rfl); (case hg => rfl); (case hr => go_simp <;> rfl); (case hp => exact (Reps.one (show Kd.FK (Kd.slice 58 (Kd.slice 61 k61)) _ _ l1_1 [.slice A1_1 l1_1.length c1_1] from (Kd.FK_slice_mk (Kd.V_reads' (Kd.V_mono (ok' := (fun k_ => ((P1_1_ k_ ∨ P1_2_ k_ ∨ P1_3_ k_ ∨ P1_6_ k_ ∨ P1_7_ k_ ∨ P1_10_ k_ ∨ P1_11_ k_) ∨ w.heap.size ≤ k_) ∧ some k_ ≠ (.slice Ao20 y247.length co20 : Value).ownBlock ∧ k_ ≠ gb241)) (HO_242001.out) (fun k_ hk => ⟨hk.1, ⟨hk.2.1, hk.2.2⟩⟩))).2.1 (Kd.V_F (Kd.V_mono (ok' := (fun k_ => ((P1_1_ k_ ∨ P1_2_ k_ ∨ P1_3_ k_ ∨ P1_6_ k_ ∨ P1_7_ k_ ∨ P1_10_ k_ ∨ P1_11_ k_) ∨ w.heap.size ≤ k_) ∧ some k_ ≠ (.slice Ao20 y247.length co20 : Value).ownBlock ∧ k_ ≠ gb241)) (HO_242001.out) (fun k_ hk => ⟨hk.1, ⟨hk.2.1, hk.2.2⟩⟩))))) (Reps.one (show Kd.FK (Kd.slice 58 (Kd.slice 61 k61)) _ _ l1_3 [.slice A1_3 l1_3.length c1_3] from (Kd.FK_slice_mk (Kd.V_reads' (Kd.V_mono (ok' := (fun k_ => ((P1_1_ k_ ∨ P1_2_ k_ ∨ P1_3_ k_ ∨ P1_6_ k_ ∨ P1_7_ k_ ∨ P1_10_ k_ ∨ P1_11_ k_) ∨ w.heap.size ≤ k_) ∧ some k_ ≠ (.slice Ao20 y247.length co20 : Value).ownBlock ∧ k_ ≠ gb241)) (HO_242003.out) (fun k_ hk => ⟨hk.1, ⟨hk.2.1, hk.2.2⟩⟩))).2.1 (Kd.V_F (Kd.V_mono (ok' := (fun k_ => ((P1_1_ k_ ∨ P1_2_ k_ ∨ P1_3_ k_ ∨ P1_6_ k_ ∨ P1_7_ k_ ∨ P1_10_ k_ ∨ P1_11_ k_) ∨ w.heap.size ≤ k_) ∧ some k_ ≠ (.slice Ao20 y247.length co20 : Value).ownBlock ∧ k_ ≠ gb241)) (HO_242003.out) (fun k_ hk => ⟨hk.1, ⟨hk.2.1, hk.2.2⟩⟩))))) (Reps.one (show Kd.FK (Kd.slice 58 (Kd.slice 61 k61)) _ _ l1_7 [.slice A1_7 l1_7.length c1_7] from (Kd.FK_slice_mk (Kd.V_reads' (Kd.V_mono (ok' := (fun k_ => ((P1_1_ k_ ∨ P1_2_ k_ ∨ P1_3_ k_ ∨ P1_6_ k_ ∨ P1_7_ k_ ∨ P1_10_ k_ ∨ P1_11_ k_) ∨ w.heap.size ≤ k_) ∧ some k_ ≠ (.slice Ao20 y247.length co20 : Value).ownBlock ∧ k_ ≠ gb241)) (HO_242007.out) (fun k_ hk => ⟨hk.1, ⟨hk.2.1, hk.2.2⟩⟩))).2.1 (Kd.V_F (Kd.V_mono (ok' := (fun k_ => ((P1_1_ k_ ∨ P1_2_ k_ ∨ P1_3_ k_ ∨ P1_6_ k_ ∨ P1_7_ k_ ∨ P1_10_ k_ ∨ P1_11_ k_) ∨ w.heap.size ≤ k_) ∧ some k_ ≠ (.slice Ao20 y247.length co20 : Value).ownBlock ∧ k_ ≠ gb241)) (HO_242007.out) (fun k_ hk => ⟨hk.1, ⟨hk.2.1, hk.2.2⟩⟩))))) (Reps.one (show Kd.FK (Kd.slice 58 (Kd.slice 61 k61)) _ _ l1_11 [.slice A1_11 l1_11.length c1_11] from (Kd.FK_slice_mk (Kd.V_reads' (Kd.V_mono (ok' := (fun k_ => ((P1_1_ k_ ∨ P1_2_ k_ ∨ P1_3_ k_ ∨ P1_6_ k_ ∨ P1_7_ k_ ∨ P1_10_ k_ ∨ P1_11_ k_) ∨ w.heap.size ≤ k_) ∧ some k_ ≠ (.slice Ao20 y247.length co20 : Value).ownBlock ∧ k_ ≠ gb241)) (HO_242011.out) (fun k_ hk => ⟨hk.1, ⟨hk.2.1, hk.2.2⟩⟩))).2.1 (Kd.V_F (Kd.V_mono (ok' := (fun k_ => ((P1_1_ k_ ∨ P1_2_ k_ ∨ P1_3_ k_ ∨ P1_6_ k_ ∨ P1_7_ k_ ∨ P1_10_ k_ ∨ P1_11_ k_) ∨ w.heap.size ≤ k_) ∧ some k_ ≠ (.slice Ao20 y247.length co20 : Value).ownBlock ∧ k_ ≠ gb241)) (HO_242011.out) (fun k_ hk => ⟨hk.1, ⟨hk.2.1, hk.2.2⟩⟩))))) (Reps.none _ _)))))); intro v253 w29 ho30 hb hg_ hnew_; clear hg_ hnew_; (first | rw [← Ny252.out] at ho30 | (simp only [Int.reduceToNat] at ho30; rw [← Ny252.out] at ho30)); have HO254 := Aside0.mk (Kd.N_lower ho30 (below_size (bq HB.out))); replace HO_242001 := Aside0.mk (Kd.V_elder' (by (with_reducible repeat (first | apply Kd.V_alloc | apply Kd.V_drewN | apply Kd.V_drew)); exact HO_242001.out) (Kd.N_base ho30) hb); replace HO_242002 := Aside0.mk (Kd.V_elder' (by (with_reducible repeat (first | apply Kd.V_alloc | apply Kd.V_drewN | apply Kd.V_drew)); exact HO_242002.out) (Kd.N_base ho30) hb); replace HO_242003 := Aside0.mk (Kd.V_elder' (by (with_reducible repeat (first | apply Kd.V_alloc | apply Kd.V_drewN | apply Kd.V_drew)); exact HO_242003.out) (Kd.N_base ho30) hb); replace HO_242006 := Aside0.mk (Kd.V_elder' (by (with_reducible repeat (first | apply Kd.V_alloc | apply Kd.V_drewN | apply Kd.V_drew)); exact HO_242006.out) (Kd.N_base ho30) hb); replace HO_242007 := Aside0.mk (Kd.V_elder' (by (with_reducible repeat (first | apply Kd.V_alloc | apply Kd.V_drewN | apply Kd.V_drew)); exact HO_242007.out) (Kd.N_base ho30) hb); replace HO_242010 := Aside0.mk (Kd.V_elder' (by (with_reducible repeat (first | apply Kd.V_alloc | apply Kd.V_drewN | apply Kd.V_drew)); exact HO_242010.out) (Kd.N_base ho30) hb); replace HO_242011 := Aside0.mk (Kd.V_elder' (by (with_reducible repeat (first | apply Kd.V_alloc | apply Kd.V_drewN | apply Kd.V_drew)); exact HO_242011.out) (Kd.N_base ho30) hb); replace BK241 := bb BK241 hb; replace BY := bb BY hb; replace HB := bh HB hb; clear hb ho30; obtain ⟨Ao31, co31, eo31⟩ := Kd.N_slice HO254.out; subst eo31))
     go_loopg [64] k2 (fun kq v64 w' => ∃ (x64_3 : Int), v64 = .int .i64 x64_3 ∧ Aside0 (proof_shaped.l1 kq a0 y252 (y252.length : Int) x64_3 = some r) ∧ Aside0 (kq ≤ k2) ∧ Aside0 (Kd.N (Kd.slice 58 (Kd.slice 61 k61)) 57 w' w.heap.size (fun k_ => ((P1_1_ k_ ∨ P1_2_ k_ ∨ P1_3_ k_ ∨ P1_6_ k_ ∨ P1_7_ k_ ∨ P1_10_ k_ ∨ P1_11_ k_) ∨ w.heap.size ≤ k_) ∧ k_ ≠ gb241) (.slice Ao31 y252.length co31) y252) ∧ Aside0 (Kd.V (Kd.slice 61 k61) 58 w' w.heap.size (fun k_ => ((P1_1_ k_ ∨ P1_2_ k_ ∨ P1_3_ k_ ∨ P1_6_ k_ ∨ P1_7_ k_ ∨ P1_10_ k_ ∨ P1_11_ k_) ∨ w.heap.size ≤ k_) ∧ some k_ ≠ ((.slice Ao31 y252.length co31) : Value).ownBlock ∧ k_ ≠ gb241) (.slice A1_1 l1_1.length c1_1) l1_1) ∧ Aside0 (Kd.V k61 61 w' w.heap.size (fun k_ => ((P1_1_ k_ ∨ P1_2_ k_ ∨ P1_3_ k_ ∨ P1_6_ k_ ∨ P1_7_ k_ ∨ P1_10_ k_ ∨ P1_11_ k_) ∨ w.heap.size ≤ k_) ∧ some k_ ≠ ((.slice Ao31 y252.length co31) : Value).ownBlock ∧ k_ ≠ gb241) (.slice A1_2 l1_2.length c1_2) l1_2) ∧ Aside0 (Kd.V (Kd.slice 61 k61) 58 w' w.heap.size (fun k_ => ((P1_1_ k_ ∨ P1_2_ k_ ∨ P1_3_ k_ ∨ P1_6_ k_ ∨ P1_7_ k_ ∨ P1_10_ k_ ∨ P1_11_ k_) ∨ w.heap.size ≤ k_) ∧ some k_ ≠ ((.slice Ao31 y252.length co31) : Value).ownBlock ∧ k_ ≠ gb241) (.slice A1_3 l1_3.length c1_3) l1_3) ∧ Aside0 (Kd.V k61 61 w' w.heap.size (fun k_ => ((P1_1_ k_ ∨ P1_2_ k_ ∨ P1_3_ k_ ∨ P1_6_ k_ ∨ P1_7_ k_ ∨ P1_10_ k_ ∨ P1_11_ k_) ∨ w.heap.size ≤ k_) ∧ some k_ ≠ ((.slice Ao31 y252.length co31) : Value).ownBlock ∧ k_ ≠ gb241) (.slice A1_6 l1_6.length c1_6) l1_6) ∧ Aside0 (Kd.V (Kd.slice 61 k61) 58 w' w.heap.size (fun k_ => ((P1_1_ k_ ∨ P1_2_ k_ ∨ P1_3_ k_ ∨ P1_6_ k_ ∨ P1_7_ k_ ∨ P1_10_ k_ ∨ P1_11_ k_) ∨ w.heap.size ≤ k_) ∧ some k_ ≠ ((.slice Ao31 y252.length co31) : Value).ownBlock ∧ k_ ≠ gb241) (.slice A1_7 l1_7.length c1_7) l1_7) ∧ Aside0 (Kd.V k61 61 w' w.heap.size (fun k_ => ((P1_1_ k_ ∨ P1_2_ k_ ∨ P1_3_ k_ ∨ P1_6_ k_ ∨ P1_7_ k_ ∨ P1_10_ k_ ∨ P1_11_ k_) ∨ w.heap.size ≤ k_) ∧ some k_ ≠ ((.slice Ao31 y252.length co31) : Value).ownBlock ∧ k_ ≠ gb241) (.slice A1_10 l1_10.length c1_10) l1_10) ∧ Aside0 (Kd.V (Kd.slice 61 k61) 58 w' w.heap.size (fun k_ => ((P1_1_ k_ ∨ P1_2_ k_ ∨ P1_3_ k_ ∨ P1_6_ k_ ∨ P1_7_ k_ ∨ P1_10_ k_ ∨ P1_11_ k_) ∨ w.heap.size ≤ k_) ∧ some k_ ≠ ((.slice Ao31 y252.length co31) : Value).ownBlock ∧ k_ ≠ gb241) (.slice A1_11 l1_11.length c1_11) l1_11) ∧ Aside0 (w'.heap[gb241]? = some (.cells #[.string a1_0, (.slice A1_1 l1_1.length c1_1), (.slice A1_2 l1_2.length c1_2), (.slice A1_3 l1_3.length c1_3), .int .u64 a1_4, .int .u64 a1_5, (.slice A1_6 l1_6.length c1_6), (.slice A1_7 l1_7.length c1_7), .int .u64 a1_8, .int .u64 a1_9, (.slice A1_10 l1_10.length c1_10), (.slice A1_11 l1_11.length c1_11), (.slice A1_12 l1_12.length c1_12)] 66 (0, 0))) ∧ Aside0 (w'.heap[gl]? = some (.cells #[.int .i64 a0] 3 (0, 0))) ∧ Aside0 (Below w.heap.size w w'))
     case atStart => exact ⟨(0), (by first | rfl | (simp; done) | (simp [*]; done)), H', ⟨Nat.le_refl _⟩, ⟨by (with_reducible repeat (first | apply Kd.N_alloc | apply Kd.N_drewN | apply Kd.N_drew)); exact Kd.N_mono HO254.out (fun _ hk => ⟨hk.1, hk.2.2⟩)⟩, ⟨by (with_reducible repeat (first | apply Kd.V_alloc | apply Kd.V_drewN | apply Kd.V_drew)); exact Kd.V_mono HO_242001.out (fun _ hk => ⟨hk.1.1, ⟨hk.2, hk.1.2.2⟩⟩)⟩, ⟨by (with_reducible repeat (first | apply Kd.V_alloc | apply Kd.V_drewN | apply Kd.V_drew)); exact Kd.V_mono HO_242002.out (fun _ hk => ⟨hk.1.1, ⟨hk.2, hk.1.2.2⟩⟩)⟩, ⟨by (with_reducible repeat (first | apply Kd.V_alloc | apply Kd.V_drewN | apply Kd.V_drew)); exact Kd.V_mono HO_242003.out (fun _ hk => ⟨hk.1.1, ⟨hk.2, hk.1.2.2⟩⟩)⟩, ⟨by (with_reducible repeat (first | apply Kd.V_alloc | apply Kd.V_drewN | apply Kd.V_drew)); exact Kd.V_mono HO_242006.out (fun _ hk => ⟨hk.1.1, ⟨hk.2, hk.1.2.2⟩⟩)⟩, ⟨by (with_reducible repeat (first | apply Kd.V_alloc | apply Kd.V_drewN | apply Kd.V_drew)); exact Kd.V_mono HO_242007.out (fun _ hk => ⟨hk.1.1, ⟨hk.2, hk.1.2.2⟩⟩)⟩, ⟨by (with_reducible repeat (first | apply Kd.V_alloc | apply Kd.V_drewN | apply Kd.V_drew)); exact Kd.V_mono HO_242010.out (fun _ hk => ⟨hk.1.1, ⟨hk.2, hk.1.2.2⟩⟩)⟩, ⟨by (with_reducible repeat (first | apply Kd.V_alloc | apply Kd.V_drewN | apply Kd.V_drew)); exact Kd.V_mono HO_242011.out (fun _ hk => ⟨hk.1.1, ⟨hk.2, hk.1.2.2⟩⟩)⟩, ⟨bk BK241.out⟩, ⟨bk BY.out⟩, ⟨bq HB.out⟩⟩
     case round =>
      clear H'
      try clear c1
      try clear c2
      try clear p2
      try clear q2
      try clear hx2
      try clear c6
      try clear c6b0
      try clear c6b1
      try clear p6
      try clear c7
      try clear c7b0
      try clear c7b1
      try clear c9
      try clear c10
      try clear c12
      try clear c21
      try clear c21b0
      try clear c22
      try clear c22b0
      try clear c23
      try clear c23b0
      try clear c25
      try clear p25
      try clear q25
      try clear hx25
      try clear hcz13_0 hcz13_1 hcz13_10 hcz13_11 hcz13_12 hcz13_2 hcz13_3 hcz13_4 hcz13_5 hcz13_6 hcz13_7 hcz13_8 hcz13_9
      try clear hcz14_0 hcz14_1 hcz14_10 hcz14_11 hcz14_12 hcz14_2 hcz14_3 hcz14_4 hcz14_5 hcz14_6 hcz14_7 hcz14_8 hcz14_9
      try clear hcz28_0 hcz28_1 hcz28_10 hcz28_11 hcz28_12 hcz28_2 hcz28_3 hcz28_4 hcz28_5 hcz28_6 hcz28_7 hcz28_8 hcz28_9
      try clear hcz8_0 hcz8_1 hcz8_10 hcz8_11 hcz8_12 hcz8_2 hcz8_3 hcz8_4 hcz8_5 hcz8_6 hcz8_7 hcz8_8 hcz8_9
      try clear hcz9_0 hcz9_1 hcz9_10 hcz9_11 hcz9_12 hcz9_2 hcz9_3 hcz9_4 hcz9_5 hcz9_6 hcz9_7 hcz9_8 hcz9_9
      try clear hfz13_0 hfz13_1 hfz13_10 hfz13_11 hfz13_12 hfz13_2 hfz13_3 hfz13_4 hfz13_5 hfz13_6 hfz13_7 hfz13_8 hfz13_9
      try clear hfz14_0 hfz14_1 hfz14_10 hfz14_11 hfz14_12 hfz14_2 hfz14_3 hfz14_4 hfz14_5 hfz14_6 hfz14_7 hfz14_8 hfz14_9
      try clear hfz28_0 hfz28_1 hfz28_10 hfz28_11 hfz28_12 hfz28_2 hfz28_3 hfz28_4 hfz28_5 hfz28_6 hfz28_7 hfz28_8 hfz28_9
      try clear hfz8_0 hfz8_1 hfz8_10 hfz8_11 hfz8_12 hfz8_2 hfz8_3 hfz8_4 hfz8_5 hfz8_6 hfz8_7 hfz8_8 hfz8_9
      try clear hfz9_0 hfz9_1 hfz9_10 hfz9_11 hfz9_12 hfz9_2 hfz9_3 hfz9_4 hfz9_5 hfz9_6 hfz9_7 hfz9_8 hfz9_9
      try clear hx250_0
      try clear p2
      try clear p250
      try clear q250
      obtain ⟨x64_3, rfl, HA, HK3, HO_62, HO_242001, HO_242002, HO_242003, HO_242006, HO_242007, HO_242010, HO_242011, BK241, BY, HB⟩ := hrel
      cases gk with
      | zero => exact absurd HA.out (by simp [proof_shaped.l1])
      | succ k3 =>
       have H := HA.out
       clear HA
       simp only [proof_shaped.l1] at H
       by_cases c32 : x64_3 < (y252.length : Int)
       rotate_left
       ·rw [if_neg c32] at H
        have c32b0 : decide (x64_3 < (y252.length : Int)) = false := decide_eq_false c32
        clear c32
        obtain rfl := Option.some.inj H
        go_wp2
        go_ret
        exact ⟨er, bq HB.out⟩

       rw [if_pos c32] at H
       have c32b0 : decide (x64_3 < (y252.length : Int)) = true := decide_eq_true c32
       clear c32
       by_cases c33 : 0 ≤ x64_3
       rotate_left
       ·rw [if_neg c33] at H
        exact absurd H (by simp)
       rw [if_pos c33] at H
       have c33b0 : decide (0 ≤ x64_3) = true := decide_eq_true c33
       clear c33
       by_cases c34 : x64_3 < (y252.length : Int)
       rotate_left
       ·rw [if_neg c34] at H
        exact absurd H (by simp)
       rw [if_pos c34] at H
       have c34b0 : decide (x64_3 < (y252.length : Int)) = true := decide_eq_true c34
       clear c34
       by_cases c35 : ((rd_L9 y252 x64_3).length : Int) > 4096
       ·rw [if_pos c35] at H
        have c35b0 : decide (4096 < ((rd_L9 y252 x64_3).length : Int)) = true := decide_eq_true c35
        have c35b1 : decide (4096 < (rd_L9 y252 x64_3).length) = true := decide_eq_true (by omega)
        clear c35
        obtain rfl := Option.some.inj H
        have p255 : 0 ≤ (x64_3 : Int) := dt
        have q255 : x64_3 < (y252.length : Int) := dt
        obtain ⟨ad255, A255_0, c255_0, e255, hx255_0, hl255_0, hi255_0⟩ := at_L9 (Kd.N_reads' HO_62.out).2.2 x64_3 p255 q255
        cases e255
        obtain ⟨ce255, hce255, hMe255, hcc255⟩ := Kd.N_get HO_62.out [] x64_3 p255 (by first | exact q255 | exact dt | (have e_ := (Kd.N_reads' HO_62.out).1; omega))
        obtain ⟨ua255_0, uc255_0, rfl, ul255_0, ge255_0⟩ := Kd.FK_slice_open hMe255
        have hv255_0 := hcc255 0 _ rfl
        rw [Nat.add_zero, show ((Kd.slice 58 (Kd.slice 61 k61))).sz = 1 from rfl, Nat.mul_one] at hv255_0
        replace hv255_0 := Option.some.inj (hv255_0.symm.trans hx255_0)
        injection hv255_0 with hva_ hvn_ hvc_
        rw [hva_] at ge255_0
        rw [hvc_] at ul255_0
        have HL255_0 := Aside0.mk (show Kd.V (Kd.slice 61 k61) 58 _ w.heap.size _ _ (rd_L9 y252 x64_3) from Kd.V_mk ul255_0 ge255_0)
        clear hva_ hvn_ hvc_ ge255_0 ul255_0
        clear hcc255 hce255
        have HR255_0 := Aside0.mk hi255_0
        have HC255_0 := Aside0.mk hl255_0
        clear hi255_0 hl255_0
        replace p255 := eq_true p255
        replace q255 := eq_true q255
        go_wp2
        go_ret
        exact ⟨er, bq HB.out⟩
       rw [if_neg c35] at H
       have c35b0 : decide (4096 < ((rd_L9 y252 x64_3).length : Int)) = false := decide_eq_false c35
       have c35b1 : decide (4096 < (rd_L9 y252 x64_3).length) = false := decide_eq_false (by omega)
       clear c35
       obtain ⟨t256, A36, H⟩ := bm2 H
       try dsimp only at H
       by_cases c37 : t256 = true
       ·subst c37
        have H1 : (some false) = some r := by rw [if_pos rfl] at H; exact H
        clear H
        have H := H1
        clear H1
        obtain rfl := Option.some.inj H
        have p255 : 0 ≤ (x64_3 : Int) := dt
        have q255 : x64_3 < (y252.length : Int) := dt
        obtain ⟨ad255, A255_0, c255_0, e255, hx255_0, hl255_0, hi255_0⟩ := at_L9 (Kd.N_reads' HO_62.out).2.2 x64_3 p255 q255
        cases e255
        obtain ⟨ce255, hce255, hMe255, hcc255⟩ := Kd.N_get HO_62.out [] x64_3 p255 (by first | exact q255 | exact dt | (have e_ := (Kd.N_reads' HO_62.out).1; omega))
        obtain ⟨ua255_0, uc255_0, rfl, ul255_0, ge255_0⟩ := Kd.FK_slice_open hMe255
        have hv255_0 := hcc255 0 _ rfl
        rw [Nat.add_zero, show ((Kd.slice 58 (Kd.slice 61 k61))).sz = 1 from rfl, Nat.mul_one] at hv255_0
        replace hv255_0 := Option.some.inj (hv255_0.symm.trans hx255_0)
        injection hv255_0 with hva_ hvn_ hvc_
        rw [hva_] at ge255_0
        rw [hvc_] at ul255_0
        have HL255_0 := Aside0.mk (show Kd.V (Kd.slice 61 k61) 58 _ w.heap.size _ _ (rd_L9 y252 x64_3) from Kd.V_mk ul255_0 ge255_0)
        clear hva_ hvn_ hvc_ ge255_0 ul255_0
        clear hcc255 hce255
        have HR255_0 := Aside0.mk hi255_0
        have HC255_0 := Aside0.mk hl255_0
        clear hi255_0 hl255_0
        replace p255 := eq_true p255
        replace q255 := eq_true q255
        go_wp2_with (first | (go_at_call 104; (with_reducible refine (api_Elem_104.calls (gl := gl) (hY := (by first | exact lev_of BY.out | exact lev_of (bk BY.out))) k3 _ _ (rd_L9 y252 x64_3) a0 true _ ?side1 ?side2 A36.out).mono ?_); (case side1 => repeat (first | exact (by repeat (first | (with_reducible exact HR255_0.out) | (with_reducible refine Kd.C_alloc ?_ _) | (with_reducible refine Kd.C_drewN ?_ _) | (with_reducible refine Kd.C_drew ?_) | exact HR255_0.out)) | (with_reducible refine Kd.C_alloc ?_ _) | (with_reducible refine Kd.C_drewN ?_ _) | (with_reducible refine Kd.C_drew ?_))); (case side2 => exact HC255_0.out); rintro e w38 ⟨rfl, hb⟩; replace BY := bb BY hb; replace HB := bh HB hb; (try clear hb); (try clear hk hi)))
        go_ret
        exact ⟨er, bq HB.out⟩
       replace c37 := Bool.eq_false_iff.mpr c37
       subst c37
       have H1 : (proof_shaped.l1 k3 a0 y252 (y252.length : Int) (wrap64 (x64_3 + 1))) = some r := by rw [if_neg (show ¬ (false = true) by decide)] at H; exact H
       clear H
       have H := H1
       clear H1
       have H' := Aside0.mk H
       clear H
       have p255 : 0 ≤ (x64_3 : Int) := dt
       have q255 : x64_3 < (y252.length : Int) := dt
       obtain ⟨ad255, A255_0, c255_0, e255, hx255_0, hl255_0, hi255_0⟩ := at_L9 (Kd.N_reads' HO_62.out).2.2 x64_3 p255 q255
       cases e255
       obtain ⟨ce255, hce255, hMe255, hcc255⟩ := Kd.N_get HO_62.out [] x64_3 p255 (by first | exact q255 | exact dt | (have e_ := (Kd.N_reads' HO_62.out).1; omega))
       obtain ⟨ua255_0, uc255_0, rfl, ul255_0, ge255_0⟩ := Kd.FK_slice_open hMe255
       have hv255_0 := hcc255 0 _ rfl
       rw [Nat.add_zero, show ((Kd.slice 58 (Kd.slice 61 k61))).sz = 1 from rfl, Nat.mul_one] at hv255_0
       replace hv255_0 := Option.some.inj (hv255_0.symm.trans hx255_0)
       injection hv255_0 with hva_ hvn_ hvc_
       rw [hva_] at ge255_0
       rw [hvc_] at ul255_0
       have HL255_0 := Aside0.mk (show Kd.V (Kd.slice 61 k61) 58 _ w.heap.size _ _ (rd_L9 y252 x64_3) from Kd.V_mk ul255_0 ge255_0)
       clear hva_ hvn_ hvc_ ge255_0 ul255_0
       clear hcc255 hce255
       have HR255_0 := Aside0.mk hi255_0
       have HC255_0 := Aside0.mk hl255_0
       clear hi255_0 hl255_0
       replace p255 := eq_true p255
       replace q255 := eq_true q255
       go_wp2_with (first | (go_at_call 104; (with_reducible refine (api_Elem_104.calls (gl := gl) (hY := (by first | exact lev_of BY.out | exact lev_of (bk BY.out))) k3 _ _ (rd_L9 y252 x64_3) a0 false _ ?side1 ?side2 A36.out).mono ?_); (case side1 => repeat (first | exact (by repeat (first | (with_reducible exact HR255_0.out) | (with_reducible refine Kd.C_alloc ?_ _) | (with_reducible refine Kd.C_drewN ?_ _) | (with_reducible refine Kd.C_drew ?_) | exact HR255_0.out)) | (with_reducible refine Kd.C_alloc ?_ _) | (with_reducible refine Kd.C_drewN ?_ _) | (with_reducible refine Kd.C_drew ?_))); (case side2 => exact HC255_0.out); rintro e w39 ⟨rfl, hb⟩; replace HO_62 := kNb HO_62 hb; replace HO_242001 := kVb HO_242001 hb; replace HO_242002 := kVb HO_242002 hb; replace HO_242003 := kVb HO_242003 hb; replace HO_242006 := kVb HO_242006 hb; replace HO_242007 := kVb HO_242007 hb; replace HO_242010 := kVb HO_242010 hb; replace HO_242011 := kVb HO_242011 hb; replace BK241 := bb BK241 hb; replace BY := bb BY hb; replace HB := bh HB hb; (try clear hb); (try clear hk hi)))
       go_roundg k3
       case measure => have := HJ2.out; have := HK2.out; have := HK3.out; omega
       case rel => exact ⟨(wrap64 (x64_3 + 1)), (by first | rfl | (simp; done) | (simp [*]; done)), H', ⟨by have := HJ2.out; have := HK2.out; have := HK3.out; omega⟩, ⟨by (with_reducible repeat (first | apply Kd.N_alloc | apply Kd.N_drewN | apply Kd.N_drew)); exact HO_62.out⟩, ⟨by (with_reducible repeat (first | apply Kd.V_alloc | apply Kd.V_drewN | apply Kd.V_drew)); exact HO_242001.out⟩, ⟨by (with_reducible repeat (first | apply Kd.V_alloc | apply Kd.V_drewN | apply Kd.V_drew)); exact HO_242002.out⟩, ⟨by (with_reducible repeat (first | apply Kd.V_alloc | apply Kd.V_drewN | apply Kd.V_drew)); exact HO_242003.out⟩, ⟨by (with_reducible repeat (first | apply Kd.V_alloc | apply Kd.V_drewN | apply Kd.V_drew)); exact HO_242006.out⟩, ⟨by (with_reducible repeat (first | apply Kd.V_alloc | apply Kd.V_drewN | apply Kd.V_drew)); exact HO_242007.out⟩, ⟨by (with_reducible repeat (first | apply Kd.V_alloc | apply Kd.V_drewN | apply Kd.V_drew)); exact HO_242010.out⟩, ⟨by (with_reducible repeat (first | apply Kd.V_alloc | apply Kd.V_drewN | apply Kd.V_drew)); exact HO_242011.out⟩, ⟨bk BK241.out⟩, ⟨bk BY.out⟩, ⟨bq HB.out⟩⟩

end Go.Proofs.Ythgiifakcgjlaaa.P
