/- The law's function SpongePresses walked (layer 10). Conditions: those that each theorem names. Printed by gen_st.py. -/
import Derived.Test.YtaffpnnhoagmaaaHAw11
import Derived.Test.YtaffpnnhoagmaaaPmSpR
import Derived.Test.YtaffpnnhoagmaaaPx5
import Derived.Test.YtaffpnnhoagmaaaPx7
set_option linter.unusedVariables false
set_option linter.unusedSimpArgs false
set_option maxRecDepth 100000
namespace Go.Proofs.Ytaffpnnhoagmaaa.P
open Go.RowKit Go.Proofs.Ytaffpnnhoagmaaa.Br Go.Proofs.YtaffpnnhoagmaaaX Go.Proofs.YtaffpnnhoagmaaaW.PrintWords Go.Proofs.YtaffpnnhoagmaaaW.PrintLast Go.Proofs.YtaffpnnhoagmaaaW.PrintMore
theorem two_info (A B : Option Addr) (n m c d : Nat) : (Try.prog.info? 32).map (·.size) = some #[Value.slice A n c, Value.slice B m d].size := by
  show (Try.prog.info? 32).map (·.size) = some 2
  kernel_rfl
theorem two_one (A B : Option Addr) (n m c d : Nat) : #[Value.slice A n c, Value.slice B m d].all (·.oneCell') = true := by simp [Value.oneCell', Value.cells]
theorem emp_app : ((⟨#[]⟩ : ByteArray) ++ ⟨#[]⟩) = ⟨#[]⟩ := by first | rfl | decide
theorem not_eq (a b : ByteArray) (h : a = b) : True := trivial
set_option maxHeartbeats 8000000 in
set_option maxRecDepth 100000 in
theorem lpress_far1 (h m : ByteArray) (hh : 100 < h.size) (w : World) :
  Calls Try.prog 3 #[.string h, .string m] w fun e w' => e = .returned (.bool true) ∧ Below w.heap.size w w' := by
 have HB := Aside0.mk (Below.refl w.heap.size w)
 have zh1 : decide (100 < (h.size : Int)) = true := decide_eq_true (by omega)
 have zh2 : decide (100 < h.size) = true := decide_eq_true (by omega)
 clear hh
 go_enter Try.func3, Try.ntmps3
 go_wp2_with (first
  | ((with_reducible refine gate_callee (f := 8) rfl ?_); refine goesL_ (some 27) rfl rfl Try.func8 (by kernel_rfl) rfl #[] rfl (by (try simp only [List.map_toArray, List.map_cons, List.map_nil]); first | done | rfl) ?_; (with_reducible refine (awake_calls _).mono ?_); rintro e w11 ⟨rfl, hb⟩; refine ⟨_, rfl, ?_⟩; replace HB := bh HB hb; (try clear hb))
  | (go_at_call 8; (with_reducible refine (awake_calls _).mono ?_); rintro e w11 ⟨rfl, hb⟩; replace HB := bh HB hb; (try clear hb)))
 go_ret
 exact ⟨by first | rfl | (simp; done) | (simp [*]; done), HB.out⟩
set_option maxHeartbeats 8000000 in
set_option maxRecDepth 100000 in
theorem lpress_far2 (h m : ByteArray) (hh : h.size ≤ 100) (hm : 100 < m.size) (w : World) :
  Calls Try.prog 3 #[.string h, .string m] w fun e w' => e = .returned (.bool true) ∧ Below w.heap.size w w' := by
 have HB := Aside0.mk (Below.refl w.heap.size w)
 have zh1 : decide (100 < (h.size : Int)) = false := decide_eq_false (by omega)
 have zh2 : decide (100 < h.size) = false := decide_eq_false (by omega)
 have zm1 : decide (100 < (m.size : Int)) = true := decide_eq_true (by omega)
 have zm2 : decide (100 < m.size) = true := decide_eq_true (by omega)
 clear hh hm
 go_enter Try.func3, Try.ntmps3
 go_wp2_with (first
  | ((with_reducible refine gate_callee (f := 8) rfl ?_); refine goesL_ (some 27) rfl rfl Try.func8 (by kernel_rfl) rfl #[] rfl (by (try simp only [List.map_toArray, List.map_cons, List.map_nil]); first | done | rfl) ?_; (with_reducible refine (awake_calls _).mono ?_); rintro e w11 ⟨rfl, hb⟩; refine ⟨_, rfl, ?_⟩; replace HB := bh HB hb; (try clear hb))
  | (go_at_call 8; (with_reducible refine (awake_calls _).mono ?_); rintro e w11 ⟨rfl, hb⟩; replace HB := bh HB hb; (try clear hb)))
 go_ret
 exact ⟨by first | rfl | (simp; done) | (simp [*]; done), HB.out⟩
set_option maxHeartbeats 8000000 in
set_option maxRecDepth 100000 in
theorem lpress_h {K : Nat} (hmk : steepleref10_Make.f K = some (bl, tl)) (h m : ByteArray) (hh : h.size ≤ 100) (hm : m.size ≤ 100) (hz : h.size ≠ 64) (w : World) :
  Calls Try.prog 3 #[.string h, .string m] w fun e w' => e = .returned (.bool true) ∧ Below w.heap.size w w' := by
 have HB := Aside0.mk (Below.refl w.heap.size w)
 have zh1 : decide (100 < (h.size : Int)) = false := decide_eq_false (by omega)
 have zh2 : decide (100 < h.size) = false := decide_eq_false (by omega)
 have zm1 : decide (100 < (m.size : Int)) = false := decide_eq_false (by omega)
 have zm2 : decide (100 < m.size) = false := decide_eq_false (by omega)
 have yh : ((h.size : Int) != 64) = true := by (rw [bne_iff_ne]; omega)
 have ZH := Aside0.mk hz
 have ea := emp_app
 clear hh hm hz
 have HMK := Aside0.mk hmk
 clear hmk
 go_enter Try.func3, Try.ntmps3
 go_wp2_with (first
  | ((with_reducible refine gate_callee (f := 8) rfl ?_); refine goesL_ (some 24) rfl rfl Try.func8 (by kernel_rfl) rfl #[] rfl (by (try simp only [List.map_toArray, List.map_cons, List.map_nil]); first | done | rfl) ?_; (with_reducible refine (awake_calls _).mono ?_); rintro e w11 ⟨rfl, hb⟩; refine ⟨_, rfl, ?_⟩; replace HB := bh HB hb; (try clear hb))
  | (go_at_call 8; (with_reducible refine (awake_calls _).mono ?_); rintro e w11 ⟨rfl, hb⟩; replace HB := bh HB hb; (try clear hb))
  | ((with_reducible refine gate_callee (f := 9) rfl ?_); refine goesL_ (some 28) rfl rfl Try.func9 (by kernel_rfl) rfl #[] rfl (by (try simp only [List.map_toArray, List.map_cons, List.map_nil]); first | done | rfl) ?_; (with_reducible refine (make_tab _).mono ?_); rintro e w11 ⟨g, rfl, ht, hb⟩; refine ⟨_, rfl, ?_⟩; have HT := Aside0.mk ht; replace HB := bh HB hb; clear hb ht)
  | (go_at_call 9; (with_reducible refine (make_tab _).mono ?_); rintro e w11 ⟨g, rfl, ht, hb⟩; have HT := Aside0.mk ht; replace HB := bh HB hb; clear hb ht)
  | ((with_reducible refine gate_callee (f := 10) rfl ?_); refine goesL_ (some 33) rfl rfl Try.func10 (by kernel_rfl) rfl #[.pointer (some ⟨g, 0, none⟩), .string h, .string m] rfl (by (try simp only [List.map_toArray, List.map_cons, List.map_nil]); first | done | rfl) ?_; (with_reducible refine (press_size1 h m ZH.out).mono ?_); rintro e w11 ⟨rfl, hb⟩; refine ⟨_, rfl, ?_⟩; replace HT := Aside0.mk (HT.out.below hb); replace HB := bh HB hb; (try clear hb))
  | (go_at_call 10; (with_reducible refine (press_size1 h m ZH.out).mono ?_); rintro e w11 ⟨rfl, hb⟩; replace HT := Aside0.mk (HT.out.below hb); replace HB := bh HB hb; (try clear hb))
  | ((with_reducible refine gate_callee (f := 11) rfl ?_); refine goesL_ (some 39) rfl rfl Try.func11 (by kernel_rfl) rfl #[.pointer (some ⟨g, 0, none⟩), .string h] rfl (by (try simp only [List.map_toArray, List.map_cons, List.map_nil]); first | done | rfl) ?_; (with_reducible refine (close_size (g := g) h ZH.out).mono ?_); rintro e w11 ⟨rfl, hb⟩; refine ⟨_, rfl, ?_⟩; replace HT := Aside0.mk (HT.out.below hb); replace HB := bh HB hb; (try clear hb))
  | (go_at_call 11; (with_reducible refine (close_size (g := g) h ZH.out).mono ?_); rintro e w11 ⟨rfl, hb⟩; replace HT := Aside0.mk (HT.out.below hb); replace HB := bh HB hb; (try clear hb))
  | ((with_reducible refine gate_callee (f := 10) rfl ?_); refine goesL_ (some 45) rfl rfl Try.func10 (by kernel_rfl) rfl #[.pointer none, .string h, .string m] rfl (by (try simp only [List.map_toArray, List.map_cons, List.map_nil]); first | done | rfl) ?_; (with_reducible refine (press_nil h m).mono ?_); rintro e w11 ⟨rfl, hb⟩; refine ⟨_, rfl, ?_⟩; replace HT := Aside0.mk (HT.out.below hb); replace HB := bh HB hb; (try clear hb))
  | (go_at_call 10; (with_reducible refine (press_nil h m).mono ?_); rintro e w11 ⟨rfl, hb⟩; replace HT := Aside0.mk (HT.out.below hb); replace HB := bh HB hb; (try clear hb))
  | ((with_reducible refine gate_callee (f := 11) rfl ?_); refine goesL_ (some 50) rfl rfl Try.func11 (by kernel_rfl) rfl #[.pointer none, .string h] rfl (by (try simp only [List.map_toArray, List.map_cons, List.map_nil]); first | done | rfl) ?_; (with_reducible refine (close_nil (g := 0) h).mono ?_); rintro e w11 ⟨rfl, hb⟩; refine ⟨_, rfl, ?_⟩; replace HT := Aside0.mk (HT.out.below hb); replace HB := bh HB hb; (try clear hb))
  | (go_at_call 11; (with_reducible refine (close_nil (g := 0) h).mono ?_); rintro e w11 ⟨rfl, hb⟩; replace HT := Aside0.mk (HT.out.below hb); replace HB := bh HB hb; (try clear hb))
  | ((with_reducible refine gate_callee (f := 12) rfl ?_); refine goesL_ (some 59) rfl rfl Try.func12 (by kernel_rfl) rfl #[] rfl (by (try simp only [List.map_toArray, List.map_cons, List.map_nil]); first | done | rfl) ?_; (with_reducible refine (steepleref10_Make.calls K bl tl _ HMK.out).mono ?_); rintro e w11 ⟨v0, v1, rfl, hr0, hr1, hb⟩; refine ⟨_, rfl, ?_⟩; obtain ⟨A0, d0, rfl, hd0, hC0⟩ := Kd.R_reads hr0; obtain ⟨A1, d1, rfl, hd1, hC1⟩ := Kd.S_reads hr1; have K0 := Aside0.mk hC0; have K1 := Aside0.mk hC1; have D0 := Aside0.mk hd0; have D1 := Aside0.mk hd1; replace HB := bh HB hb; clear hb hr0 hr1 hC0 hC1 hd0 hd1)
  | (go_at_call 12; (with_reducible refine (steepleref10_Make.calls K bl tl _ HMK.out).mono ?_); rintro e w11 ⟨v0, v1, rfl, hr0, hr1, hb⟩; obtain ⟨A0, d0, rfl, hd0, hC0⟩ := Kd.R_reads hr0; obtain ⟨A1, d1, rfl, hd1, hC1⟩ := Kd.S_reads hr1; have K0 := Aside0.mk hC0; have K1 := Aside0.mk hC1; have D0 := Aside0.mk hd0; have D1 := Aside0.mk hd1; replace HB := bh HB hb; clear hb hr0 hr1 hC0 hC1 hd0 hd1)
  | ((with_reducible refine gate_dst (N := 14) rfl ?_); refine box_event ?hg (N := 14) ?hd (cs := #[.slice none 0 0, .slice none 0 0]) (t := 32) ?hr ?_; (case hd => rfl); (case hg => rfl); (case hr => first | (go_simp; done) | (go_simp; rfl)); intro g3 hg3 w3 hbox hb; have B3 := Aside0.mk hbox; have G3 := ge hg3 HB; have G4 := Aside0.mk (Nat.le_of_eq hg3.symm); have KB := Aside0.mk hb; replace HB := bh HB hb; clear hb hbox hg3)
  | ((with_reducible refine gate_store (t := 32) (p := 14) rfl ?_); refine wpList_store_row rfl 32 (.tmp 14) (.tmp 59) rfl g3 #[Value.slice A0 bl.length d0, .slice A1 tl.length d1] (by rfl) (by rfl) 32 _ B3.out (two_info _ _ _ _ _ _) rfl (two_one _ _ _ _ _ _) ?_; replace KB := Aside0.mk (below_setRow KB.out G4.out #[Value.slice A0 bl.length d0, .slice A1 tl.length d1]); replace HB := Aside0.mk (below_setRow HB.out G3.out #[Value.slice A0 bl.length d0, .slice A1 tl.length d1]); replace B3 := Aside0.mk (setRow_heap _ g3 _ #[Value.slice A0 bl.length d0, .slice A1 tl.length d1] 32 (0, 0) B3.out); (generalize World.setRow _ g3 #[Value.slice A0 bl.length d0, .slice A1 tl.length d1] = w4 at HB KB B3 ⊢); have ca := (blk_cell B3.out 0).trans rfl; have cb := (blk_cell B3.out 1).trans rfl))
 go_ret
 exact ⟨by first | rfl | (simp; done) | (simp [*]; done), HB.out⟩
set_option maxHeartbeats 8000000 in
set_option maxRecDepth 100000 in
theorem lpress_m {K : Nat} (hmk : steepleref10_Make.f K = some (bl, tl)) (h m : ByteArray) (hz : h.size = 64) (hm : m.size ≤ 100) (hy : m.size ≠ 64) (hcl : steepleref11_Close.f K bl tl h = some (closeS h)) (w : World) :
  Calls Try.prog 3 #[.string h, .string m] w fun e w' => e = .returned (.bool true) ∧ Below w.heap.size w w' := by
 have HB := Aside0.mk (Below.refl w.heap.size w)
 have zh1 : decide (100 < (h.size : Int)) = false := decide_eq_false (by omega)
 have zh2 : decide (100 < h.size) = false := decide_eq_false (by omega)
 have zm1 : decide (100 < (m.size : Int)) = false := decide_eq_false (by omega)
 have zm2 : decide (100 < m.size) = false := decide_eq_false (by omega)
 have yh : ((h.size : Int) != 64) = false := by (rw [show (h.size : Int) = 64 by omega]; rfl)
 have ym : ((m.size : Int) != 64) = true := by (rw [bne_iff_ne]; omega)
 have ZH := Aside0.mk hz
 have ZM := Aside0.mk hy
 have CL := Aside0.mk hcl
 clear hm hz hy hcl
 have HMK := Aside0.mk hmk
 clear hmk
 go_enter Try.func3, Try.ntmps3
 go_wp2_with (first
  | ((with_reducible refine gate_callee (f := 8) rfl ?_); refine goesL_ (some 24) rfl rfl Try.func8 (by kernel_rfl) rfl #[] rfl (by (try simp only [List.map_toArray, List.map_cons, List.map_nil]); first | done | rfl) ?_; (with_reducible refine (awake_calls _).mono ?_); rintro e w11 ⟨rfl, hb⟩; refine ⟨_, rfl, ?_⟩; replace HB := bh HB hb; (try clear hb))
  | (go_at_call 8; (with_reducible refine (awake_calls _).mono ?_); rintro e w11 ⟨rfl, hb⟩; replace HB := bh HB hb; (try clear hb))
  | ((with_reducible refine gate_callee (f := 9) rfl ?_); refine goesL_ (some 28) rfl rfl Try.func9 (by kernel_rfl) rfl #[] rfl (by (try simp only [List.map_toArray, List.map_cons, List.map_nil]); first | done | rfl) ?_; (with_reducible refine (make_tab _).mono ?_); rintro e w11 ⟨g, rfl, ht, hb⟩; refine ⟨_, rfl, ?_⟩; have HT := Aside0.mk ht; replace HB := bh HB hb; clear hb ht)
  | (go_at_call 9; (with_reducible refine (make_tab _).mono ?_); rintro e w11 ⟨g, rfl, ht, hb⟩; have HT := Aside0.mk ht; replace HB := bh HB hb; clear hb ht)
  | ((with_reducible refine gate_callee (f := 10) rfl ?_); refine goesL_ (some 33) rfl rfl Try.func10 (by kernel_rfl) rfl #[.pointer (some ⟨g, 0, none⟩), .string h, .string m] rfl (by (try simp only [List.map_toArray, List.map_cons, List.map_nil]); first | done | rfl) ?_; (with_reducible refine (press_size2 h m ZH.out ZM.out).mono ?_); rintro e w11 ⟨rfl, hb⟩; refine ⟨_, rfl, ?_⟩; replace HT := Aside0.mk (HT.out.below hb); replace HB := bh HB hb; (try clear hb))
  | (go_at_call 10; (with_reducible refine (press_size2 h m ZH.out ZM.out).mono ?_); rintro e w11 ⟨rfl, hb⟩; replace HT := Aside0.mk (HT.out.below hb); replace HB := bh HB hb; (try clear hb))
  | ((with_reducible refine gate_callee (f := 11) rfl ?_); refine goesL_ (some 39) rfl rfl Try.func11 (by kernel_rfl) rfl #[.pointer (some ⟨g, 0, none⟩), .string h] rfl (by (try simp only [List.map_toArray, List.map_cons, List.map_nil]); first | done | rfl) ?_; (with_reducible refine (close_calls HT.out h ZH.out).mono ?_); rintro e w11 ⟨rfl, hb⟩; refine ⟨_, rfl, ?_⟩; replace HT := Aside0.mk (HT.out.below hb); replace HB := bh HB hb; (try clear hb))
  | (go_at_call 11; (with_reducible refine (close_calls HT.out h ZH.out).mono ?_); rintro e w11 ⟨rfl, hb⟩; replace HT := Aside0.mk (HT.out.below hb); replace HB := bh HB hb; (try clear hb))
  | ((with_reducible refine gate_callee (f := 10) rfl ?_); refine goesL_ (some 45) rfl rfl Try.func10 (by kernel_rfl) rfl #[.pointer none, .string h, .string m] rfl (by (try simp only [List.map_toArray, List.map_cons, List.map_nil]); first | done | rfl) ?_; (with_reducible refine (press_nil h m).mono ?_); rintro e w11 ⟨rfl, hb⟩; refine ⟨_, rfl, ?_⟩; replace HT := Aside0.mk (HT.out.below hb); replace HB := bh HB hb; (try clear hb))
  | (go_at_call 10; (with_reducible refine (press_nil h m).mono ?_); rintro e w11 ⟨rfl, hb⟩; replace HT := Aside0.mk (HT.out.below hb); replace HB := bh HB hb; (try clear hb))
  | ((with_reducible refine gate_callee (f := 11) rfl ?_); refine goesL_ (some 50) rfl rfl Try.func11 (by kernel_rfl) rfl #[.pointer none, .string h] rfl (by (try simp only [List.map_toArray, List.map_cons, List.map_nil]); first | done | rfl) ?_; (with_reducible refine (close_nil (g := 0) h).mono ?_); rintro e w11 ⟨rfl, hb⟩; refine ⟨_, rfl, ?_⟩; replace HT := Aside0.mk (HT.out.below hb); replace HB := bh HB hb; (try clear hb))
  | (go_at_call 11; (with_reducible refine (close_nil (g := 0) h).mono ?_); rintro e w11 ⟨rfl, hb⟩; replace HT := Aside0.mk (HT.out.below hb); replace HB := bh HB hb; (try clear hb))
  | ((with_reducible refine gate_callee (f := 12) rfl ?_); refine goesL_ (some 59) rfl rfl Try.func12 (by kernel_rfl) rfl #[] rfl (by (try simp only [List.map_toArray, List.map_cons, List.map_nil]); first | done | rfl) ?_; (with_reducible refine (steepleref10_Make.calls K bl tl _ HMK.out).mono ?_); rintro e w11 ⟨v0, v1, rfl, hr0, hr1, hb⟩; refine ⟨_, rfl, ?_⟩; obtain ⟨A0, d0, rfl, hd0, hC0⟩ := Kd.R_reads hr0; obtain ⟨A1, d1, rfl, hd1, hC1⟩ := Kd.S_reads hr1; have K0 := Aside0.mk hC0; have K1 := Aside0.mk hC1; have D0 := Aside0.mk hd0; have D1 := Aside0.mk hd1; replace HB := bh HB hb; clear hb hr0 hr1 hC0 hC1 hd0 hd1)
  | (go_at_call 12; (with_reducible refine (steepleref10_Make.calls K bl tl _ HMK.out).mono ?_); rintro e w11 ⟨v0, v1, rfl, hr0, hr1, hb⟩; obtain ⟨A0, d0, rfl, hd0, hC0⟩ := Kd.R_reads hr0; obtain ⟨A1, d1, rfl, hd1, hC1⟩ := Kd.S_reads hr1; have K0 := Aside0.mk hC0; have K1 := Aside0.mk hC1; have D0 := Aside0.mk hd0; have D1 := Aside0.mk hd1; replace HB := bh HB hb; clear hb hr0 hr1 hC0 hC1 hd0 hd1)
  | ((with_reducible refine gate_dst (N := 14) rfl ?_); refine box_event ?hg (N := 14) ?hd (cs := #[.slice none 0 0, .slice none 0 0]) (t := 32) ?hr ?_; (case hd => rfl); (case hg => rfl); (case hr => first | (go_simp; done) | (go_simp; rfl)); intro g3 hg3 w3 hbox hb; have B3 := Aside0.mk hbox; have G3 := ge hg3 HB; have G4 := Aside0.mk (Nat.le_of_eq hg3.symm); have KB := Aside0.mk hb; replace HB := bh HB hb; clear hb hbox hg3)
  | ((with_reducible refine gate_store (t := 32) (p := 14) rfl ?_); refine wpList_store_row rfl 32 (.tmp 14) (.tmp 59) rfl g3 #[Value.slice A0 bl.length d0, .slice A1 tl.length d1] (by rfl) (by rfl) 32 _ B3.out (two_info _ _ _ _ _ _) rfl (two_one _ _ _ _ _ _) ?_; replace KB := Aside0.mk (below_setRow KB.out G4.out #[Value.slice A0 bl.length d0, .slice A1 tl.length d1]); replace HB := Aside0.mk (below_setRow HB.out G3.out #[Value.slice A0 bl.length d0, .slice A1 tl.length d1]); replace B3 := Aside0.mk (setRow_heap _ g3 _ #[Value.slice A0 bl.length d0, .slice A1 tl.length d1] 32 (0, 0) B3.out); (generalize World.setRow _ g3 #[Value.slice A0 bl.length d0, .slice A1 tl.length d1] = w4 at HB KB B3 ⊢); have ca := (blk_cell B3.out 0).trans rfl; have cb := (blk_cell B3.out 1).trans rfl)
  | ((with_reducible refine gate_callee (f := 13) rfl ?_); refine goesL_ (some 81) rfl rfl Try.func13 (by kernel_rfl) rfl #[.agg #[.slice A0 bl.length d0, .slice A1 tl.length d1], .string h] rfl (by (try simp only [List.map_toArray, List.map_cons, List.map_nil]); first | done | rfl) ?_; (with_reducible refine (steepleref11_Close.calls K _ _ bl _ _ tl h (closeS h) _ (Kd.C_below K0.out KB.out) D0.out (Kd.C_below K1.out KB.out) D1.out CL.out).mono ?_); rintro e w11 ⟨rfl, hb⟩; refine ⟨_, rfl, ?_⟩; clear ca cb; replace B3 := bb B3 hb; replace KB := Aside0.mk (below_step KB.out hb); replace HB := bh HB hb; clear hb; have ca := (blk_cell B3.out 0).trans rfl; have cb := (blk_cell B3.out 1).trans rfl)
  | (go_at_call 13; (with_reducible refine (steepleref11_Close.calls K _ _ bl _ _ tl h (closeS h) _ (Kd.C_below K0.out KB.out) D0.out (Kd.C_below K1.out KB.out) D1.out CL.out).mono ?_); rintro e w11 ⟨rfl, hb⟩; clear ca cb; replace B3 := bb B3 hb; replace KB := Aside0.mk (below_step KB.out hb); replace HB := bh HB hb; clear hb; have ca := (blk_cell B3.out 0).trans rfl; have cb := (blk_cell B3.out 1).trans rfl))
 go_ret
 exact ⟨by first | rfl | (simp; done) | (simp [*]; done), HB.out⟩
set_option maxHeartbeats 8000000 in
set_option maxRecDepth 100000 in
theorem lpress_yes {K : Nat} (hmk : steepleref10_Make.f K = some (bl, tl)) (h m : ByteArray) (hz : h.size = 64) (hy : m.size = 64) (hcl : steepleref11_Close.f K bl tl h = some (closeS h)) (hpr : steepleref11_Press.f K bl tl h m = some (pressS h m)) (w : World) :
  Calls Try.prog 3 #[.string h, .string m] w fun e w' => e = .returned (.bool true) ∧ Below w.heap.size w w' := by
 have HB := Aside0.mk (Below.refl w.heap.size w)
 have zh1 : decide (100 < (h.size : Int)) = false := decide_eq_false (by omega)
 have zh2 : decide (100 < h.size) = false := decide_eq_false (by omega)
 have zm1 : decide (100 < (m.size : Int)) = false := decide_eq_false (by omega)
 have zm2 : decide (100 < m.size) = false := decide_eq_false (by omega)
 have yh : ((h.size : Int) != 64) = false := by (rw [show (h.size : Int) = 64 by omega]; rfl)
 have ym : ((m.size : Int) != 64) = false := by (rw [show (m.size : Int) = 64 by omega]; rfl)
 have ZH := Aside0.mk hz
 have ZM := Aside0.mk hy
 have CL := Aside0.mk hcl
 have PR := Aside0.mk hpr
 clear hz hy hcl hpr
 have HMK := Aside0.mk hmk
 clear hmk
 go_enter Try.func3, Try.ntmps3
 go_wp2_with (first
  | ((with_reducible refine gate_callee (f := 8) rfl ?_); refine goesL_ (some 24) rfl rfl Try.func8 (by kernel_rfl) rfl #[] rfl (by (try simp only [List.map_toArray, List.map_cons, List.map_nil]); first | done | rfl) ?_; (with_reducible refine (awake_calls _).mono ?_); rintro e w11 ⟨rfl, hb⟩; refine ⟨_, rfl, ?_⟩; replace HB := bh HB hb; (try clear hb))
  | (go_at_call 8; (with_reducible refine (awake_calls _).mono ?_); rintro e w11 ⟨rfl, hb⟩; replace HB := bh HB hb; (try clear hb))
  | ((with_reducible refine gate_callee (f := 9) rfl ?_); refine goesL_ (some 28) rfl rfl Try.func9 (by kernel_rfl) rfl #[] rfl (by (try simp only [List.map_toArray, List.map_cons, List.map_nil]); first | done | rfl) ?_; (with_reducible refine (make_tab _).mono ?_); rintro e w11 ⟨g, rfl, ht, hb⟩; refine ⟨_, rfl, ?_⟩; have HT := Aside0.mk ht; replace HB := bh HB hb; clear hb ht)
  | (go_at_call 9; (with_reducible refine (make_tab _).mono ?_); rintro e w11 ⟨g, rfl, ht, hb⟩; have HT := Aside0.mk ht; replace HB := bh HB hb; clear hb ht)
  | ((with_reducible refine gate_callee (f := 10) rfl ?_); refine goesL_ (some 33) rfl rfl Try.func10 (by kernel_rfl) rfl #[.pointer (some ⟨g, 0, none⟩), .string h, .string m] rfl (by (try simp only [List.map_toArray, List.map_cons, List.map_nil]); first | done | rfl) ?_; (with_reducible refine (press_calls HT.out h m ZH.out ZM.out).mono ?_); rintro e w11 ⟨rfl, hb⟩; refine ⟨_, rfl, ?_⟩; replace HT := Aside0.mk (HT.out.below hb); replace HB := bh HB hb; (try clear hb))
  | (go_at_call 10; (with_reducible refine (press_calls HT.out h m ZH.out ZM.out).mono ?_); rintro e w11 ⟨rfl, hb⟩; replace HT := Aside0.mk (HT.out.below hb); replace HB := bh HB hb; (try clear hb))
  | ((with_reducible refine gate_callee (f := 11) rfl ?_); refine goesL_ (some 39) rfl rfl Try.func11 (by kernel_rfl) rfl #[.pointer (some ⟨g, 0, none⟩), .string h] rfl (by (try simp only [List.map_toArray, List.map_cons, List.map_nil]); first | done | rfl) ?_; (with_reducible refine (close_calls HT.out h ZH.out).mono ?_); rintro e w11 ⟨rfl, hb⟩; refine ⟨_, rfl, ?_⟩; replace HT := Aside0.mk (HT.out.below hb); replace HB := bh HB hb; (try clear hb))
  | (go_at_call 11; (with_reducible refine (close_calls HT.out h ZH.out).mono ?_); rintro e w11 ⟨rfl, hb⟩; replace HT := Aside0.mk (HT.out.below hb); replace HB := bh HB hb; (try clear hb))
  | ((with_reducible refine gate_callee (f := 10) rfl ?_); refine goesL_ (some 45) rfl rfl Try.func10 (by kernel_rfl) rfl #[.pointer none, .string h, .string m] rfl (by (try simp only [List.map_toArray, List.map_cons, List.map_nil]); first | done | rfl) ?_; (with_reducible refine (press_nil h m).mono ?_); rintro e w11 ⟨rfl, hb⟩; refine ⟨_, rfl, ?_⟩; replace HT := Aside0.mk (HT.out.below hb); replace HB := bh HB hb; (try clear hb))
  | (go_at_call 10; (with_reducible refine (press_nil h m).mono ?_); rintro e w11 ⟨rfl, hb⟩; replace HT := Aside0.mk (HT.out.below hb); replace HB := bh HB hb; (try clear hb))
  | ((with_reducible refine gate_callee (f := 11) rfl ?_); refine goesL_ (some 50) rfl rfl Try.func11 (by kernel_rfl) rfl #[.pointer none, .string h] rfl (by (try simp only [List.map_toArray, List.map_cons, List.map_nil]); first | done | rfl) ?_; (with_reducible refine (close_nil (g := 0) h).mono ?_); rintro e w11 ⟨rfl, hb⟩; refine ⟨_, rfl, ?_⟩; replace HT := Aside0.mk (HT.out.below hb); replace HB := bh HB hb; (try clear hb))
  | (go_at_call 11; (with_reducible refine (close_nil (g := 0) h).mono ?_); rintro e w11 ⟨rfl, hb⟩; replace HT := Aside0.mk (HT.out.below hb); replace HB := bh HB hb; (try clear hb))
  | ((with_reducible refine gate_callee (f := 12) rfl ?_); refine goesL_ (some 59) rfl rfl Try.func12 (by kernel_rfl) rfl #[] rfl (by (try simp only [List.map_toArray, List.map_cons, List.map_nil]); first | done | rfl) ?_; (with_reducible refine (steepleref10_Make.calls K bl tl _ HMK.out).mono ?_); rintro e w11 ⟨v0, v1, rfl, hr0, hr1, hb⟩; refine ⟨_, rfl, ?_⟩; obtain ⟨A0, d0, rfl, hd0, hC0⟩ := Kd.R_reads hr0; obtain ⟨A1, d1, rfl, hd1, hC1⟩ := Kd.S_reads hr1; have K0 := Aside0.mk hC0; have K1 := Aside0.mk hC1; have D0 := Aside0.mk hd0; have D1 := Aside0.mk hd1; replace HB := bh HB hb; clear hb hr0 hr1 hC0 hC1 hd0 hd1)
  | (go_at_call 12; (with_reducible refine (steepleref10_Make.calls K bl tl _ HMK.out).mono ?_); rintro e w11 ⟨v0, v1, rfl, hr0, hr1, hb⟩; obtain ⟨A0, d0, rfl, hd0, hC0⟩ := Kd.R_reads hr0; obtain ⟨A1, d1, rfl, hd1, hC1⟩ := Kd.S_reads hr1; have K0 := Aside0.mk hC0; have K1 := Aside0.mk hC1; have D0 := Aside0.mk hd0; have D1 := Aside0.mk hd1; replace HB := bh HB hb; clear hb hr0 hr1 hC0 hC1 hd0 hd1)
  | ((with_reducible refine gate_dst (N := 14) rfl ?_); refine box_event ?hg (N := 14) ?hd (cs := #[.slice none 0 0, .slice none 0 0]) (t := 32) ?hr ?_; (case hd => rfl); (case hg => rfl); (case hr => first | (go_simp; done) | (go_simp; rfl)); intro g3 hg3 w3 hbox hb; have B3 := Aside0.mk hbox; have G3 := ge hg3 HB; have G4 := Aside0.mk (Nat.le_of_eq hg3.symm); have KB := Aside0.mk hb; replace HB := bh HB hb; clear hb hbox hg3)
  | ((with_reducible refine gate_store (t := 32) (p := 14) rfl ?_); refine wpList_store_row rfl 32 (.tmp 14) (.tmp 59) rfl g3 #[Value.slice A0 bl.length d0, .slice A1 tl.length d1] (by rfl) (by rfl) 32 _ B3.out (two_info _ _ _ _ _ _) rfl (two_one _ _ _ _ _ _) ?_; replace KB := Aside0.mk (below_setRow KB.out G4.out #[Value.slice A0 bl.length d0, .slice A1 tl.length d1]); replace HB := Aside0.mk (below_setRow HB.out G3.out #[Value.slice A0 bl.length d0, .slice A1 tl.length d1]); replace B3 := Aside0.mk (setRow_heap _ g3 _ #[Value.slice A0 bl.length d0, .slice A1 tl.length d1] 32 (0, 0) B3.out); (generalize World.setRow _ g3 #[Value.slice A0 bl.length d0, .slice A1 tl.length d1] = w4 at HB KB B3 ⊢); have ca := (blk_cell B3.out 0).trans rfl; have cb := (blk_cell B3.out 1).trans rfl)
  | ((with_reducible refine gate_callee (f := 13) rfl ?_); refine goesL_ (some 81) rfl rfl Try.func13 (by kernel_rfl) rfl #[.agg #[.slice A0 bl.length d0, .slice A1 tl.length d1], .string h] rfl (by (try simp only [List.map_toArray, List.map_cons, List.map_nil]); first | done | rfl) ?_; (with_reducible refine (steepleref11_Close.calls K _ _ bl _ _ tl h (closeS h) _ (Kd.C_below K0.out KB.out) D0.out (Kd.C_below K1.out KB.out) D1.out CL.out).mono ?_); rintro e w11 ⟨rfl, hb⟩; refine ⟨_, rfl, ?_⟩; clear ca cb; replace B3 := bb B3 hb; replace KB := Aside0.mk (below_step KB.out hb); replace HB := bh HB hb; clear hb; have ca := (blk_cell B3.out 0).trans rfl; have cb := (blk_cell B3.out 1).trans rfl)
  | (go_at_call 13; (with_reducible refine (steepleref11_Close.calls K _ _ bl _ _ tl h (closeS h) _ (Kd.C_below K0.out KB.out) D0.out (Kd.C_below K1.out KB.out) D1.out CL.out).mono ?_); rintro e w11 ⟨rfl, hb⟩; clear ca cb; replace B3 := bb B3 hb; replace KB := Aside0.mk (below_step KB.out hb); replace HB := bh HB hb; clear hb; have ca := (blk_cell B3.out 0).trans rfl; have cb := (blk_cell B3.out 1).trans rfl)
  | ((with_reducible refine gate_callee (f := 14) rfl ?_); refine goesL_ (some 100) rfl rfl Try.func14 (by kernel_rfl) rfl #[.agg #[.slice A0 bl.length d0, .slice A1 tl.length d1], .string h, .string m] rfl (by (try simp only [List.map_toArray, List.map_cons, List.map_nil]); first | done | rfl) ?_; (with_reducible refine (steepleref11_Press.calls K _ _ bl _ _ tl h m (pressS h m) _ (Kd.C_below K0.out KB.out) D0.out (Kd.C_below K1.out KB.out) D1.out PR.out).mono ?_); rintro e w11 ⟨rfl, hb⟩; refine ⟨_, rfl, ?_⟩; clear ca cb; replace B3 := bb B3 hb; replace KB := Aside0.mk (below_step KB.out hb); replace HB := bh HB hb; clear hb; have ca := (blk_cell B3.out 0).trans rfl; have cb := (blk_cell B3.out 1).trans rfl)
  | (go_at_call 14; (with_reducible refine (steepleref11_Press.calls K _ _ bl _ _ tl h m (pressS h m) _ (Kd.C_below K0.out KB.out) D0.out (Kd.C_below K1.out KB.out) D1.out PR.out).mono ?_); rintro e w11 ⟨rfl, hb⟩; clear ca cb; replace B3 := bb B3 hb; replace KB := Aside0.mk (below_step KB.out hb); replace HB := bh HB hb; clear hb; have ca := (blk_cell B3.out 0).trans rfl; have cb := (blk_cell B3.out 1).trans rfl))
 go_ret
 exact ⟨by first | rfl | (simp; done) | (simp [*]; done), HB.out⟩
end Go.Proofs.Ytaffpnnhoagmaaa.P
