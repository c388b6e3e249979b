/- The page's example of layer 11 (layer 10). Conditions: those that each theorem names. Printed by gen_st.py. -/
import Derived.Test.YtaffpnnhoagmaaaHSum
import Derived.Test.YtaffpnnhoagmaaaPx2
set_option linter.unusedVariables false
set_option linter.unusedSimpArgs false
set_option maxRecDepth 100000
namespace Go.Proofs.Ytaffpnnhoagmaaa.P
open Go.RowKit Go.Proofs.Ytaffpnnhoagmaaa.Br Go.Proofs.YtaffpnnhoagmaaaX Go.Proofs.YtaffpnnhoagmaaaW.PrintWords Go.Proofs.YtaffpnnhoagmaaaW.PrintLast Go.Proofs.YtaffpnnhoagmaaaW.PrintMore
theorem bF_index (s : ByteArray) {i : Nat} (h : i < s.size) (w' : World) : (Instr.index 9 (.string s) (.int .i64 (i : Int))).run Try.prog w' = .ok (.int .u8 (bF s i : Int)) w' := by
  have l2 : (i : Int) < (s.size : Int) := by omega
  have l1 := h
  go_simp
  unfold bF
  rw [List.getD_eq_getElem?_getD, List.getElem?_eq_getElem (by rw [Array.length_toList]; exact l1)]
  rfl
theorem blk55 : sponge_Blocks.f 55 = some 1 := by decide +kernel
theorem blk56 : sponge_Blocks.f 56 = some 2 := by decide +kernel
theorem a_size : (⟨#[97]⟩ : ByteArray).size ≤ 1048576 := by decide
theorem e_size : (⟨#[]⟩ : ByteArray).size ≤ 1099511627776 := by decide
theorem fill_e : (fillS ⟨#[]⟩).size = 64 ∧ bF (fillS ⟨#[]⟩) 0 = 128 ∧ bF (fillS ⟨#[]⟩) 63 = 1 := by
  refine ⟨fillS_size _, ?_, ?_⟩ <;> decide +kernel
theorem str1_eq {P : Program} {f : FuncId} {args : Array Value} {w : World} {a b : ByteArray} (h : a = b) (hc : Calls P f args w fun e w' => e = .returned (.string a) ∧ Below w.heap.size w w') : Calls P f args w fun e w' => e = .returned (.string b) ∧ Below w.heap.size w w' := h ▸ hc
set_option maxHeartbeats 8000000 in
set_option maxRecDepth 100000 in
theorem awake_calls  (w : World) :
  Calls Try.prog 8 #[] w fun e w' => e = .returned (.bool true) ∧ Below w.heap.size w w' := by
 have HB := Aside0.mk (Below.refl w.heap.size w)
 obtain ⟨hf0, hf1, hf2⟩ := fill_e
 obtain ⟨f, ef⟩ : ∃ f, f = fillS ⟨#[]⟩ := ⟨_, rfl⟩
 rw [← ef] at hf0 hf1 hf2
 have EF := Aside0.mk ef.symm
 have i0 : ∀ w', (Instr.index 9 (.string f) (.int .i64 0)).run Try.prog w' = .ok (.int .u8 128) w' := fun w' => by
   have t := bF_index f (i := 0) (by omega) w'
   rw [hf1] at t
   exact t
 have i1 : ∀ w', (Instr.index 9 (.string f) (.int .i64 63)).run Try.prog w' = .ok (.int .u8 1) w' := fun w' => by
   have t := bF_index f (i := 63) (by omega) w'
   rw [hf2] at t
   exact t
 clear ef hf1 hf2
 go_enter Try.func8, Try.ntmps8
 go_wp2_with (first
  | ((with_reducible refine gate_callee (f := 15) rfl ?_); refine goesL_ (some 2) rfl rfl Try.func15 (by kernel_rfl) rfl #[.string ⟨#[]⟩] rfl (by (try simp only [List.map_toArray, List.map_cons, List.map_nil]); first | done | rfl) ?_; (with_reducible refine (str1_eq EF.out (fill_calls ⟨#[]⟩ e_size _)).mono ?_); rintro e w11 ⟨rfl, hb⟩; refine ⟨_, rfl, ?_⟩; replace HB := bh HB hb; (try clear hb))
  | (go_at_call 15; (with_reducible refine (str1_eq EF.out (fill_calls ⟨#[]⟩ e_size _)).mono ?_); rintro e w11 ⟨rfl, hb⟩; replace HB := bh HB hb; (try clear hb))
  | ((with_reducible refine gate_callee (f := 18) rfl ?_); refine goesL_ (some 17) rfl rfl Try.func18 (by kernel_rfl) rfl #[.int .i64 55] rfl (by (try simp only [List.map_toArray, List.map_cons, List.map_nil]); first | done | rfl) ?_; (with_reducible refine (sponge_Blocks.calls 55 1 _ blk55).mono ?_); rintro e w11 ⟨rfl, hd⟩; refine ⟨_, rfl, ?_⟩; have hb := hd.below; clear hd; replace HB := bh HB hb; (try clear hb))
  | (go_at_call 18; (with_reducible refine (sponge_Blocks.calls 55 1 _ blk55).mono ?_); rintro e w11 ⟨rfl, hd⟩; have hb := hd.below; clear hd; replace HB := bh HB hb; (try clear hb))
  | ((with_reducible refine gate_callee (f := 18) rfl ?_); refine goesL_ (some 21) rfl rfl Try.func18 (by kernel_rfl) rfl #[.int .i64 56] rfl (by (try simp only [List.map_toArray, List.map_cons, List.map_nil]); first | done | rfl) ?_; (with_reducible refine (sponge_Blocks.calls 56 2 _ blk56).mono ?_); rintro e w11 ⟨rfl, hd⟩; refine ⟨_, rfl, ?_⟩; have hb := hd.below; clear hd; replace HB := bh HB hb; (try clear hb))
  | (go_at_call 18; (with_reducible refine (sponge_Blocks.calls 56 2 _ blk56).mono ?_); rintro e w11 ⟨rfl, hd⟩; have hb := hd.below; clear hd; replace HB := bh HB hb; (try clear hb))
  | ((with_reducible refine gate_callee (f := 9) rfl ?_); refine goesL_ (some 25) rfl rfl Try.func9 (by kernel_rfl) rfl #[] rfl (by (try simp only [List.map_toArray, List.map_cons, List.map_nil]); first | done | rfl) ?_; (with_reducible refine (make_tab _).mono ?_); rintro e w11 ⟨g, rfl, ht, hb⟩; refine ⟨_, rfl, ?_⟩; have HT := Aside0.mk ht; replace HB := bh HB hb; clear hb ht)
  | (go_at_call 9; (with_reducible refine (make_tab _).mono ?_); rintro e w11 ⟨g, rfl, ht, hb⟩; have HT := Aside0.mk ht; replace HB := bh HB hb; clear hb ht)
  | ((with_reducible refine gate_callee (f := 19) rfl ?_); refine goesL_ (some 26) rfl rfl Try.func19 (by kernel_rfl) rfl #[.pointer (some ⟨g, 0, none⟩), .string ⟨#[97]⟩] rfl (by (try simp only [List.map_toArray, List.map_cons, List.map_nil]); first | done | rfl) ?_; (with_reducible refine (sum_calls HT.out ⟨#[97]⟩ a_size).mono ?_); rintro e w11 ⟨rfl, hb⟩; refine ⟨_, rfl, ?_⟩; replace HT := Aside0.mk (HT.out.below hb); replace HB := bh HB hb; (try clear hb); have zs := sumS_size ⟨#[97]⟩)
  | (go_at_call 19; (with_reducible refine (sum_calls HT.out ⟨#[97]⟩ a_size).mono ?_); rintro e w11 ⟨rfl, hb⟩; replace HT := Aside0.mk (HT.out.below hb); replace HB := bh HB hb; (try clear hb); have zs := sumS_size ⟨#[97]⟩))
 go_ret
 exact ⟨by first | rfl | (simp; done) | (simp [*]; done), HB.out⟩
end Go.Proofs.Ytaffpnnhoagmaaa.P
