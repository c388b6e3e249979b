/- A round of a way (layer 10). Conditions: those that each theorem names. Printed by gen_st.py. -/
import Derived.Test.YtaffpnnhoagmaaaHAdd
import Derived.Test.YtaffpnnhoagmaaaHSwap
import Derived.Test.YtaffpnnhoagmaaaHMix
set_option linter.unusedVariables false
set_option linter.unusedSimpArgs false
set_option maxRecDepth 100000
namespace Go.Proofs.Ytaffpnnhoagmaaa.P
open Go.RowKit Go.Proofs.YtaffpnnhoagmaaaX Go.Proofs.YtaffpnnhoagmaaaW.PrintWords Go.Proofs.YtaffpnnhoagmaaaW.PrintLast Go.Proofs.YtaffpnnhoagmaaaW.PrintMore
/-- A round of a way. -/
def roundF (bx : Nat → Nat) (ml : Nat → Nat → Nat) (q : Bool) (r : Nat) (f : Nat → Nat) : Nat → Nat := mixF ml (turnF q false (fun n => bx (addF q r f n)))
set_option maxHeartbeats 8000000 in
set_option maxRecDepth 100000 in
theorem on1_calls {bx : Nat → Nat} {ml : Nat → Nat → Nat} {gt g r ba bq : Nat} {q : Bool} {ct cs : Array Value} {w : World} {f : Nat → Nat} (hm8 : ∀ b q : Nat, b < 256 → q ∈ mixL → ml q b < 256) (hb8 : ∀ b, b < 256 → bx b < 256) (hT : w.heap[gt]? = some (.cells ct 54 (0, 0))) (hTab : Tab bx ml 256 256 256 0 ct) (hg : gt < g) (hS : w.heap[g]? = some (.cells cs 101 (0, 0))) (hf : Sta f cs) (hr : r < 6)
  (hA : w.heap[ba]? = some (.cells #[.pointer (some ⟨gt, 0, none⟩)] 23 (0, 0))) (hQ : w.heap[bq]? = some (.cells #[.bool q] 4 (0, 0))) (hag : ba < g) (hqg : bq < g) :
  Calls Try.prog 69 #[.pointer (some ⟨g, 0, none⟩), .int .i64 (r : Int), .pointer (some ⟨bq, 0, none⟩), .pointer (some ⟨ba, 0, none⟩)] w fun e w' => e = .returned (.tuple #[]) ∧ (∃ cs', w'.heap[g]? = some (.cells cs' 101 (0, 0)) ∧ Sta (roundF bx ml q r f) cs') ∧ Below g w w' := by
 have HB := Aside0.mk (Below.refl g w)
 have HS := Aside0.mk hS
 have HF := Aside0.mk hf
 have HT := Aside0.mk hT
 have TB := Aside0.mk hTab
 have M8 := Aside0.mk hm8
 have B8 := Aside0.mk hb8
 have TG := Aside0.mk hg
 have AG := Aside0.mk hag
 have QG := Aside0.mk hqg
 have HA := Aside0.mk hA
 have HQ := Aside0.mk hQ
 have HR := Aside0.mk hr
 clear hS hf hT hTab hm8 hb8 hg hag hqg hA hQ hr
 have ca := (blk_cell HA.out 0).trans rfl
 have cq := (blk_cell HQ.out 0).trans rfl
 go_enter Try.func69, Try.ntmps69
 go_wp2_with (first
  | ((with_reducible refine gate_callee (f := 70) rfl ?_); refine goesL_ (some 9) rfl rfl Try.func70 (by kernel_rfl) rfl #[.pointer (some ⟨g, 0, none⟩), .bool q, .int .i64 (r : Int)] rfl (by (try simp only [List.map_toArray, List.map_cons, List.map_nil]); first | done | rfl) ?_; (with_reducible refine (add_calls q HR.out HS.out HF.out).mono ?_); rintro e w11 ⟨rfl, ⟨cs1, hs2, hf2⟩, hb⟩; refine ⟨_, rfl, ?_⟩; clear ca cq; replace HS := Aside0.mk hs2; have HF1 := Aside0.mk hf2; replace HT := Aside0.mk ((hb.block gt TG.out).trans HT.out); replace HA := Aside0.mk ((hb.block ba AG.out).trans HA.out); replace HQ := Aside0.mk ((hb.block bq QG.out).trans HQ.out); replace HB := Aside0.mk (HB.out.trans hb); clear hs2 hf2 hb; have ca := (blk_cell HA.out 0).trans rfl; have cq := (blk_cell HQ.out 0).trans rfl)
  | (go_at_call 70; (with_reducible refine (add_calls q HR.out HS.out HF.out).mono ?_); rintro e w11 ⟨rfl, ⟨cs1, hs2, hf2⟩, hb⟩; clear ca cq; replace HS := Aside0.mk hs2; have HF1 := Aside0.mk hf2; replace HT := Aside0.mk ((hb.block gt TG.out).trans HT.out); replace HA := Aside0.mk ((hb.block ba AG.out).trans HA.out); replace HQ := Aside0.mk ((hb.block bq QG.out).trans HQ.out); replace HB := Aside0.mk (HB.out.trans hb); clear hs2 hf2 hb; have ca := (blk_cell HA.out 0).trans rfl; have cq := (blk_cell HQ.out 0).trans rfl)
  | ((with_reducible refine gate_callee (f := 71) rfl ?_); refine goesL_ (some 14) rfl rfl Try.func71 (by kernel_rfl) rfl #[.pointer (some ⟨g, 0, none⟩), .pointer (some ⟨gt, 0, none⟩)] rfl (by (try simp only [List.map_toArray, List.map_cons, List.map_nil]); first | done | rfl) ?_; (with_reducible refine (swap_calls (off := 0) (by_ := bx) HT.out (fun b hb => by rw [Nat.zero_add]; exact TB.out.box b hb) B8.out HS.out HF1.out TG.out).mono ?_); rintro e w12 ⟨rfl, ⟨cs2, hs2, hf2⟩, hb⟩; refine ⟨_, rfl, ?_⟩; clear ca cq; replace HS := Aside0.mk hs2; have HF2 := Aside0.mk hf2; replace HT := Aside0.mk ((hb.block gt TG.out).trans HT.out); replace HA := Aside0.mk ((hb.block ba AG.out).trans HA.out); replace HQ := Aside0.mk ((hb.block bq QG.out).trans HQ.out); replace HB := Aside0.mk (HB.out.trans hb); clear hs2 hf2 hb; have ca := (blk_cell HA.out 0).trans rfl; have cq := (blk_cell HQ.out 0).trans rfl)
  | (go_at_call 71; (with_reducible refine (swap_calls (off := 0) (by_ := bx) HT.out (fun b hb => by rw [Nat.zero_add]; exact TB.out.box b hb) B8.out HS.out HF1.out TG.out).mono ?_); rintro e w12 ⟨rfl, ⟨cs2, hs2, hf2⟩, hb⟩; clear ca cq; replace HS := Aside0.mk hs2; have HF2 := Aside0.mk hf2; replace HT := Aside0.mk ((hb.block gt TG.out).trans HT.out); replace HA := Aside0.mk ((hb.block ba AG.out).trans HA.out); replace HQ := Aside0.mk ((hb.block bq QG.out).trans HQ.out); replace HB := Aside0.mk (HB.out.trans hb); clear hs2 hf2 hb; have ca := (blk_cell HA.out 0).trans rfl; have cq := (blk_cell HQ.out 0).trans rfl)
  | ((with_reducible refine gate_callee (f := 72) rfl ?_); refine goesL_ (some 17) rfl rfl Try.func72 (by kernel_rfl) rfl #[.pointer (some ⟨g, 0, none⟩), .bool q, .bool false] rfl (by (try simp only [List.map_toArray, List.map_cons, List.map_nil]); first | done | rfl) ?_; (with_reducible refine (turn_calls q false HS.out HF2.out).mono ?_); rintro e w13 ⟨rfl, ⟨cs3, hs2, hf2⟩, hb⟩; refine ⟨_, rfl, ?_⟩; clear ca cq; replace HS := Aside0.mk hs2; have HF3 := Aside0.mk hf2; replace HT := Aside0.mk ((hb.block gt TG.out).trans HT.out); replace HA := Aside0.mk ((hb.block ba AG.out).trans HA.out); replace HQ := Aside0.mk ((hb.block bq QG.out).trans HQ.out); replace HB := Aside0.mk (HB.out.trans hb); clear hs2 hf2 hb; have ca := (blk_cell HA.out 0).trans rfl; have cq := (blk_cell HQ.out 0).trans rfl)
  | (go_at_call 72; (with_reducible refine (turn_calls q false HS.out HF2.out).mono ?_); rintro e w13 ⟨rfl, ⟨cs3, hs2, hf2⟩, hb⟩; clear ca cq; replace HS := Aside0.mk hs2; have HF3 := Aside0.mk hf2; replace HT := Aside0.mk ((hb.block gt TG.out).trans HT.out); replace HA := Aside0.mk ((hb.block ba AG.out).trans HA.out); replace HQ := Aside0.mk ((hb.block bq QG.out).trans HQ.out); replace HB := Aside0.mk (HB.out.trans hb); clear hs2 hf2 hb; have ca := (blk_cell HA.out 0).trans rfl; have cq := (blk_cell HQ.out 0).trans rfl)
  | ((with_reducible refine gate_callee (f := 73) rfl ?_); refine goesL_ (some 20) rfl rfl Try.func73 (by kernel_rfl) rfl #[.pointer (some ⟨g, 0, none⟩), .pointer (some ⟨gt, 0, none⟩)] rfl (by (try simp only [List.map_toArray, List.map_cons, List.map_nil]); first | done | rfl) ?_; (with_reducible refine (mix_calls M8.out HT.out TB.out TG.out HS.out HF3.out).mono ?_); rintro e w14 ⟨rfl, ⟨cs4, hs2, hf2⟩, hb⟩; refine ⟨_, rfl, ?_⟩; clear ca cq; replace HS := Aside0.mk hs2; have HF4 := Aside0.mk hf2; replace HT := Aside0.mk ((hb.block gt TG.out).trans HT.out); replace HA := Aside0.mk ((hb.block ba AG.out).trans HA.out); replace HQ := Aside0.mk ((hb.block bq QG.out).trans HQ.out); replace HB := Aside0.mk (HB.out.trans hb); clear hs2 hf2 hb; have ca := (blk_cell HA.out 0).trans rfl; have cq := (blk_cell HQ.out 0).trans rfl)
  | (go_at_call 73; (with_reducible refine (mix_calls M8.out HT.out TB.out TG.out HS.out HF3.out).mono ?_); rintro e w14 ⟨rfl, ⟨cs4, hs2, hf2⟩, hb⟩; clear ca cq; replace HS := Aside0.mk hs2; have HF4 := Aside0.mk hf2; replace HT := Aside0.mk ((hb.block gt TG.out).trans HT.out); replace HA := Aside0.mk ((hb.block ba AG.out).trans HA.out); replace HQ := Aside0.mk ((hb.block bq QG.out).trans HQ.out); replace HB := Aside0.mk (HB.out.trans hb); clear hs2 hf2 hb; have ca := (blk_cell HA.out 0).trans rfl; have cq := (blk_cell HQ.out 0).trans rfl))
 go_end0
 exact ⟨rfl, ⟨_, HS.out, HF4.out⟩, HB.out⟩
end Go.Proofs.Ytaffpnnhoagmaaa.P
