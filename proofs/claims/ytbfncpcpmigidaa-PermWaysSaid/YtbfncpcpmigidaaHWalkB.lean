/- Both ways back over 64 bytes (layer 10). Conditions: those that each theorem names. Printed by gen_st.py. -/
import Derived.Test.YtbfncpcpmigidaaHWalk
import Derived.Test.YtbfncpcpmigidaaHUnmix
set_option linter.unusedVariables false
set_option linter.unusedSimpArgs false
namespace Go.Proofs.Ytbfncpcpmigidaa.P
open Go.RowKit Go.Proofs.YtbfncpcpmigidaaX Go.Proofs.YtbfncpcpmigidaaW.PrintWords Go.Proofs.YtbfncpcpmigidaaW.PrintLast Go.Proofs.YtbfncpcpmigidaaW.PrintMore
attribute [local go_sem] zero_st
/-- A round taken back. -/
def roundB (iv ub : Nat → Nat) (ml : Nat → Nat → Nat) (q : Bool) (r : Nat) (f : Nat → Nat) : Nat → Nat := addF q (5 - r) (fun n => ub (turnF q true (fun n => iv (mixN ml f 7 n)) n))
set_option maxHeartbeats 8000000 in
set_option maxRecDepth 100000 in
theorem off1_calls {bx : Nat → Nat} {ml : Nat → Nat → Nat} {gt g r ba bq : Nat} {q : Bool} {ct cs : Array Value} {w : World} {f : Nat → Nat} {iv ub : Nat → Nat} {k c : Nat} {ph pl ih : Int} (hm8 : ∀ b q : Nat, b < 256 → q ∈ mixL → ml q b < 256) (hb8 : ∀ b, b < 256 → bx b < 256) (hT : w.heap[gt]? = some (.cells ct 45 (0, 0))) (hTab : Tab bx ml 256 256 256 0 ct) (hg : gt < g) (hS : w.heap[g]? = some (.cells cs 67 (0, 0))) (hf : Sta f cs) (hr : r < 6)
  (hA : w.heap[ba]? = some (.cells #[.pointer (some ⟨gt, 0, none⟩)] 22 (0, 0))) (hQ : w.heap[bq]? = some (.cells #[.bool q] 4 (0, 0))) (hag : ba < g) (hqg : bq < g)
  (hpow : tower_Pow.f k 3 0 3 8 = some (ph, pl)) (hinv : tower_Inv.f k 3 ph pl = some (ih, (c : Int))) (hc8 : c < 256) (hmul : ∀ b : Nat, b < 256 → perm_mul.f k (c : Int) (b : Int) = some (iv b : Int)) (hiv : ∀ b, b < 256 → iv b < 256) (hub : ∀ b, b < 256 → ct[256 + b]? = some (.int .u8 (ub b : Int))) (hu8 : ∀ b, b < 256 → ub b < 256) :
  Calls Try.prog 42 #[.pointer (some ⟨g, 0, none⟩), .int .i64 (r : Int), .pointer (some ⟨ba, 0, none⟩), .pointer (some ⟨bq, 0, none⟩)] w fun e w' => e = .returned (.tuple #[]) ∧ (∃ cs', w'.heap[g]? = some (.cells cs' 67 (0, 0)) ∧ Sta (roundB iv ub ml q r f) cs') ∧ Below g w w' := by
 have HB := Aside0.mk (Below.refl g w)
 have HS := Aside0.mk hS
 have HF := Aside0.mk hf
 have HT := Aside0.mk hT
 have TB := Aside0.mk hTab
 have M8 := Aside0.mk hm8
 have B8 := Aside0.mk hb8
 have TG := Aside0.mk hg
 have AG := Aside0.mk hag
 have QG := Aside0.mk hqg
 have HA := Aside0.mk hA
 have HQ := Aside0.mk hQ
 have HR := Aside0.mk hr
 clear hS hf hT hTab hm8 hb8 hg hag hqg hA hQ
 have HPW := Aside0.mk hpow
 have HIV := Aside0.mk hinv
 have C8 := Aside0.mk hc8
 have HML := Aside0.mk hmul
 have V8 := Aside0.mk hiv
 have HUB := Aside0.mk hub
 have U8 := Aside0.mk hu8
 clear hpow hinv hc8 hmul hiv hub hu8
 obtain ⟨d, hd⟩ : ∃ d : Nat, d = 5 - r := ⟨_, rfl⟩
 have DR := Aside0.mk hd
 have D6 := Aside0.mk (show d < 6 by omega)
 have ew : wrap64 (5 - (r : Int)) = (d : Int) := by unfold wrap64; omega
 have ew2 : 5 - (r : Int) = (d : Int) := by omega
 clear hr hd
 have ca := (blk_cell HA.out 0).trans rfl
 have cq := (blk_cell HQ.out 0).trans rfl
 go_enter Try.func42, Try.ntmps42
 go_wp2_with (first
  | ((with_reducible refine gate_callee (f := 43) rfl ?_); refine goesL_ (some 8) rfl rfl Try.func43 (by kernel_rfl) rfl #[.pointer (some ⟨g, 0, none⟩), .pointer (some ⟨gt, 0, none⟩)] rfl (by (try simp only [List.map_toArray, List.map_cons, List.map_nil]); first | done | rfl) ?_; (with_reducible refine (unmix_calls M8.out HT.out TB.out TG.out HS.out HF.out HPW.out HIV.out C8.out HML.out V8.out).mono ?_); rintro e w11 ⟨rfl, ⟨cs1, hs2, hf2⟩, hb⟩; refine ⟨_, rfl, ?_⟩; clear ca cq; replace HS := Aside0.mk hs2; have HF1 := Aside0.mk hf2; replace HT := Aside0.mk ((hb.block gt TG.out).trans HT.out); replace HA := Aside0.mk ((hb.block ba AG.out).trans HA.out); replace HQ := Aside0.mk ((hb.block bq QG.out).trans HQ.out); replace HB := Aside0.mk (HB.out.trans hb); clear hs2 hf2 hb; have ca := (blk_cell HA.out 0).trans rfl; have cq := (blk_cell HQ.out 0).trans rfl)
  | (go_at_call 43; (with_reducible refine (unmix_calls M8.out HT.out TB.out TG.out HS.out HF.out HPW.out HIV.out C8.out HML.out V8.out).mono ?_); rintro e w11 ⟨rfl, ⟨cs1, hs2, hf2⟩, hb⟩; clear ca cq; replace HS := Aside0.mk hs2; have HF1 := Aside0.mk hf2; replace HT := Aside0.mk ((hb.block gt TG.out).trans HT.out); replace HA := Aside0.mk ((hb.block ba AG.out).trans HA.out); replace HQ := Aside0.mk ((hb.block bq QG.out).trans HQ.out); replace HB := Aside0.mk (HB.out.trans hb); clear hs2 hf2 hb; have ca := (blk_cell HA.out 0).trans rfl; have cq := (blk_cell HQ.out 0).trans rfl)
  | ((with_reducible refine gate_callee (f := 40) rfl ?_); refine goesL_ (some 11) rfl rfl Try.func40 (by kernel_rfl) rfl #[.pointer (some ⟨g, 0, none⟩), .bool q, .bool true] rfl (by (try simp only [List.map_toArray, List.map_cons, List.map_nil]); first | done | rfl) ?_; (with_reducible refine (turn_calls q true HS.out HF1.out).mono ?_); rintro e w12 ⟨rfl, ⟨cs2, hs2, hf2⟩, hb⟩; refine ⟨_, rfl, ?_⟩; clear ca cq; replace HS := Aside0.mk hs2; have HF2 := Aside0.mk hf2; replace HT := Aside0.mk ((hb.block gt TG.out).trans HT.out); replace HA := Aside0.mk ((hb.block ba AG.out).trans HA.out); replace HQ := Aside0.mk ((hb.block bq QG.out).trans HQ.out); replace HB := Aside0.mk (HB.out.trans hb); clear hs2 hf2 hb; have ca := (blk_cell HA.out 0).trans rfl; have cq := (blk_cell HQ.out 0).trans rfl)
  | (go_at_call 40; (with_reducible refine (turn_calls q true HS.out HF1.out).mono ?_); rintro e w12 ⟨rfl, ⟨cs2, hs2, hf2⟩, hb⟩; clear ca cq; replace HS := Aside0.mk hs2; have HF2 := Aside0.mk hf2; replace HT := Aside0.mk ((hb.block gt TG.out).trans HT.out); replace HA := Aside0.mk ((hb.block ba AG.out).trans HA.out); replace HQ := Aside0.mk ((hb.block bq QG.out).trans HQ.out); replace HB := Aside0.mk (HB.out.trans hb); clear hs2 hf2 hb; have ca := (blk_cell HA.out 0).trans rfl; have cq := (blk_cell HQ.out 0).trans rfl)
  | ((with_reducible refine gate_callee (f := 39) rfl ?_); refine goesL_ (some 16) rfl rfl Try.func39 (by kernel_rfl) rfl #[.pointer (some ⟨g, 0, none⟩), .pointer (some ⟨gt, 256, none⟩)] rfl (by (try simp only [List.map_toArray, List.map_cons, List.map_nil]); first | done | rfl) ?_; (with_reducible refine (swap_calls (off := 256) (by_ := ub) HT.out HUB.out U8.out HS.out HF2.out TG.out).mono ?_); rintro e w13 ⟨rfl, ⟨cs3, hs2, hf2⟩, hb⟩; refine ⟨_, rfl, ?_⟩; clear ca cq; replace HS := Aside0.mk hs2; have HF3 := Aside0.mk hf2; replace HT := Aside0.mk ((hb.block gt TG.out).trans HT.out); replace HA := Aside0.mk ((hb.block ba AG.out).trans HA.out); replace HQ := Aside0.mk ((hb.block bq QG.out).trans HQ.out); replace HB := Aside0.mk (HB.out.trans hb); clear hs2 hf2 hb; have ca := (blk_cell HA.out 0).trans rfl; have cq := (blk_cell HQ.out 0).trans rfl)
  | (go_at_call 39; (with_reducible refine (swap_calls (off := 256) (by_ := ub) HT.out HUB.out U8.out HS.out HF2.out TG.out).mono ?_); rintro e w13 ⟨rfl, ⟨cs3, hs2, hf2⟩, hb⟩; clear ca cq; replace HS := Aside0.mk hs2; have HF3 := Aside0.mk hf2; replace HT := Aside0.mk ((hb.block gt TG.out).trans HT.out); replace HA := Aside0.mk ((hb.block ba AG.out).trans HA.out); replace HQ := Aside0.mk ((hb.block bq QG.out).trans HQ.out); replace HB := Aside0.mk (HB.out.trans hb); clear hs2 hf2 hb; have ca := (blk_cell HA.out 0).trans rfl; have cq := (blk_cell HQ.out 0).trans rfl)
  | ((with_reducible refine gate_callee (f := 38) rfl ?_); refine goesL_ (some 21) rfl rfl Try.func38 (by kernel_rfl) rfl #[.pointer (some ⟨g, 0, none⟩), .bool q, .int .i64 (d : Int)] rfl (by (try simp only [List.map_toArray, List.map_cons, List.map_nil]); first | done | rfl) ?_; (with_reducible refine (add_calls q D6.out HS.out HF3.out).mono ?_); rintro e w14 ⟨rfl, ⟨cs4, hs2, hf2⟩, hb⟩; refine ⟨_, rfl, ?_⟩; clear ca cq; replace HS := Aside0.mk hs2; have HF4 := Aside0.mk hf2; replace HT := Aside0.mk ((hb.block gt TG.out).trans HT.out); replace HA := Aside0.mk ((hb.block ba AG.out).trans HA.out); replace HQ := Aside0.mk ((hb.block bq QG.out).trans HQ.out); replace HB := Aside0.mk (HB.out.trans hb); clear hs2 hf2 hb; have ca := (blk_cell HA.out 0).trans rfl; have cq := (blk_cell HQ.out 0).trans rfl)
  | (go_at_call 38; (with_reducible refine (add_calls q D6.out HS.out HF3.out).mono ?_); rintro e w14 ⟨rfl, ⟨cs4, hs2, hf2⟩, hb⟩; clear ca cq; replace HS := Aside0.mk hs2; have HF4 := Aside0.mk hf2; replace HT := Aside0.mk ((hb.block gt TG.out).trans HT.out); replace HA := Aside0.mk ((hb.block ba AG.out).trans HA.out); replace HQ := Aside0.mk ((hb.block bq QG.out).trans HQ.out); replace HB := Aside0.mk (HB.out.trans hb); clear hs2 hf2 hb; have ca := (blk_cell HA.out 0).trans rfl; have cq := (blk_cell HQ.out 0).trans rfl))
 go_end0
 refine ⟨rfl, ⟨_, HS.out, ?_⟩, HB.out⟩
 unfold roundB
 rw [← DR.out]
 exact HF4.out
set_option maxHeartbeats 8000000 in
set_option maxRecDepth 100000 in
theorem walk_off {gt : Nat} {w : World} (s : ByteArray) (hs : s.size = 64) (F : Nat → (Nat → Nat) → Nat → Nat) (c1 c2 : Value)
  (hdo : Aside0 (∀ (W : World) (g : Nat) (cs : Array Value) (f : Nat → Nat) (r : Nat), r < 6 → Below w.heap.size w W → w.heap.size ≤ g → W.heap[g]? = some (.cells cs 67 (0, 0)) → Sta f cs →
    Calls Try.prog 42 #[.pointer (some ⟨g, 0, none⟩), .int .i64 (r : Int), c1, c2] W fun e w' => e = .returned (.tuple #[]) ∧ (∃ cs', w'.heap[g]? = some (.cells cs' 67 (0, 0)) ∧ Sta (F r f) cs') ∧ Below g W w')) :
  Calls Try.prog 26 #[.pointer (some ⟨gt, 0, none⟩), .string s, .func (.func 42) #[] #[c1, c2]] w fun e w' => e = .returned (.tuple #[.string (strF (iterW F (bF s) 6)), .int .i64 0]) ∧ Below w.heap.size w w' := by
 have HB := Aside0.mk (Below.refl w.heap.size w)
 have h64 : ((s.size : Int) != 64) = false := by rw [hs]; rfl
 have HZ := Aside0.mk hs
 clear hs
 go_enter Try.func26, Try.ntmps26
 go_wp2_with (first
  | ((with_reducible refine gate_dst (N := 8) rfl ?_); refine box_event ?hg (N := 8) ?hd (cs := zSt) (t := 67) ?hr ?_; (case hd => rfl); (case hg => rfl); (case hr => first | (go_simp; done) | (go_simp; rfl)); intro g hg2 w2 hbox hb; have HS := Aside0.mk hbox; have GE := Aside0.mk (Nat.le_of_eq hg2.symm); replace HB := bh HB hb; clear hb hbox hg2)
  | ((with_reducible refine gate_dst (N := 19) rfl ?_); refine Lib.wpList_copy_run _ rfl (.tmp 17) (.tmp 18) 58 9 rfl _ _ rfl rfl (run_copy_string _ 58 9 3 5 g 0 64 64 s Try.underlying58 byte_size (Nat.le_of_eq HZ.out) (fun j hj => by rw [Nat.zero_add, blk_cell HS.out j, zSt_at (by have := HZ.out; omega)]; rfl) (fun j _ => blk_frozen HS.out _)) ?_; obtain ⟨cs1, hs1, hf1⟩ := sta_of_copy HS.out HZ.out; replace HS := Aside0.mk hs1; have HF := Aside0.mk hf1; replace HB := Aside0.mk (below_setCells GE.out (s.data.toList.map fun x => Value.int .u8 (x.toNat : Int)) 0 _ HB.out); clear hs1 hf1; (generalize World.setCells _ g 0 (s.data.toList.map fun x => Value.int .u8 (x.toNat : Int)) = w4 at HS HB ⊢)))
 go_loopg [20] 6 (fun kq v20 w' => ∃ (i : Nat) (cs : Array Value), v20 = .int .i64 (i : Int) ∧ Aside0 (i + kq = 6) ∧ Aside0 (w'.heap[g]? = some (.cells cs 67 (0, 0))) ∧ Aside0 (Sta (iterW F (bF s) i) cs) ∧ Aside0 (Below w.heap.size w w'))
 case atStart => exact ⟨0, _, rfl, ⟨rfl⟩, HS, HF, HB⟩
 case round =>
  clear HS HB HF
  obtain ⟨i, cs, rfl, HK, HS, HF, HB⟩ := hrel
  cases gk with
  | succ k2 =>
   have hi : i < 6 := by have := HK.out; omega
   have HI := Aside0.mk hi
   have d0 : decide ((i : Int) < 6) = true := decide_eq_true (by omega)
   have d1 : decide (i < 6) = true := decide_eq_true hi
   clear hi
   go_wp2_with (first
    | ((with_reducible refine gate_callee (f := 42) rfl ?_); refine goesL_ (some 25) rfl rfl Try.func42 (by kernel_rfl) rfl #[.pointer (some ⟨g, 0, none⟩), .int .i64 (i : Int), c1, c2] rfl (by (try simp only [List.map_toArray, List.map_cons, List.map_nil]); first | done | rfl) ?_; (with_reducible refine (hdo.out _ g cs (iterW F (bF s) i) i HI.out HB.out GE.out HS.out HF.out).mono ?_); rintro e w11 ⟨rfl, ⟨cs2, hs2, hf2⟩, hb⟩; refine ⟨_, rfl, ?_⟩; replace HS := Aside0.mk hs2; replace HF : Aside0 (Sta (iterW F (bF s) (i + 1)) cs2) := ⟨hf2⟩; replace HB := Aside0.mk (HB.out.trans (hb.mono GE.out)); clear hs2 hf2 hb)
    | (go_at_call 42; (with_reducible refine (hdo.out _ g cs (iterW F (bF s) i) i HI.out HB.out GE.out HS.out HF.out).mono ?_); rintro e w11 ⟨rfl, ⟨cs2, hs2, hf2⟩, hb⟩; replace HS := Aside0.mk hs2; replace HF : Aside0 (Sta (iterW F (bF s) (i + 1)) cs2) := ⟨hf2⟩; replace HB := Aside0.mk (HB.out.trans (hb.mono GE.out)); clear hs2 hf2 hb))
   go_roundg k2
   case measure => omega
   case rel =>
    have hi := HI.out
    exact ⟨i + 1, cs2, by rw [step_1 (by omega)], ⟨by have := HK.out; omega⟩, HS, HF, HB⟩
  | zero =>
   obtain rfl : i = 6 := by have := HK.out; omega
   clear HK
   have hcv := sta_string HS.out HF.out
   go_wp2
   go_ret2
   exact ⟨rfl, HB.out⟩
set_option maxHeartbeats 8000000 in
set_option maxRecDepth 100000 in
theorem off_calls (pv : Option Addr) (q : Bool) (w : World) :
  Calls Try.prog 28 #[.pointer pv, .bool q] w fun e w' => ∃ ba bq, e = .returned (.func (.func 42) #[] #[.pointer (some ⟨ba, 0, none⟩), .pointer (some ⟨bq, 0, none⟩)]) ∧ w'.heap[ba]? = some (.cells #[.pointer pv] 22 (0, 0)) ∧ w'.heap[bq]? = some (.cells #[.bool q] 4 (0, 0)) ∧ Below w.heap.size w w' := by
 have HB := Aside0.mk (Below.refl w.heap.size w)
 have hmf : ∀ (fn : Fn) (first cap : Array Value) (w : World), (Instr.makeFunc fn first cap).run Try.prog w = .ok (.func fn first cap) w := fun _ _ _ _ => rfl
 go_enter Try.func28, Try.ntmps28
 go_wp2_with (first
  | ((with_reducible refine gate_dst (N := 2) rfl ?_); refine box_event ?hg (N := 2) ?hd (cs := #[.pointer pv]) (t := 22) ?hr ?_; (case hd => rfl); (case hg => rfl); (case hr => first | (go_simp; done) | (go_simp; rfl)); intro ba hg1 w1 hbox hb; have HA := Aside0.mk hbox; replace HB := bh HB hb; clear hb hbox hg1)
  | ((with_reducible refine gate_dst (N := 3) rfl ?_); refine box_event ?hg (N := 3) ?hd (cs := #[.bool q]) (t := 4) ?hr ?_; (case hd => rfl); (case hg => rfl); (case hr => first | (go_simp; done) | (go_simp; rfl)); intro bq hg1 w2 hbox hb; have HQ := Aside0.mk hbox; replace HA := bb HA hb; replace HB := bh HB hb; clear hb hbox hg1))
 go_ret
 exact ⟨ba, bq, rfl, HA.out, HQ.out, HB.out⟩
/-- A way back. -/
def backF (iv ub : Nat → Nat) (ml : Nat → Nat → Nat) (q : Bool) (f : Nat → Nat) : Nat → Nat := iterW (roundB iv ub ml q) f 6
theorem wayB {bx : Nat → Nat} {ml : Nat → Nat → Nat} {gt : Nat} {ct : Array Value} {w : World} {iv ub : Nat → Nat} {k c : Nat} {ph pl ih : Int} (hm8 : ∀ b q : Nat, b < 256 → q ∈ mixL → ml q b < 256) (hb8 : ∀ b, b < 256 → bx b < 256) (hT : w.heap[gt]? = some (.cells ct 45 (0, 0))) (hTab : Tab bx ml 256 256 256 0 ct) (q : Bool) {ba bq : Nat} (hA : w.heap[ba]? = some (.cells #[.pointer (some ⟨gt, 0, none⟩)] 22 (0, 0))) (hQ : w.heap[bq]? = some (.cells #[.bool q] 4 (0, 0))) (s : ByteArray) (hs : s.size = 64)
  (hpow : tower_Pow.f k 3 0 3 8 = some (ph, pl)) (hinv : tower_Inv.f k 3 ph pl = some (ih, (c : Int))) (hc8 : c < 256) (hmul : ∀ b : Nat, b < 256 → perm_mul.f k (c : Int) (b : Int) = some (iv b : Int)) (hiv : ∀ b, b < 256 → iv b < 256) (hub : ∀ b, b < 256 → ct[256 + b]? = some (.int .u8 (ub b : Int))) (hu8 : ∀ b, b < 256 → ub b < 256) :
  Calls Try.prog 26 #[.pointer (some ⟨gt, 0, none⟩), .string s, .func (.func 42) #[] #[.pointer (some ⟨ba, 0, none⟩), .pointer (some ⟨bq, 0, none⟩)]] w fun e w' => e = .returned (.tuple #[.string (strF (backF iv ub ml q (bF s))), .int .i64 0]) ∧ Below w.heap.size w w' :=
  walk_off s hs (roundB iv ub ml q) _ _ ⟨fun W g cs f r hr hb hg hS hf => off1_calls hm8 hb8 (blk_below hT hb) hTab (Nat.lt_of_lt_of_le (blk_lt hT) hg) hS hf hr (blk_below hA hb) (blk_below hQ hb) (Nat.lt_of_lt_of_le (blk_lt hA) hg) (Nat.lt_of_lt_of_le (blk_lt hQ) hg) hpow hinv hc8 hmul hiv hub hu8⟩
set_option maxHeartbeats 8000000 in
set_option maxRecDepth 100000 in
theorem BackP_calls {bx : Nat → Nat} {ml : Nat → Nat → Nat} {gt : Nat} {ct : Array Value} {w : World} {iv ub : Nat → Nat} {k c : Nat} {ph pl ih : Int} (hm8 : ∀ b q : Nat, b < 256 → q ∈ mixL → ml q b < 256) (hb8 : ∀ b, b < 256 → bx b < 256) (hT : w.heap[gt]? = some (.cells ct 45 (0, 0))) (hTab : Tab bx ml 256 256 256 0 ct) (s : ByteArray) (hs : s.size = 64)
  (hpow : tower_Pow.f k 3 0 3 8 = some (ph, pl)) (hinv : tower_Inv.f k 3 ph pl = some (ih, (c : Int))) (hc8 : c < 256) (hmul : ∀ b : Nat, b < 256 → perm_mul.f k (c : Int) (b : Int) = some (iv b : Int)) (hiv : ∀ b, b < 256 → iv b < 256) (hub : ∀ b, b < 256 → ct[256 + b]? = some (.int .u8 (ub b : Int))) (hu8 : ∀ b, b < 256 → ub b < 256) :
  Calls Try.prog 16 #[.pointer (some ⟨gt, 0, none⟩), .string s] w fun e w' => e = .returned (.tuple #[.string (strF (backF iv ub ml false (bF s))), .int .i64 0]) ∧ Below w.heap.size w w' := by
 have HB := Aside0.mk (Below.refl w.heap.size w)
 have HT := Aside0.mk hT
 have TB := Aside0.mk hTab
 have M8 := Aside0.mk hm8
 have B8 := Aside0.mk hb8
 have HZ := Aside0.mk hs
 clear hT hTab hm8 hb8 hs
 have HPW := Aside0.mk hpow
 have HIV := Aside0.mk hinv
 have C8 := Aside0.mk hc8
 have HML := Aside0.mk hmul
 have V8 := Aside0.mk hiv
 have HUB := Aside0.mk hub
 have U8 := Aside0.mk hu8
 clear hpow hinv hc8 hmul hiv hub hu8
 go_enter Try.func16, Try.ntmps16
 go_wp2_with (first
  | ((with_reducible refine gate_callee (f := 28) rfl ?_); refine goesL_ (some 9) rfl rfl Try.func28 (by kernel_rfl) rfl #[.pointer (some ⟨gt, 0, none⟩), .bool false] rfl (by (try simp only [List.map_toArray, List.map_cons, List.map_nil]); first | done | rfl) ?_; (with_reducible refine (off_calls (some ⟨gt, 0, none⟩) false _).mono ?_); rintro e w11 ⟨ba, bq, rfl, ha, hq, hb⟩; refine ⟨_, rfl, ?_⟩; replace HT := bb HT hb; replace HB := bh HB hb; have HA := Aside0.mk ha; have HQ := Aside0.mk hq; clear ha hq hb)
  | (go_at_call 28; (with_reducible refine (off_calls (some ⟨gt, 0, none⟩) false _).mono ?_); rintro e w11 ⟨ba, bq, rfl, ha, hq, hb⟩; replace HT := bb HT hb; replace HB := bh HB hb; have HA := Aside0.mk ha; have HQ := Aside0.mk hq; clear ha hq hb)
  | ((with_reducible refine gate_callee (f := 26) rfl ?_); refine goesL_ (some 10) rfl rfl Try.func26 (by kernel_rfl) rfl #[.pointer (some ⟨gt, 0, none⟩), .string s, .func (.func 42) #[] #[.pointer (some ⟨ba, 0, none⟩), .pointer (some ⟨bq, 0, none⟩)]] rfl (by (try simp only [List.map_toArray, List.map_cons, List.map_nil]); first | done | rfl) ?_; (with_reducible refine (wayB M8.out B8.out HT.out TB.out false HA.out HQ.out s HZ.out HPW.out HIV.out C8.out HML.out V8.out HUB.out U8.out).mono ?_); rintro e w12 ⟨rfl, hb⟩; refine ⟨_, rfl, ?_⟩; replace HB := bh HB hb; clear hb)
  | (go_at_call 26; (with_reducible refine (wayB M8.out B8.out HT.out TB.out false HA.out HQ.out s HZ.out HPW.out HIV.out C8.out HML.out V8.out HUB.out U8.out).mono ?_); rintro e w12 ⟨rfl, hb⟩; replace HB := bh HB hb; clear hb))
 go_ret2
 exact ⟨rfl, HB.out⟩
set_option maxHeartbeats 8000000 in
set_option maxRecDepth 100000 in
theorem BackP_size {gt : Nat} {w : World} (s : ByteArray) (hs : s.size ≠ 64) :
  Calls Try.prog 16 #[.pointer (some ⟨gt, 0, none⟩), .string s] w fun e w' => e = .returned (.tuple #[.string ⟨#[]⟩, .int .i64 6]) ∧ Below w.heap.size w w' := by
 have HB := Aside0.mk (Below.refl w.heap.size w)
 have HZ := Aside0.mk hs
 clear hs
 go_enter Try.func16, Try.ntmps16
 go_wp2_with (first
  | ((with_reducible refine gate_callee (f := 28) rfl ?_); refine goesL_ (some 9) rfl rfl Try.func28 (by kernel_rfl) rfl #[.pointer (some ⟨gt, 0, none⟩), .bool false] rfl (by (try simp only [List.map_toArray, List.map_cons, List.map_nil]); first | done | rfl) ?_; (with_reducible refine (off_calls (some ⟨gt, 0, none⟩) false _).mono ?_); rintro e w11 ⟨ba, bq, rfl, ha, hq, hb⟩; refine ⟨_, rfl, ?_⟩; replace HB := bh HB hb; have HA := Aside0.mk ha; have HQ := Aside0.mk hq; clear ha hq hb)
  | (go_at_call 28; (with_reducible refine (off_calls (some ⟨gt, 0, none⟩) false _).mono ?_); rintro e w11 ⟨ba, bq, rfl, ha, hq, hb⟩; replace HB := bh HB hb; have HA := Aside0.mk ha; have HQ := Aside0.mk hq; clear ha hq hb)
  | ((with_reducible refine gate_callee (f := 26) rfl ?_); refine goesL_ (some 10) rfl rfl Try.func26 (by kernel_rfl) rfl #[.pointer (some ⟨gt, 0, none⟩), .string s, .func (.func 42) #[] #[.pointer (some ⟨ba, 0, none⟩), .pointer (some ⟨bq, 0, none⟩)]] rfl (by (try simp only [List.map_toArray, List.map_cons, List.map_nil]); first | done | rfl) ?_; (with_reducible refine (walk_size s HZ.out _).mono ?_); rintro e w12 ⟨rfl, hb⟩; refine ⟨_, rfl, ?_⟩; replace HB := bh HB hb; clear hb)
  | (go_at_call 26; (with_reducible refine (walk_size s HZ.out _).mono ?_); rintro e w12 ⟨rfl, hb⟩; replace HB := bh HB hb; clear hb))
 go_ret2
 exact ⟨rfl, HB.out⟩
set_option maxHeartbeats 8000000 in
set_option maxRecDepth 100000 in
theorem BackP_nil {w : World} (s : ByteArray) :
  Calls Try.prog 16 #[.pointer none, .string s] w fun e w' => e = .returned (.tuple #[.string ⟨#[]⟩, .int .i64 1]) ∧ Below w.heap.size w w' := by
 have HB := Aside0.mk (Below.refl w.heap.size w)
 go_enter Try.func16, Try.ntmps16
 go_wp2_with (first
  | ((with_reducible refine gate_callee (f := 28) rfl ?_); refine goesL_ (some 9) rfl rfl Try.func28 (by kernel_rfl) rfl #[.pointer none, .bool false] rfl (by (try simp only [List.map_toArray, List.map_cons, List.map_nil]); first | done | rfl) ?_; (with_reducible refine (off_calls none false _).mono ?_); rintro e w11 ⟨ba, bq, rfl, ha, hq, hb⟩; refine ⟨_, rfl, ?_⟩; replace HB := bh HB hb; have HA := Aside0.mk ha; have HQ := Aside0.mk hq; clear ha hq hb)
  | (go_at_call 28; (with_reducible refine (off_calls none false _).mono ?_); rintro e w11 ⟨ba, bq, rfl, ha, hq, hb⟩; replace HB := bh HB hb; have HA := Aside0.mk ha; have HQ := Aside0.mk hq; clear ha hq hb)
  | ((with_reducible refine gate_callee (f := 26) rfl ?_); refine goesL_ (some 10) rfl rfl Try.func26 (by kernel_rfl) rfl #[.pointer none, .string s, .func (.func 42) #[] #[.pointer (some ⟨ba, 0, none⟩), .pointer (some ⟨bq, 0, none⟩)]] rfl (by (try simp only [List.map_toArray, List.map_cons, List.map_nil]); first | done | rfl) ?_; (with_reducible refine (walk_nil s _).mono ?_); rintro e w12 ⟨rfl, hb⟩; refine ⟨_, rfl, ?_⟩; replace HB := bh HB hb; clear hb)
  | (go_at_call 26; (with_reducible refine (walk_nil s _).mono ?_); rintro e w12 ⟨rfl, hb⟩; replace HB := bh HB hb; clear hb))
 go_ret2
 exact ⟨rfl, HB.out⟩
set_option maxHeartbeats 8000000 in
set_option maxRecDepth 100000 in
theorem BackQ_calls {bx : Nat → Nat} {ml : Nat → Nat → Nat} {gt : Nat} {ct : Array Value} {w : World} {iv ub : Nat → Nat} {k c : Nat} {ph pl ih : Int} (hm8 : ∀ b q : Nat, b < 256 → q ∈ mixL → ml q b < 256) (hb8 : ∀ b, b < 256 → bx b < 256) (hT : w.heap[gt]? = some (.cells ct 45 (0, 0))) (hTab : Tab bx ml 256 256 256 0 ct) (s : ByteArray) (hs : s.size = 64)
  (hpow : tower_Pow.f k 3 0 3 8 = some (ph, pl)) (hinv : tower_Inv.f k 3 ph pl = some (ih, (c : Int))) (hc8 : c < 256) (hmul : ∀ b : Nat, b < 256 → perm_mul.f k (c : Int) (b : Int) = some (iv b : Int)) (hiv : ∀ b, b < 256 → iv b < 256) (hub : ∀ b, b < 256 → ct[256 + b]? = some (.int .u8 (ub b : Int))) (hu8 : ∀ b, b < 256 → ub b < 256) :
  Calls Try.prog 17 #[.pointer (some ⟨gt, 0, none⟩), .string s] w fun e w' => e = .returned (.tuple #[.string (strF (backF iv ub ml true (bF s))), .int .i64 0]) ∧ Below w.heap.size w w' := by
 have HB := Aside0.mk (Below.refl w.heap.size w)
 have HT := Aside0.mk hT
 have TB := Aside0.mk hTab
 have M8 := Aside0.mk hm8
 have B8 := Aside0.mk hb8
 have HZ := Aside0.mk hs
 clear hT hTab hm8 hb8 hs
 have HPW := Aside0.mk hpow
 have HIV := Aside0.mk hinv
 have C8 := Aside0.mk hc8
 have HML := Aside0.mk hmul
 have V8 := Aside0.mk hiv
 have HUB := Aside0.mk hub
 have U8 := Aside0.mk hu8
 clear hpow hinv hc8 hmul hiv hub hu8
 go_enter Try.func17, Try.ntmps17
 go_wp2_with (first
  | ((with_reducible refine gate_callee (f := 28) rfl ?_); refine goesL_ (some 9) rfl rfl Try.func28 (by kernel_rfl) rfl #[.pointer (some ⟨gt, 0, none⟩), .bool true] rfl (by (try simp only [List.map_toArray, List.map_cons, List.map_nil]); first | done | rfl) ?_; (with_reducible refine (off_calls (some ⟨gt, 0, none⟩) true _).mono ?_); rintro e w11 ⟨ba, bq, rfl, ha, hq, hb⟩; refine ⟨_, rfl, ?_⟩; replace HT := bb HT hb; replace HB := bh HB hb; have HA := Aside0.mk ha; have HQ := Aside0.mk hq; clear ha hq hb)
  | (go_at_call 28; (with_reducible refine (off_calls (some ⟨gt, 0, none⟩) true _).mono ?_); rintro e w11 ⟨ba, bq, rfl, ha, hq, hb⟩; replace HT := bb HT hb; replace HB := bh HB hb; have HA := Aside0.mk ha; have HQ := Aside0.mk hq; clear ha hq hb)
  | ((with_reducible refine gate_callee (f := 26) rfl ?_); refine goesL_ (some 10) rfl rfl Try.func26 (by kernel_rfl) rfl #[.pointer (some ⟨gt, 0, none⟩), .string s, .func (.func 42) #[] #[.pointer (some ⟨ba, 0, none⟩), .pointer (some ⟨bq, 0, none⟩)]] rfl (by (try simp only [List.map_toArray, List.map_cons, List.map_nil]); first | done | rfl) ?_; (with_reducible refine (wayB M8.out B8.out HT.out TB.out true HA.out HQ.out s HZ.out HPW.out HIV.out C8.out HML.out V8.out HUB.out U8.out).mono ?_); rintro e w12 ⟨rfl, hb⟩; refine ⟨_, rfl, ?_⟩; replace HB := bh HB hb; clear hb)
  | (go_at_call 26; (with_reducible refine (wayB M8.out B8.out HT.out TB.out true HA.out HQ.out s HZ.out HPW.out HIV.out C8.out HML.out V8.out HUB.out U8.out).mono ?_); rintro e w12 ⟨rfl, hb⟩; replace HB := bh HB hb; clear hb))
 go_ret2
 exact ⟨rfl, HB.out⟩
set_option maxHeartbeats 8000000 in
set_option maxRecDepth 100000 in
theorem BackQ_size {gt : Nat} {w : World} (s : ByteArray) (hs : s.size ≠ 64) :
  Calls Try.prog 17 #[.pointer (some ⟨gt, 0, none⟩), .string s] w fun e w' => e = .returned (.tuple #[.string ⟨#[]⟩, .int .i64 6]) ∧ Below w.heap.size w w' := by
 have HB := Aside0.mk (Below.refl w.heap.size w)
 have HZ := Aside0.mk hs
 clear hs
 go_enter Try.func17, Try.ntmps17
 go_wp2_with (first
  | ((with_reducible refine gate_callee (f := 28) rfl ?_); refine goesL_ (some 9) rfl rfl Try.func28 (by kernel_rfl) rfl #[.pointer (some ⟨gt, 0, none⟩), .bool true] rfl (by (try simp only [List.map_toArray, List.map_cons, List.map_nil]); first | done | rfl) ?_; (with_reducible refine (off_calls (some ⟨gt, 0, none⟩) true _).mono ?_); rintro e w11 ⟨ba, bq, rfl, ha, hq, hb⟩; refine ⟨_, rfl, ?_⟩; replace HB := bh HB hb; have HA := Aside0.mk ha; have HQ := Aside0.mk hq; clear ha hq hb)
  | (go_at_call 28; (with_reducible refine (off_calls (some ⟨gt, 0, none⟩) true _).mono ?_); rintro e w11 ⟨ba, bq, rfl, ha, hq, hb⟩; replace HB := bh HB hb; have HA := Aside0.mk ha; have HQ := Aside0.mk hq; clear ha hq hb)
  | ((with_reducible refine gate_callee (f := 26) rfl ?_); refine goesL_ (some 10) rfl rfl Try.func26 (by kernel_rfl) rfl #[.pointer (some ⟨gt, 0, none⟩), .string s, .func (.func 42) #[] #[.pointer (some ⟨ba, 0, none⟩), .pointer (some ⟨bq, 0, none⟩)]] rfl (by (try simp only [List.map_toArray, List.map_cons, List.map_nil]); first | done | rfl) ?_; (with_reducible refine (walk_size s HZ.out _).mono ?_); rintro e w12 ⟨rfl, hb⟩; refine ⟨_, rfl, ?_⟩; replace HB := bh HB hb; clear hb)
  | (go_at_call 26; (with_reducible refine (walk_size s HZ.out _).mono ?_); rintro e w12 ⟨rfl, hb⟩; replace HB := bh HB hb; clear hb))
 go_ret2
 exact ⟨rfl, HB.out⟩
set_option maxHeartbeats 8000000 in
set_option maxRecDepth 100000 in
theorem BackQ_nil {w : World} (s : ByteArray) :
  Calls Try.prog 17 #[.pointer none, .string s] w fun e w' => e = .returned (.tuple #[.string ⟨#[]⟩, .int .i64 1]) ∧ Below w.heap.size w w' := by
 have HB := Aside0.mk (Below.refl w.heap.size w)
 go_enter Try.func17, Try.ntmps17
 go_wp2_with (first
  | ((with_reducible refine gate_callee (f := 28) rfl ?_); refine goesL_ (some 9) rfl rfl Try.func28 (by kernel_rfl) rfl #[.pointer none, .bool true] rfl (by (try simp only [List.map_toArray, List.map_cons, List.map_nil]); first | done | rfl) ?_; (with_reducible refine (off_calls none true _).mono ?_); rintro e w11 ⟨ba, bq, rfl, ha, hq, hb⟩; refine ⟨_, rfl, ?_⟩; replace HB := bh HB hb; have HA := Aside0.mk ha; have HQ := Aside0.mk hq; clear ha hq hb)
  | (go_at_call 28; (with_reducible refine (off_calls none true _).mono ?_); rintro e w11 ⟨ba, bq, rfl, ha, hq, hb⟩; replace HB := bh HB hb; have HA := Aside0.mk ha; have HQ := Aside0.mk hq; clear ha hq hb)
  | ((with_reducible refine gate_callee (f := 26) rfl ?_); refine goesL_ (some 10) rfl rfl Try.func26 (by kernel_rfl) rfl #[.pointer none, .string s, .func (.func 42) #[] #[.pointer (some ⟨ba, 0, none⟩), .pointer (some ⟨bq, 0, none⟩)]] rfl (by (try simp only [List.map_toArray, List.map_cons, List.map_nil]); first | done | rfl) ?_; (with_reducible refine (walk_nil s _).mono ?_); rintro e w12 ⟨rfl, hb⟩; refine ⟨_, rfl, ?_⟩; replace HB := bh HB hb; clear hb)
  | (go_at_call 26; (with_reducible refine (walk_nil s _).mono ?_); rintro e w12 ⟨rfl, hb⟩; replace HB := bh HB hb; clear hb))
 go_ret2
 exact ⟨rfl, HB.out⟩
end Go.Proofs.Ytbfncpcpmigidaa.P
