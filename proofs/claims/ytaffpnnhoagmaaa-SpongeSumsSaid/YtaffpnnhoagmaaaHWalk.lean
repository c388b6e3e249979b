/- A way over 64 bytes (layer 10). Conditions: those that each theorem names. Printed by gen_st.py. -/
import Derived.Test.YtaffpnnhoagmaaaHOn
import Derived.Lib.LazyBuf
import Derived.Lib.SlBuf
set_option linter.unusedVariables false
set_option linter.unusedSimpArgs false
set_option maxRecDepth 100000
namespace Go.Proofs.Ytaffpnnhoagmaaa.P
open Go.RowKit Go.Proofs.YtaffpnnhoagmaaaX Go.Proofs.YtaffpnnhoagmaaaW.PrintWords Go.Proofs.YtaffpnnhoagmaaaW.PrintLast Go.Proofs.YtaffpnnhoagmaaaW.PrintMore
attribute [local go_sem] zero_st
/-- A byte of a string. -/
def bF (s : ByteArray) (n : Nat) : Nat := (s.data.toList.getD n 0).toNat
theorem bF_lt (s : ByteArray) (n : Nat) : bF s n < 256 := (s.data.toList.getD n 0).toBitVec.isLt
/-- The text of 64 bytes. -/
def strF (f : Nat → Nat) : ByteArray := strOfNums ((List.range 64).map fun n => (f n : Int))
def iterW (F : Nat → (Nat → Nat) → Nat → Nat) (f : Nat → Nat) : Nat → Nat → Nat
  | 0 => f
  | k + 1 => F k (iterW F f k)
theorem setCells_heap {b : Nat} {t : TypeId} : ∀ (vs : List Value) (o : Nat) (w : World) (cs : Array Value), w.heap[b]? = some (.cells cs t (0, 0)) → o + vs.length ≤ cs.size →
    ∃ cs', (w.setCells b o vs).heap[b]? = some (.cells cs' t (0, 0)) ∧ cs'.size = cs.size ∧ ∀ n, cs'[n]? = if o ≤ n ∧ n < o + vs.length then vs[n - o]? else cs[n]?
  | [], o, w, cs, h, _ => ⟨cs, h, rfl, fun n => by rw [if_neg (by simp only [List.length_nil]; omega)]⟩
  | v :: vs, o, w, cs, h, hl => by
    simp only [List.length_cons] at hl
    obtain ⟨cs', h1, h2, h3⟩ := setCells_heap vs (o + 1) (w.setCell ⟨b, o, none⟩ v) (cs.setIfInBounds o v) (blk_put h o v rfl) (by rw [Array.size_setIfInBounds]; omega)
    refine ⟨cs', h1, by rw [h2, Array.size_setIfInBounds], fun n => ?_⟩
    rw [h3 n]
    simp only [List.length_cons]
    by_cases c : n = o
    · subst c
      rw [if_neg (by omega), if_pos (by omega), set_at (by omega), Nat.sub_self]
      rfl
    · by_cases c2 : o ≤ n ∧ n < o + (vs.length + 1)
      · rw [if_pos c2, if_pos (by omega), show n - o = (n - (o + 1)) + 1 by omega, List.getElem?_cons_succ]
      · rw [if_neg c2, if_neg (by omega), set_ne (fun e => c e.symm)]
theorem sta_of_copy {s : ByteArray} {b : Nat} {w : World} (h : w.heap[b]? = some (.cells zSt 101 (0, 0))) (hs : s.size = 64) :
    ∃ cs', (w.setCells b 0 (s.data.toList.map fun x => Value.int .u8 (x.toNat : Int))).heap[b]? = some (.cells cs' 101 (0, 0)) ∧ Sta (bF s) cs' := by
  have hl : s.data.toList.length = 64 := by rw [Array.length_toList]; exact hs
  obtain ⟨cs', h1, h2, h3⟩ := setCells_heap (s.data.toList.map fun x => Value.int .u8 (x.toNat : Int)) 0 w zSt h (by rw [List.length_map, hl, zSt_size]; decide)
  refine ⟨cs', h1, by rw [h2, zSt_size], fun n hn => ?_, fun n _ => bF_lt s n⟩
  rw [h3 n, if_pos (by rw [List.length_map, hl]; omega), Nat.sub_zero, List.getElem?_map, List.getElem?_eq_getElem (by omega)]
  unfold bF
  rw [List.getD_eq_getElem?_getD, List.getElem?_eq_getElem (by omega)]
  rfl
theorem sta_string {g : Nat} {cs : Array Value} {f : Nat → Nat} {w : World} (h : w.heap[g]? = some (.cells cs 101 (0, 0))) (hf : Sta f cs) : (convert 48 9 (.slice (some ⟨g, 0, none⟩) 64 64)).run Try.prog w = .ok (.string (strF f)) w := by
  refine string_of_reads Try.underlying48 Try.underlying5 Try.underlying9 ⟨?_, by decide, fun _ => ⟨_, rfl, fun j hj => ?_⟩⟩
  · rw [List.length_map, List.length_range]
  · rw [show (Addr.add ⟨g, 0, none⟩ j : Addr) = ⟨g, j, none⟩ by unfold Addr.add; by_cases c : j = 0 <;> simp [c], blk_cell h j, hf.cell j hj, List.getD_eq_getElem?_getD, List.getElem?_map, List.getElem?_range hj]
    rfl
theorem byte_size (w : World) : (Go.sizeOf 5).run Try.prog w = .ok 1 w := by
  have hi : (Try.prog.info? 5).map (·.size) = some 1 := by kernel_rfl
  cases h : Try.prog.info? 5 with
  | none => rw [h] at hi; cases hi
  | some i =>
    rw [h] at hi
    simp only [Option.map_some, Option.some.injEq] at hi
    simp [sizeOf, typeInfo, h, hi]
set_option maxHeartbeats 8000000 in
set_option maxRecDepth 100000 in
theorem walk_on {gt : Nat} {w : World} (s : ByteArray) (hs : s.size = 64) (F : Nat → (Nat → Nat) → Nat → Nat) (c1 c2 : Value)
  (hdo : Aside0 (∀ (W : World) (g : Nat) (cs : Array Value) (f : Nat → Nat) (r : Nat), r < 6 → Below w.heap.size w W → w.heap.size ≤ g → W.heap[g]? = some (.cells cs 101 (0, 0)) → Sta f cs →
    Calls Try.prog 69 #[.pointer (some ⟨g, 0, none⟩), .int .i64 (r : Int), c1, c2] W fun e w' => e = .returned (.tuple #[]) ∧ (∃ cs', w'.heap[g]? = some (.cells cs' 101 (0, 0)) ∧ Sta (F r f) cs') ∧ Below g W w')) :
  Calls Try.prog 52 #[.pointer (some ⟨gt, 0, none⟩), .string s, .func (.func 69) #[] #[c1, c2]] w fun e w' => e = .returned (.tuple #[.string (strF (iterW F (bF s) 6)), .int .i64 0]) ∧ Below w.heap.size w w' := by
 have HB := Aside0.mk (Below.refl w.heap.size w)
 have h64 : ((s.size : Int) != 64) = false := by rw [hs]; rfl
 have HZ := Aside0.mk hs
 clear hs
 go_enter Try.func52, Try.ntmps52
 go_wp2_with (first
  | ((with_reducible refine gate_dst (N := 8) rfl ?_); refine box_event ?hg (N := 8) ?hd (cs := zSt) (t := 101) ?hr ?_; (case hd => rfl); (case hg => rfl); (case hr => first | (go_simp; done) | (go_simp; rfl)); intro g hg2 w2 hbox hb; have HS := Aside0.mk hbox; have GE := Aside0.mk (Nat.le_of_eq hg2.symm); replace HB := bh HB hb; clear hb hbox hg2)
  | ((with_reducible refine gate_dst (N := 19) rfl ?_); refine Lib.wpList_copy_run _ rfl (.tmp 17) (.tmp 18) 48 9 rfl _ _ rfl rfl (run_copy_string _ 48 9 3 5 g 0 64 64 s Try.underlying48 byte_size (Nat.le_of_eq HZ.out) (fun j hj => by rw [Nat.zero_add, blk_cell HS.out j, zSt_at (by have := HZ.out; omega)]; rfl) (fun j _ => blk_frozen HS.out _)) ?_; obtain ⟨cs1, hs1, hf1⟩ := sta_of_copy HS.out HZ.out; replace HS := Aside0.mk hs1; have HF := Aside0.mk hf1; replace HB := Aside0.mk (below_setCells GE.out (s.data.toList.map fun x => Value.int .u8 (x.toNat : Int)) 0 _ HB.out); clear hs1 hf1; (generalize World.setCells _ g 0 (s.data.toList.map fun x => Value.int .u8 (x.toNat : Int)) = w4 at HS HB ⊢)))
 go_loopg [20] 6 (fun kq v20 w' => ∃ (i : Nat) (cs : Array Value), v20 = .int .i64 (i : Int) ∧ Aside0 (i + kq = 6) ∧ Aside0 (w'.heap[g]? = some (.cells cs 101 (0, 0))) ∧ Aside0 (Sta (iterW F (bF s) i) cs) ∧ Aside0 (Below w.heap.size w w'))
 case atStart => exact ⟨0, _, rfl, ⟨rfl⟩, HS, HF, HB⟩
 case round =>
  clear HS HB HF
  obtain ⟨i, cs, rfl, HK, HS, HF, HB⟩ := hrel
  cases gk with
  | succ k2 =>
   have hi : i < 6 := by have := HK.out; omega
   have HI := Aside0.mk hi
   have d0 : decide ((i : Int) < 6) = true := decide_eq_true (by omega)
   have d1 : decide (i < 6) = true := decide_eq_true hi
   clear hi
   go_wp2_with (first
    | ((with_reducible refine gate_callee (f := 69) rfl ?_); refine goesL_ (some 25) rfl rfl Try.func69 (by kernel_rfl) rfl #[.pointer (some ⟨g, 0, none⟩), .int .i64 (i : Int), c1, c2] rfl (by (try simp only [List.map_toArray, List.map_cons, List.map_nil]); first | done | rfl) ?_; (with_reducible refine (hdo.out _ g cs (iterW F (bF s) i) i HI.out HB.out GE.out HS.out HF.out).mono ?_); rintro e w11 ⟨rfl, ⟨cs2, hs2, hf2⟩, hb⟩; refine ⟨_, rfl, ?_⟩; replace HS := Aside0.mk hs2; replace HF : Aside0 (Sta (iterW F (bF s) (i + 1)) cs2) := ⟨hf2⟩; replace HB := Aside0.mk (HB.out.trans (hb.mono GE.out)); clear hs2 hf2 hb)
    | (go_at_call 69; (with_reducible refine (hdo.out _ g cs (iterW F (bF s) i) i HI.out HB.out GE.out HS.out HF.out).mono ?_); rintro e w11 ⟨rfl, ⟨cs2, hs2, hf2⟩, hb⟩; replace HS := Aside0.mk hs2; replace HF : Aside0 (Sta (iterW F (bF s) (i + 1)) cs2) := ⟨hf2⟩; replace HB := Aside0.mk (HB.out.trans (hb.mono GE.out)); clear hs2 hf2 hb))
   go_roundg k2
   case measure => omega
   case rel =>
    have hi := HI.out
    exact ⟨i + 1, cs2, by rw [step_1 (by omega)], ⟨by have := HK.out; omega⟩, HS, HF, HB⟩
  | zero =>
   obtain rfl : i = 6 := by have := HK.out; omega
   clear HK
   have hcv := sta_string HS.out HF.out
   go_wp2
   go_ret2
   exact ⟨rfl, HB.out⟩
set_option maxHeartbeats 8000000 in
set_option maxRecDepth 100000 in
theorem on_calls (pv : Option Addr) (q : Bool) (w : World) :
  Calls Try.prog 53 #[.pointer pv, .bool q] w fun e w' => ∃ ba bq, e = .returned (.func (.func 69) #[] #[.pointer (some ⟨bq, 0, none⟩), .pointer (some ⟨ba, 0, none⟩)]) ∧ w'.heap[ba]? = some (.cells #[.pointer pv] 23 (0, 0)) ∧ w'.heap[bq]? = some (.cells #[.bool q] 4 (0, 0)) ∧ Below w.heap.size w w' := by
 have HB := Aside0.mk (Below.refl w.heap.size w)
 have hmf : ∀ (fn : Fn) (first cap : Array Value) (w : World), (Instr.makeFunc fn first cap).run Try.prog w = .ok (.func fn first cap) w := fun _ _ _ _ => rfl
 go_enter Try.func53, Try.ntmps53
 go_wp2_with (first
  | ((with_reducible refine gate_dst (N := 2) rfl ?_); refine box_event ?hg (N := 2) ?hd (cs := #[.pointer pv]) (t := 23) ?hr ?_; (case hd => rfl); (case hg => rfl); (case hr => first | (go_simp; done) | (go_simp; rfl)); intro ba hg1 w1 hbox hb; have HA := Aside0.mk hbox; replace HB := bh HB hb; clear hb hbox hg1)
  | ((with_reducible refine gate_dst (N := 3) rfl ?_); refine box_event ?hg (N := 3) ?hd (cs := #[.bool q]) (t := 4) ?hr ?_; (case hd => rfl); (case hg => rfl); (case hr => first | (go_simp; done) | (go_simp; rfl)); intro bq hg1 w2 hbox hb; have HQ := Aside0.mk hbox; replace HA := bb HA hb; replace HB := bh HB hb; clear hb hbox hg1))
 go_ret
 exact ⟨ba, bq, rfl, HA.out, HQ.out, HB.out⟩
set_option maxHeartbeats 8000000 in
set_option maxRecDepth 100000 in
theorem walk_size {gt : Nat} {w : World} (s : ByteArray) (hs : s.size ≠ 64) (fv : Value) :
  Calls Try.prog 52 #[.pointer (some ⟨gt, 0, none⟩), .string s, fv] w fun e w' => e = .returned (.tuple #[.string ⟨#[]⟩, .int .i64 6]) ∧ Below w.heap.size w w' := by
 have HB := Aside0.mk (Below.refl w.heap.size w)
 have h64 : ((s.size : Int) != 64) = true := by rw [bne_iff_ne]; omega
 clear hs
 go_enter Try.func52, Try.ntmps52
 go_wp2
 go_ret2
 exact ⟨rfl, HB.out⟩
set_option maxHeartbeats 8000000 in
set_option maxRecDepth 100000 in
theorem walk_nil {w : World} (s : ByteArray) (fv : Value) :
  Calls Try.prog 52 #[.pointer none, .string s, fv] w fun e w' => e = .returned (.tuple #[.string ⟨#[]⟩, .int .i64 1]) ∧ Below w.heap.size w w' := by
 have HB := Aside0.mk (Below.refl w.heap.size w)
 go_enter Try.func52, Try.ntmps52
 go_wp2
 go_ret2
 exact ⟨rfl, HB.out⟩
/-- A way. -/
def wayF (bx : Nat → Nat) (ml : Nat → Nat → Nat) (q : Bool) (f : Nat → Nat) : Nat → Nat := iterW (roundF bx ml q) f 6
theorem wayP {bx : Nat → Nat} {ml : Nat → Nat → Nat} {gt : Nat} {ct : Array Value} {w : World} (hm8 : ∀ b q : Nat, b < 256 → q ∈ mixL → ml q b < 256) (hb8 : ∀ b, b < 256 → bx b < 256) (hT : w.heap[gt]? = some (.cells ct 54 (0, 0))) (hTab : Tab bx ml 256 256 256 0 ct) (q : Bool) {ba bq : Nat} (hA : w.heap[ba]? = some (.cells #[.pointer (some ⟨gt, 0, none⟩)] 23 (0, 0))) (hQ : w.heap[bq]? = some (.cells #[.bool q] 4 (0, 0))) (s : ByteArray) (hs : s.size = 64) :
  Calls Try.prog 52 #[.pointer (some ⟨gt, 0, none⟩), .string s, .func (.func 69) #[] #[.pointer (some ⟨bq, 0, none⟩), .pointer (some ⟨ba, 0, none⟩)]] w fun e w' => e = .returned (.tuple #[.string (strF (wayF bx ml q (bF s))), .int .i64 0]) ∧ Below w.heap.size w w' :=
  walk_on s hs (roundF bx ml q) _ _ ⟨fun W g cs f r hr hb hg hS hf => on1_calls hm8 hb8 (blk_below hT hb) hTab (Nat.lt_of_lt_of_le (blk_lt hT) hg) hS hf hr (blk_below hA hb) (blk_below hQ hb) (Nat.lt_of_lt_of_le (blk_lt hA) hg) (Nat.lt_of_lt_of_le (blk_lt hQ) hg)⟩
set_option maxHeartbeats 8000000 in
set_option maxRecDepth 100000 in
theorem P_calls {bx : Nat → Nat} {ml : Nat → Nat → Nat} {gt : Nat} {ct : Array Value} {w : World} (hm8 : ∀ b q : Nat, b < 256 → q ∈ mixL → ml q b < 256) (hb8 : ∀ b, b < 256 → bx b < 256) (hT : w.heap[gt]? = some (.cells ct 54 (0, 0))) (hTab : Tab bx ml 256 256 256 0 ct) (s : ByteArray) (hs : s.size = 64) :
  Calls Try.prog 29 #[.pointer (some ⟨gt, 0, none⟩), .string s] w fun e w' => e = .returned (.tuple #[.string (strF (wayF bx ml false (bF s))), .int .i64 0]) ∧ Below w.heap.size w w' := by
 have HB := Aside0.mk (Below.refl w.heap.size w)
 have HT := Aside0.mk hT
 have TB := Aside0.mk hTab
 have M8 := Aside0.mk hm8
 have B8 := Aside0.mk hb8
 have HZ := Aside0.mk hs
 clear hT hTab hm8 hb8 hs
 go_enter Try.func29, Try.ntmps29
 go_wp2_with (first
  | ((with_reducible refine gate_callee (f := 53) rfl ?_); refine goesL_ (some 9) rfl rfl Try.func53 (by kernel_rfl) rfl #[.pointer (some ⟨gt, 0, none⟩), .bool false] rfl (by (try simp only [List.map_toArray, List.map_cons, List.map_nil]); first | done | rfl) ?_; (with_reducible refine (on_calls (some ⟨gt, 0, none⟩) false _).mono ?_); rintro e w11 ⟨ba, bq, rfl, ha, hq, hb⟩; refine ⟨_, rfl, ?_⟩; replace HT := bb HT hb; replace HB := bh HB hb; have HA := Aside0.mk ha; have HQ := Aside0.mk hq; clear ha hq hb)
  | (go_at_call 53; (with_reducible refine (on_calls (some ⟨gt, 0, none⟩) false _).mono ?_); rintro e w11 ⟨ba, bq, rfl, ha, hq, hb⟩; replace HT := bb HT hb; replace HB := bh HB hb; have HA := Aside0.mk ha; have HQ := Aside0.mk hq; clear ha hq hb)
  | ((with_reducible refine gate_callee (f := 52) rfl ?_); refine goesL_ (some 10) rfl rfl Try.func52 (by kernel_rfl) rfl #[.pointer (some ⟨gt, 0, none⟩), .string s, .func (.func 69) #[] #[.pointer (some ⟨bq, 0, none⟩), .pointer (some ⟨ba, 0, none⟩)]] rfl (by (try simp only [List.map_toArray, List.map_cons, List.map_nil]); first | done | rfl) ?_; (with_reducible refine (wayP M8.out B8.out HT.out TB.out false HA.out HQ.out s HZ.out).mono ?_); rintro e w12 ⟨rfl, hb⟩; refine ⟨_, rfl, ?_⟩; replace HB := bh HB hb; clear hb)
  | (go_at_call 52; (with_reducible refine (wayP M8.out B8.out HT.out TB.out false HA.out HQ.out s HZ.out).mono ?_); rintro e w12 ⟨rfl, hb⟩; replace HB := bh HB hb; clear hb))
 go_ret2
 exact ⟨rfl, HB.out⟩
set_option maxHeartbeats 8000000 in
set_option maxRecDepth 100000 in
theorem P_size {gt : Nat} {w : World} (s : ByteArray) (hs : s.size ≠ 64) :
  Calls Try.prog 29 #[.pointer (some ⟨gt, 0, none⟩), .string s] w fun e w' => e = .returned (.tuple #[.string ⟨#[]⟩, .int .i64 6]) ∧ Below w.heap.size w w' := by
 have HB := Aside0.mk (Below.refl w.heap.size w)
 have HZ := Aside0.mk hs
 clear hs
 go_enter Try.func29, Try.ntmps29
 go_wp2_with (first
  | ((with_reducible refine gate_callee (f := 53) rfl ?_); refine goesL_ (some 9) rfl rfl Try.func53 (by kernel_rfl) rfl #[.pointer (some ⟨gt, 0, none⟩), .bool false] rfl (by (try simp only [List.map_toArray, List.map_cons, List.map_nil]); first | done | rfl) ?_; (with_reducible refine (on_calls (some ⟨gt, 0, none⟩) false _).mono ?_); rintro e w11 ⟨ba, bq, rfl, ha, hq, hb⟩; refine ⟨_, rfl, ?_⟩; replace HB := bh HB hb; have HA := Aside0.mk ha; have HQ := Aside0.mk hq; clear ha hq hb)
  | (go_at_call 53; (with_reducible refine (on_calls (some ⟨gt, 0, none⟩) false _).mono ?_); rintro e w11 ⟨ba, bq, rfl, ha, hq, hb⟩; replace HB := bh HB hb; have HA := Aside0.mk ha; have HQ := Aside0.mk hq; clear ha hq hb)
  | ((with_reducible refine gate_callee (f := 52) rfl ?_); refine goesL_ (some 10) rfl rfl Try.func52 (by kernel_rfl) rfl #[.pointer (some ⟨gt, 0, none⟩), .string s, .func (.func 69) #[] #[.pointer (some ⟨bq, 0, none⟩), .pointer (some ⟨ba, 0, none⟩)]] rfl (by (try simp only [List.map_toArray, List.map_cons, List.map_nil]); first | done | rfl) ?_; (with_reducible refine (walk_size s HZ.out _).mono ?_); rintro e w12 ⟨rfl, hb⟩; refine ⟨_, rfl, ?_⟩; replace HB := bh HB hb; clear hb)
  | (go_at_call 52; (with_reducible refine (walk_size s HZ.out _).mono ?_); rintro e w12 ⟨rfl, hb⟩; replace HB := bh HB hb; clear hb))
 go_ret2
 exact ⟨rfl, HB.out⟩
set_option maxHeartbeats 8000000 in
set_option maxRecDepth 100000 in
theorem P_nil {w : World} (s : ByteArray) :
  Calls Try.prog 29 #[.pointer none, .string s] w fun e w' => e = .returned (.tuple #[.string ⟨#[]⟩, .int .i64 1]) ∧ Below w.heap.size w w' := by
 have HB := Aside0.mk (Below.refl w.heap.size w)
 go_enter Try.func29, Try.ntmps29
 go_wp2_with (first
  | ((with_reducible refine gate_callee (f := 53) rfl ?_); refine goesL_ (some 9) rfl rfl Try.func53 (by kernel_rfl) rfl #[.pointer none, .bool false] rfl (by (try simp only [List.map_toArray, List.map_cons, List.map_nil]); first | done | rfl) ?_; (with_reducible refine (on_calls none false _).mono ?_); rintro e w11 ⟨ba, bq, rfl, ha, hq, hb⟩; refine ⟨_, rfl, ?_⟩; replace HB := bh HB hb; have HA := Aside0.mk ha; have HQ := Aside0.mk hq; clear ha hq hb)
  | (go_at_call 53; (with_reducible refine (on_calls none false _).mono ?_); rintro e w11 ⟨ba, bq, rfl, ha, hq, hb⟩; replace HB := bh HB hb; have HA := Aside0.mk ha; have HQ := Aside0.mk hq; clear ha hq hb)
  | ((with_reducible refine gate_callee (f := 52) rfl ?_); refine goesL_ (some 10) rfl rfl Try.func52 (by kernel_rfl) rfl #[.pointer none, .string s, .func (.func 69) #[] #[.pointer (some ⟨bq, 0, none⟩), .pointer (some ⟨ba, 0, none⟩)]] rfl (by (try simp only [List.map_toArray, List.map_cons, List.map_nil]); first | done | rfl) ?_; (with_reducible refine (walk_nil s _).mono ?_); rintro e w12 ⟨rfl, hb⟩; refine ⟨_, rfl, ?_⟩; replace HB := bh HB hb; clear hb)
  | (go_at_call 52; (with_reducible refine (walk_nil s _).mono ?_); rintro e w12 ⟨rfl, hb⟩; replace HB := bh HB hb; clear hb))
 go_ret2
 exact ⟨rfl, HB.out⟩
set_option maxHeartbeats 8000000 in
set_option maxRecDepth 100000 in
theorem Q_calls {bx : Nat → Nat} {ml : Nat → Nat → Nat} {gt : Nat} {ct : Array Value} {w : World} (hm8 : ∀ b q : Nat, b < 256 → q ∈ mixL → ml q b < 256) (hb8 : ∀ b, b < 256 → bx b < 256) (hT : w.heap[gt]? = some (.cells ct 54 (0, 0))) (hTab : Tab bx ml 256 256 256 0 ct) (s : ByteArray) (hs : s.size = 64) :
  Calls Try.prog 31 #[.pointer (some ⟨gt, 0, none⟩), .string s] w fun e w' => e = .returned (.tuple #[.string (strF (wayF bx ml true (bF s))), .int .i64 0]) ∧ Below w.heap.size w w' := by
 have HB := Aside0.mk (Below.refl w.heap.size w)
 have HT := Aside0.mk hT
 have TB := Aside0.mk hTab
 have M8 := Aside0.mk hm8
 have B8 := Aside0.mk hb8
 have HZ := Aside0.mk hs
 clear hT hTab hm8 hb8 hs
 go_enter Try.func31, Try.ntmps31
 go_wp2_with (first
  | ((with_reducible refine gate_callee (f := 53) rfl ?_); refine goesL_ (some 9) rfl rfl Try.func53 (by kernel_rfl) rfl #[.pointer (some ⟨gt, 0, none⟩), .bool true] rfl (by (try simp only [List.map_toArray, List.map_cons, List.map_nil]); first | done | rfl) ?_; (with_reducible refine (on_calls (some ⟨gt, 0, none⟩) true _).mono ?_); rintro e w11 ⟨ba, bq, rfl, ha, hq, hb⟩; refine ⟨_, rfl, ?_⟩; replace HT := bb HT hb; replace HB := bh HB hb; have HA := Aside0.mk ha; have HQ := Aside0.mk hq; clear ha hq hb)
  | (go_at_call 53; (with_reducible refine (on_calls (some ⟨gt, 0, none⟩) true _).mono ?_); rintro e w11 ⟨ba, bq, rfl, ha, hq, hb⟩; replace HT := bb HT hb; replace HB := bh HB hb; have HA := Aside0.mk ha; have HQ := Aside0.mk hq; clear ha hq hb)
  | ((with_reducible refine gate_callee (f := 52) rfl ?_); refine goesL_ (some 10) rfl rfl Try.func52 (by kernel_rfl) rfl #[.pointer (some ⟨gt, 0, none⟩), .string s, .func (.func 69) #[] #[.pointer (some ⟨bq, 0, none⟩), .pointer (some ⟨ba, 0, none⟩)]] rfl (by (try simp only [List.map_toArray, List.map_cons, List.map_nil]); first | done | rfl) ?_; (with_reducible refine (wayP M8.out B8.out HT.out TB.out true HA.out HQ.out s HZ.out).mono ?_); rintro e w12 ⟨rfl, hb⟩; refine ⟨_, rfl, ?_⟩; replace HB := bh HB hb; clear hb)
  | (go_at_call 52; (with_reducible refine (wayP M8.out B8.out HT.out TB.out true HA.out HQ.out s HZ.out).mono ?_); rintro e w12 ⟨rfl, hb⟩; replace HB := bh HB hb; clear hb))
 go_ret2
 exact ⟨rfl, HB.out⟩
set_option maxHeartbeats 8000000 in
set_option maxRecDepth 100000 in
theorem Q_size {gt : Nat} {w : World} (s : ByteArray) (hs : s.size ≠ 64) :
  Calls Try.prog 31 #[.pointer (some ⟨gt, 0, none⟩), .string s] w fun e w' => e = .returned (.tuple #[.string ⟨#[]⟩, .int .i64 6]) ∧ Below w.heap.size w w' := by
 have HB := Aside0.mk (Below.refl w.heap.size w)
 have HZ := Aside0.mk hs
 clear hs
 go_enter Try.func31, Try.ntmps31
 go_wp2_with (first
  | ((with_reducible refine gate_callee (f := 53) rfl ?_); refine goesL_ (some 9) rfl rfl Try.func53 (by kernel_rfl) rfl #[.pointer (some ⟨gt, 0, none⟩), .bool true] rfl (by (try simp only [List.map_toArray, List.map_cons, List.map_nil]); first | done | rfl) ?_; (with_reducible refine (on_calls (some ⟨gt, 0, none⟩) true _).mono ?_); rintro e w11 ⟨ba, bq, rfl, ha, hq, hb⟩; refine ⟨_, rfl, ?_⟩; replace HB := bh HB hb; have HA := Aside0.mk ha; have HQ := Aside0.mk hq; clear ha hq hb)
  | (go_at_call 53; (with_reducible refine (on_calls (some ⟨gt, 0, none⟩) true _).mono ?_); rintro e w11 ⟨ba, bq, rfl, ha, hq, hb⟩; replace HB := bh HB hb; have HA := Aside0.mk ha; have HQ := Aside0.mk hq; clear ha hq hb)
  | ((with_reducible refine gate_callee (f := 52) rfl ?_); refine goesL_ (some 10) rfl rfl Try.func52 (by kernel_rfl) rfl #[.pointer (some ⟨gt, 0, none⟩), .string s, .func (.func 69) #[] #[.pointer (some ⟨bq, 0, none⟩), .pointer (some ⟨ba, 0, none⟩)]] rfl (by (try simp only [List.map_toArray, List.map_cons, List.map_nil]); first | done | rfl) ?_; (with_reducible refine (walk_size s HZ.out _).mono ?_); rintro e w12 ⟨rfl, hb⟩; refine ⟨_, rfl, ?_⟩; replace HB := bh HB hb; clear hb)
  | (go_at_call 52; (with_reducible refine (walk_size s HZ.out _).mono ?_); rintro e w12 ⟨rfl, hb⟩; replace HB := bh HB hb; clear hb))
 go_ret2
 exact ⟨rfl, HB.out⟩
set_option maxHeartbeats 8000000 in
set_option maxRecDepth 100000 in
theorem Q_nil {w : World} (s : ByteArray) :
  Calls Try.prog 31 #[.pointer none, .string s] w fun e w' => e = .returned (.tuple #[.string ⟨#[]⟩, .int .i64 1]) ∧ Below w.heap.size w w' := by
 have HB := Aside0.mk (Below.refl w.heap.size w)
 go_enter Try.func31, Try.ntmps31
 go_wp2_with (first
  | ((with_reducible refine gate_callee (f := 53) rfl ?_); refine goesL_ (some 9) rfl rfl Try.func53 (by kernel_rfl) rfl #[.pointer none, .bool true] rfl (by (try simp only [List.map_toArray, List.map_cons, List.map_nil]); first | done | rfl) ?_; (with_reducible refine (on_calls none true _).mono ?_); rintro e w11 ⟨ba, bq, rfl, ha, hq, hb⟩; refine ⟨_, rfl, ?_⟩; replace HB := bh HB hb; have HA := Aside0.mk ha; have HQ := Aside0.mk hq; clear ha hq hb)
  | (go_at_call 53; (with_reducible refine (on_calls none true _).mono ?_); rintro e w11 ⟨ba, bq, rfl, ha, hq, hb⟩; replace HB := bh HB hb; have HA := Aside0.mk ha; have HQ := Aside0.mk hq; clear ha hq hb)
  | ((with_reducible refine gate_callee (f := 52) rfl ?_); refine goesL_ (some 10) rfl rfl Try.func52 (by kernel_rfl) rfl #[.pointer none, .string s, .func (.func 69) #[] #[.pointer (some ⟨bq, 0, none⟩), .pointer (some ⟨ba, 0, none⟩)]] rfl (by (try simp only [List.map_toArray, List.map_cons, List.map_nil]); first | done | rfl) ?_; (with_reducible refine (walk_nil s _).mono ?_); rintro e w12 ⟨rfl, hb⟩; refine ⟨_, rfl, ?_⟩; replace HB := bh HB hb; clear hb)
  | (go_at_call 52; (with_reducible refine (walk_nil s _).mono ?_); rintro e w12 ⟨rfl, hb⟩; replace HB := bh HB hb; clear hb))
 go_ret2
 exact ⟨rfl, HB.out⟩
end Go.Proofs.Ytaffpnnhoagmaaa.P
