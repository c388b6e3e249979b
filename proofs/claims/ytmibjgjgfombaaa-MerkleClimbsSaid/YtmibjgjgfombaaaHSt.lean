/- Texts of this session, merged: HSta HSwap HAdd HTurn HMix HOn HWalk. Conditions: those that each theorem names. -/
import Derived.Test.YtmibjgjgfombaaaHTab
import Derived.StillTailTactics
import Derived.Test.YtmibjgjgfombaaaHMake
import Derived.Laws.CopyOwn
import Derived.Test.YtmibjgjgfombaaaPx3
import Derived.Test.YtmibjgjgfombaaaPx2
import Derived.Lib.LazyBuf
import Derived.Lib.SlBuf
section
/- A state of 64 bytes in memory (layer 10). Conditions: those that each theorem names. -/
set_option linter.unusedVariables false
set_option linter.unusedSimpArgs false
namespace Go.Proofs.Ytmibjgjgfombaaa.P
open Go.RowKit Go.Proofs.YtmibjgjgfombaaaX Go.Proofs.YtmibjgjgfombaaaW.PrintWords Go.Proofs.YtmibjgjgfombaaaW.PrintLast Go.Proofs.YtmibjgjgfombaaaW.PrintMore
/-- 64 cells are the bytes f. -/
structure Sta (f : Nat → Nat) (cs : Array Value) : Prop where
  size : cs.size = 64
  cell : ∀ n, n < 64 → cs[n]? = some (.int .u8 (f n : Int))
  lt : ∀ n, n < 64 → f n < 256
theorem Sta.congr {f f' : Nat → Nat} {cs : Array Value} (h : Sta f cs) (e : ∀ n, n < 64 → f' n = f n) : Sta f' cs :=
  ⟨h.size, fun n hn => by rw [e n hn]; exact h.cell n hn, fun n hn => by rw [e n hn]; exact h.lt n hn⟩
theorem Sta.set {f f' : Nat → Nat} {cs : Array Value} {i v : Nat} {x : Int} (h : Sta f cs) (hi : i < 64) (hv : v < 256) (hx : x = (v : Int)) (e : ∀ n, n < 64 → f' n = if n = i then v else f n) : Sta f' (cs.setIfInBounds i (.int .u8 x)) := by
  subst hx
  have hz := h.size
  refine ⟨by rw [Array.size_setIfInBounds]; exact hz, fun n hn => ?_, fun n hn => ?_⟩
  · rw [e n hn]
    by_cases c : n = i
    · subst c
      rw [if_pos rfl, set_at (by omega)]
    · rw [if_neg c, set_ne (fun e2 => c e2.symm)]
      exact h.cell n hn
  · rw [e n hn]
    by_cases c : n = i
    · rw [if_pos c]
      exact hv
    · rw [if_neg c]
      exact h.lt n hn
theorem u8_xor (a b : Nat) (ha : a < 256) (hb : b < 256) : Go.bits .xor .u8 (a : Int) (b : Int) = ((a ^^^ b : Nat) : Int) := by
  have h : a ^^^ b < 2 ^ 8 := Nat.xor_lt_two_pow (n := 8) ha hb
  have e1 : (BitVec.ofInt 8 (a : Int)).toNat = a := by rw [BitVec.toNat_ofInt]; omega
  have e2 : (BitVec.ofInt 8 (b : Int)).toNat = b := by rw [BitVec.toNat_ofInt]; omega
  show IntKind.u8.wrap (((BitVec.ofInt 8 (a : Int)) ^^^ (BitVec.ofInt 8 (b : Int))).toNat : Int) = _
  rw [BitVec.toNat_xor, e1, e2]
  simp only [IntKind.wrap, IntKind.bits, IntKind.signed]
  simp
  omega
theorem xor_lt {a b : Nat} (ha : a < 256) (hb : b < 256) : a ^^^ b < 256 := Nat.xor_lt_two_pow (n := 8) ha hb
/-! The numbers of a place in the state: column m, row i. -/
theorem idx_lt {m i : Nat} (hm : m < 8) (hi : i < 8) : (8 * (m : Int) + (i : Int) < 64) = True := eq_true (by omega)
theorem idx_ge {m i : Nat} (hm : m < 8) (hi : i < 8) : (0 ≤ 8 * (m : Int) + (i : Int)) = True := eq_true (by omega)
theorem idx_w0 {m : Nat} (hm : m < 8) : IntKind.i64.wrap (8 * (m : Int)) = 8 * (m : Int) := (i64_w _).trans (by unfold wrap64; omega)
theorem idx_w1 {m i : Nat} (hm : m < 8) (hi : i < 8) : IntKind.i64.wrap (8 * (m : Int) + (i : Int)) = 8 * (m : Int) + (i : Int) := (i64_w _).trans (by unfold wrap64; omega)
theorem idx_nat (m i : Nat) : (8 * (m : Int) + (i : Int)).toNat = 8 * m + i := by omega
theorem idx_64 {m i : Nat} (hm : m < 8) (hi : i < 8) : 8 * m + i < 64 := by omega
theorem idx_sum {c t : Nat} (hc : c < 8) (ht : t < 8) : wrap64 ((c : Int) + (t : Int)) = (c : Int) + (t : Int) := by unfold wrap64; omega
theorem idx_sumw {c t : Nat} (hc : c < 8) (ht : t < 8) : IntKind.i64.wrap ((c : Int) + (t : Int)) = (c : Int) + (t : Int) := (i64_w _).trans (idx_sum hc ht)
theorem idx_mod {c t d : Nat} (hd : d = (c + t) % 8) : ((c : Int) + (t : Int)) % 8 = (d : Int) := by omega
theorem idx_tmod {c t d : Nat} (hd : d = (c + t) % 8) : Int.tmod ((c : Int) + (t : Int)) 8 = (d : Int) := by
  rw [Int.tmod_eq_emod_of_nonneg (by omega)]
  omega
theorem idx_m8 {c t d : Nat} (hd : d = (c + t) % 8) : d < 8 := by omega
theorem step_1 {i : Nat} (hi : i < 1000) : wrap64 ((i : Int) + 1) = ((i + 1 : Nat) : Int) := by unfold wrap64; omega
end Go.Proofs.Ytmibjgjgfombaaa.P
end

section
/- Each byte of a state becomes another one (layer 10). Conditions: those that each theorem names. -/
set_option linter.unusedVariables false
set_option linter.unusedSimpArgs false
namespace Go.Proofs.Ytmibjgjgfombaaa.P
open Go.RowKit Go.Proofs.YtmibjgjgfombaaaX Go.Proofs.YtmibjgjgfombaaaW.PrintWords Go.Proofs.YtmibjgjgfombaaaW.PrintLast Go.Proofs.YtmibjgjgfombaaaW.PrintMore
set_option maxHeartbeats 8000000 in
set_option maxRecDepth 100000 in
theorem swap_calls {gt g off : Nat} {ct cs : Array Value} {w : World} {f by_ : Nat → Nat} (hT : w.heap[gt]? = some (.cells ct 67 (0, 0))) (hby : ∀ b, b < 256 → ct[off + b]? = some (.int .u8 (by_ b : Int))) (hlt : ∀ b, b < 256 → by_ b < 256)
  (hS : w.heap[g]? = some (.cells cs 138 (0, 0))) (hf : Sta f cs) (hg : gt < g) :
  Calls Try.prog 103 #[.pointer (some ⟨g, 0, none⟩), .pointer (some ⟨gt, off, none⟩)] w fun e w' => e = .returned (.tuple #[]) ∧ (∃ cs', w'.heap[g]? = some (.cells cs' 138 (0, 0)) ∧ Sta (fun n => by_ (f n)) cs') ∧ Below g w w' := by
 have HB := Aside0.mk (Below.refl g w)
 have HT := Aside0.mk hT
 have HY := Aside0.mk hby
 have HL := Aside0.mk hlt
 have HS := Aside0.mk hS
 have HF := Aside0.mk hf
 have HG := Aside0.mk hg
 clear hT hby hlt hS hf hg
 go_enter Try.func103, Try.ntmps103
 go_wp2
 go_loopg [5] 64 (fun kq v5 w' => ∃ (i : Nat) (cs : Array Value), v5 = .int .i64 (i : Int) ∧ Aside0 (i + kq = 64) ∧ Aside0 (w'.heap[g]? = some (.cells cs 138 (0, 0))) ∧ Aside0 (w'.heap[gt]? = some (.cells ct 67 (0, 0))) ∧ Aside0 (Sta (fun n => if n < i then by_ (f n) else f n) cs) ∧ Aside0 (Below g w w'))
 case atStart => exact ⟨0, _, rfl, ⟨rfl⟩, HS, HT, ⟨HF.out.congr (fun n _ => by rw [if_neg (by omega)])⟩, HB⟩
 case round =>
  clear HS HT HB
  obtain ⟨i, cs, rfl, HM, HS, HT, HW, HB⟩ := hrel
  cases gk with
  | zero =>
   obtain rfl : i = 64 := by have := HM.out; omega
   go_wp2
   go_end0
   exact ⟨rfl, ⟨cs, HS.out, HW.out.congr (fun n hn => by rw [if_pos hn])⟩, HB.out⟩
  | succ k2 =>
   have hi : i < 64 := by have := HM.out; omega
   have HI := Aside0.mk hi
   have d0 : decide ((i : Int) < 64) = true := decide_eq_true (by omega)
   have d1 : decide (i < 64) = true := decide_eq_true hi
   have p0 : ((i : Int) < 64) = True := eq_true (by omega)
   have fl : f i < 256 := by have := HF.out.lt i hi; omega
   have p1 : ((f i : Int) < 256) = True := eq_true (by omega)
   have hc : wr.cell? ⟨g, i, none⟩ = some (.int .u8 (f i : Int)) := (blk_cell HS.out i).trans (by rw [HW.out.cell i hi, if_neg (by omega)])
   have hz : wr.frozen? ⟨g, i, none⟩ = false := blk_frozen HS.out i
   have ht : wr.cell? ⟨gt, off + f i, none⟩ = some (.int .u8 (by_ (f i) : Int)) := (blk_cell HT.out _).trans (HY.out _ fl)
   clear hi
   go_wp2
   go_still_tail 13, (by kernel_rfl)
   change wpList _ _ _ _ _ wr.drew
   replace HS := Aside0.mk (blk_drew HS.out)
   replace HT := Aside0.mk (blk_drew HT.out)
   replace HB := Aside0.mk (below_drew1 HB.out)
   clear hc hz ht
   generalize wr.drew = w4 at HS HT HB ⊢
   have hc : w4.cell? ⟨g, i, none⟩ = some (.int .u8 (f i : Int)) := (blk_cell HS.out i).trans (by rw [HW.out.cell i HI.out, if_neg (by omega)])
   have hz : w4.frozen? ⟨g, i, none⟩ = false := blk_frozen HS.out i
   go_wp2
   go_roundg k2
   case measure => omega
   case rel =>
    have hi := HI.out
    refine ⟨i + 1, _, by rw [show wrap64 ((i : Int) + 1) = ((i + 1 : Nat) : Int) by unfold wrap64; omega], ⟨by have := HM.out; omega⟩, ⟨blk_put HS.out i _ rfl⟩, ⟨blk_far HT.out (Nat.ne_of_lt HG.out) _⟩, ⟨HW.out.set HI.out (HL.out _ fl) rfl (fun n hn => ?_)⟩, ⟨HB.out.setCell (Nat.le_refl _) _⟩⟩
    by_cases c : n = i
    · subst c
      rw [if_pos (by omega), if_pos rfl]
    · rw [if_neg c]
      by_cases c2 : n < i
      · rw [if_pos (by omega), if_pos c2]
      · rw [if_neg (by omega), if_neg c2]
end Go.Proofs.Ytmibjgjgfombaaa.P
end

section
/- The round's numbers are added to a state (layer 10). Conditions: those that each theorem names. Printed by gen_st.py. -/
set_option linter.unusedVariables false
set_option linter.unusedSimpArgs false
set_option maxRecDepth 100000
namespace Go.Proofs.Ytmibjgjgfombaaa.P
open Go.RowKit Go.Proofs.YtmibjgjgfombaaaX Go.Proofs.YtmibjgjgfombaaaW.PrintWords Go.Proofs.YtmibjgjgfombaaaW.PrintLast Go.Proofs.YtmibjgjgfombaaaW.PrintMore
/-- The row that a round's numbers are added to. -/
def rowF (q : Bool) : Nat := if q then 7 else 0
/-- A state to which a round's numbers are added. -/
def addF (q : Bool) (r : Nat) (f : Nat → Nat) (n : Nat) : Nat :=
  if n % 8 = rowF q then (if q then f n ^^^ 255 else f n) ^^^ ((16 * (n / 8) + r) % 256) else if q then f n ^^^ 255 else f n
set_option maxHeartbeats 8000000 in
set_option maxRecDepth 100000 in
theorem add_true {g r : Nat} {cs : Array Value} {w : World} {f : Nat → Nat} (hr : r < 6) (hS : w.heap[g]? = some (.cells cs 138 (0, 0))) (hf : Sta f cs) :
  Calls Try.prog 102 #[.pointer (some ⟨g, 0, none⟩), .bool true, .int .i64 (r : Int)] w fun e w' => e = .returned (.tuple #[]) ∧ (∃ cs', w'.heap[g]? = some (.cells cs' 138 (0, 0)) ∧ Sta (addF true r f) cs') ∧ Below g w w' := by
 have HB := Aside0.mk (Below.refl g w)
 have HS := Aside0.mk hS
 have HF := Aside0.mk hf
 have HR := Aside0.mk hr
 clear hS hf hr
 go_enter Try.func102, Try.ntmps102
 go_wp2
 go_loopg [10] 64 (fun kq v10 w' => ∃ (i : Nat) (cs : Array Value), v10 = .int .i64 (i : Int) ∧ Aside0 (i + kq = 64) ∧ Aside0 (w'.heap[g]? = some (.cells cs 138 (0, 0))) ∧ Aside0 (Sta (fun n => if n < i then f n ^^^ 255 else f n) cs) ∧ Aside0 (Below g w w'))
 case atStart => exact ⟨0, _, rfl, ⟨rfl⟩, HS, ⟨HF.out.congr (fun n _ => by rw [if_neg (by omega)])⟩, HB⟩
 case round =>
  clear HS HB
  obtain ⟨i, cs, rfl, HM, HS, HW, HB⟩ := hrel
  cases gk with
  | succ k2 =>
   have hi : i < 64 := by have := HM.out; omega
   have HI := Aside0.mk hi
   have d0 : decide ((i : Int) < 64) = true := decide_eq_true (by omega)
   have d1 : decide (i < 64) = true := decide_eq_true hi
   have p0 : ((i : Int) < 64) = True := eq_true (by omega)
   have fl : f i < 256 := by have := HF.out.lt i hi; omega
   have hc : wr.cell? ⟨g, i, none⟩ = some (.int .u8 (f i : Int)) := (blk_cell HS.out i).trans (by rw [HW.out.cell i hi, if_neg (by omega)])
   have hx : Go.bits .xor .u8 (f i : Int) 255 = ((f i ^^^ 255 : Nat) : Int) := u8_xor (f i) 255 fl (by decide)
   clear hi
   go_wp2
   go_still_tail 8, (by kernel_rfl)
   change wpList _ _ _ _ _ wr.drew
   replace HS := Aside0.mk (blk_drew HS.out)
   replace HB := Aside0.mk (below_drew1 HB.out)
   have HX := Aside0.mk hx
   clear hc hx
   generalize wr.drew = w4 at HS HB ⊢
   have hc : w4.cell? ⟨g, i, none⟩ = some (.int .u8 (f i : Int)) := (blk_cell HS.out i).trans (by rw [HW.out.cell i HI.out, if_neg (by omega)])
   have hz : w4.frozen? ⟨g, i, none⟩ = false := blk_frozen HS.out i
   go_wp2
   go_roundg k2
   case measure => omega
   case rel =>
    have hi := HI.out
    refine ⟨i + 1, _, by rw [show wrap64 ((i : Int) + 1) = ((i + 1 : Nat) : Int) by unfold wrap64; omega], ⟨by have := HM.out; omega⟩, ⟨blk_put HS.out i _ rfl⟩, ⟨HW.out.set HI.out (xor_lt fl (by decide)) rfl (fun n hn => ?_)⟩, ⟨HB.out.setCell (Nat.le_refl _) _⟩⟩
    by_cases c : n = i
    · subst c
      rw [if_pos (by omega), if_pos rfl]
    · rw [if_neg c]
      by_cases c2 : n < i
      · rw [if_pos (by omega), if_pos c2]
      · rw [if_neg (by omega), if_neg c2]
  | zero =>
   obtain rfl : i = 64 := by have := HM.out; omega
   replace HF := Aside0.mk (HW.out.congr (f' := fun n => f n ^^^ 255) (fun n hn => by rw [if_pos hn]))
   clear HM HW
   go_wp2
   go_loopg [22] 8 (fun kq v22 w' => ∃ (i : Nat) (cs : Array Value), v22 = .int .i64 (i : Int) ∧ Aside0 (i + kq = 8) ∧ Aside0 (w'.heap[g]? = some (.cells cs 138 (0, 0))) ∧ Aside0 (Sta (fun n => if n % 8 = 7 ∧ n / 8 < i then (f n ^^^ 255) ^^^ ((16 * (n / 8) + r) % 256) else (f n ^^^ 255)) cs) ∧ Aside0 (Below g w w'))
   case atStart => exact ⟨0, _, rfl, ⟨rfl⟩, HS, ⟨HF.out.congr (fun n _ => by rw [if_neg (by omega)])⟩, HB⟩
   case round =>
    clear HS HB
    obtain ⟨i, cs, rfl, HM, HS, HW, HB⟩ := hrel
    cases gk with
    | zero =>
     obtain rfl : i = 8 := by have := HM.out; omega
     clear HM
     go_wp2
     go_end0
     refine ⟨rfl, ⟨cs, HS.out, HW.out.congr (fun n hn => ?_)⟩, HB.out⟩
     unfold addF
     simp only [rowF, if_true, if_false, Bool.false_eq_true, reduceIte]
     by_cases c : n % 8 = 7
     · rw [if_pos c, if_pos ⟨c, by omega⟩]
     · rw [if_neg c, if_neg (fun h => c h.1)]
    | succ k2 =>
     have hi : i < 8 := by have := HM.out; omega
     have HI := Aside0.mk hi
     have d0 : decide ((i : Int) < 8) = true := decide_eq_true (by omega)
     have d1 : decide (i < 8) = true := decide_eq_true hi
     have p0 : (8 * (i : Int) + 7 < 64) = True := eq_true (by omega)
     have p1 : (8 * (i : Int) < 64) = True := eq_true (by omega)
     have p2 : (8 * i < 64) = True := eq_true (by omega)
     have p3 : (0 ≤ 8 * (i : Int) + 7) = True := eq_true (by omega)
     have p4 : (0 ≤ 8 * (i : Int)) = True := eq_true (by omega)
     have q0 : wrap64 (8 * (i : Int)) = 8 * (i : Int) := by unfold wrap64; omega
     have q1 : wrap64 (8 * (i : Int) + 7) = 8 * (i : Int) + 7 := by unfold wrap64; omega
     have q2 : wrap64 (16 * (i : Int)) = 16 * (i : Int) := by unfold wrap64; omega
     have q3 : wrap64 (16 * (i : Int) + (r : Int)) = 16 * (i : Int) + (r : Int) := by have := HR.out; unfold wrap64; omega
     have s0 : IntKind.i64.wrap (8 * (i : Int)) = 8 * (i : Int) := (i64_w _).trans q0
     have s1 : IntKind.i64.wrap (8 * (i : Int) + 7) = 8 * (i : Int) + 7 := (i64_w _).trans q1
     have s2 : IntKind.i64.wrap (16 * (i : Int)) = 16 * (i : Int) := (i64_w _).trans q2
     have s3 : IntKind.i64.wrap (16 * (i : Int) + (r : Int)) = 16 * (i : Int) + (r : Int) := (i64_w _).trans q3
     have t0 : (8 * (i : Int) + 7).toNat = 8 * i + 7 := by omega
     have t1 : (8 * (i : Int)).toNat = 8 * i := by omega
     have fl : f (8 * i + 7) ^^^ 255 < 256 := by
      have h := HW.out.lt (8 * i + 7) (by omega)
      rw [if_neg (by omega)] at h
      exact h
     have hc : wr.cell? ⟨g, 8 * i + 7, none⟩ = some (.int .u8 ((f (8 * i + 7) ^^^ 255 : Nat) : Int)) := (blk_cell HS.out (8 * i + 7)).trans (by rw [HW.out.cell (8 * i + 7) (by omega), if_neg (by omega)])
     have hx : Go.bits .xor .u8 ((f (8 * i + 7) ^^^ 255 : Nat) : Int) ((16 * (i : Int) + (r : Int)) % 256) = (((f (8 * i + 7) ^^^ 255) ^^^ ((16 * i + r) % 256) : Nat) : Int) := u8_xor (f (8 * i + 7) ^^^ 255) ((16 * i + r) % 256) fl (by omega)
     clear hi q0 q1 q2 q3
     go_wp2
     go_still_tail 15, (by kernel_rfl)
     change wpList _ _ _ _ _ wr.drew
     replace HS := Aside0.mk (blk_drew HS.out)
     replace HB := Aside0.mk (below_drew1 HB.out)
     have HX := Aside0.mk hx
     clear hc hx
     generalize wr.drew = w4 at HS HB ⊢
     have hc : w4.cell? ⟨g, 8 * i + 7, none⟩ = some (.int .u8 ((f (8 * i + 7) ^^^ 255 : Nat) : Int)) := (blk_cell HS.out (8 * i + 7)).trans (by have := HI.out; rw [HW.out.cell (8 * i + 7) (by omega), if_neg (by omega)])
     have hz : w4.frozen? ⟨g, 8 * i + 7, none⟩ = false := blk_frozen HS.out _
     go_wp2
     go_roundg k2
     case measure => omega
     case rel =>
      have hi := HI.out
      refine ⟨i + 1, _, by rw [show wrap64 ((i : Int) + 1) = ((i + 1 : Nat) : Int) by unfold wrap64; omega], ⟨by have := HM.out; omega⟩, ⟨blk_put HS.out (8 * i + 7) _ rfl⟩, ⟨HW.out.set (by omega) (xor_lt fl (Nat.mod_lt _ (by decide))) HX.out (fun n hn => ?_)⟩, ⟨HB.out.setCell (Nat.le_refl _) _⟩⟩
      by_cases c : n = 8 * i + 7
      · subst c
        rw [if_pos (by omega), if_pos rfl, show (8 * i + 7) / 8 = i by omega]
      · rw [if_neg c]
        by_cases c2 : n % 8 = 7 ∧ n / 8 < i
        · rw [if_pos (by omega), if_pos c2]
        · rw [if_neg (by omega), if_neg c2]
set_option maxHeartbeats 8000000 in
set_option maxRecDepth 100000 in
theorem add_false {g r : Nat} {cs : Array Value} {w : World} {f : Nat → Nat} (hr : r < 6) (hS : w.heap[g]? = some (.cells cs 138 (0, 0))) (hf : Sta f cs) :
  Calls Try.prog 102 #[.pointer (some ⟨g, 0, none⟩), .bool false, .int .i64 (r : Int)] w fun e w' => e = .returned (.tuple #[]) ∧ (∃ cs', w'.heap[g]? = some (.cells cs' 138 (0, 0)) ∧ Sta (addF false r f) cs') ∧ Below g w w' := by
 have HB := Aside0.mk (Below.refl g w)
 have HS := Aside0.mk hS
 have HF := Aside0.mk hf
 have HR := Aside0.mk hr
 clear hS hf hr
 go_enter Try.func102, Try.ntmps102
 go_wp2
 go_loopg [22] 8 (fun kq v22 w' => ∃ (i : Nat) (cs : Array Value), v22 = .int .i64 (i : Int) ∧ Aside0 (i + kq = 8) ∧ Aside0 (w'.heap[g]? = some (.cells cs 138 (0, 0))) ∧ Aside0 (Sta (fun n => if n % 8 = 0 ∧ n / 8 < i then (f n) ^^^ ((16 * (n / 8) + r) % 256) else (f n)) cs) ∧ Aside0 (Below g w w'))
 case atStart => exact ⟨0, _, rfl, ⟨rfl⟩, HS, ⟨HF.out.congr (fun n _ => by rw [if_neg (by omega)])⟩, HB⟩
 case round =>
  clear HS HB
  obtain ⟨i, cs, rfl, HM, HS, HW, HB⟩ := hrel
  cases gk with
  | zero =>
   obtain rfl : i = 8 := by have := HM.out; omega
   clear HM
   go_wp2
   go_end0
   refine ⟨rfl, ⟨cs, HS.out, HW.out.congr (fun n hn => ?_)⟩, HB.out⟩
   unfold addF
   simp only [rowF, if_true, if_false, Bool.false_eq_true, reduceIte]
   by_cases c : n % 8 = 0
   · rw [if_pos c, if_pos ⟨c, by omega⟩]
   · rw [if_neg c, if_neg (fun h => c h.1)]
  | succ k2 =>
   have hi : i < 8 := by have := HM.out; omega
   have HI := Aside0.mk hi
   have d0 : decide ((i : Int) < 8) = true := decide_eq_true (by omega)
   have d1 : decide (i < 8) = true := decide_eq_true hi
   have p0 : (8 * (i : Int) < 64) = True := eq_true (by omega)
   have p2 : (8 * i < 64) = True := eq_true (by omega)
   have p3 : (0 ≤ 8 * (i : Int)) = True := eq_true (by omega)
   have q0 : wrap64 (8 * (i : Int)) = 8 * (i : Int) := by unfold wrap64; omega
   have q1_ : wrap64 (8 * (i : Int)) = 8 * (i : Int) := by unfold wrap64; omega
   have q2 : wrap64 (16 * (i : Int)) = 16 * (i : Int) := by unfold wrap64; omega
   have q3 : wrap64 (16 * (i : Int) + (r : Int)) = 16 * (i : Int) + (r : Int) := by have := HR.out; unfold wrap64; omega
   have s0 : IntKind.i64.wrap (8 * (i : Int)) = 8 * (i : Int) := (i64_w _).trans q0
   have s2 : IntKind.i64.wrap (16 * (i : Int)) = 16 * (i : Int) := (i64_w _).trans q2
   have s3 : IntKind.i64.wrap (16 * (i : Int) + (r : Int)) = 16 * (i : Int) + (r : Int) := (i64_w _).trans q3
   have t0 : (8 * (i : Int)).toNat = 8 * i := by omega
   have fl : f (8 * i) < 256 := by
    have h := HW.out.lt (8 * i) (by omega)
    rw [if_neg (by omega)] at h
    exact h
   have hc : wr.cell? ⟨g, 8 * i, none⟩ = some (.int .u8 ((f (8 * i) : Nat) : Int)) := (blk_cell HS.out (8 * i)).trans (by rw [HW.out.cell (8 * i) (by omega), if_neg (by omega)])
   have hx : Go.bits .xor .u8 ((f (8 * i) : Nat) : Int) ((16 * (i : Int) + (r : Int)) % 256) = (((f (8 * i)) ^^^ ((16 * i + r) % 256) : Nat) : Int) := u8_xor (f (8 * i)) ((16 * i + r) % 256) fl (by omega)
   clear hi q0 q1_ q2 q3
   go_wp2
   go_still_tail 15, (by kernel_rfl)
   change wpList _ _ _ _ _ wr.drew
   replace HS := Aside0.mk (blk_drew HS.out)
   replace HB := Aside0.mk (below_drew1 HB.out)
   have HX := Aside0.mk hx
   clear hc hx
   generalize wr.drew = w4 at HS HB ⊢
   have hc : w4.cell? ⟨g, 8 * i, none⟩ = some (.int .u8 ((f (8 * i) : Nat) : Int)) := (blk_cell HS.out (8 * i)).trans (by have := HI.out; rw [HW.out.cell (8 * i) (by omega), if_neg (by omega)])
   have hz : w4.frozen? ⟨g, 8 * i, none⟩ = false := blk_frozen HS.out _
   go_wp2
   go_roundg k2
   case measure => omega
   case rel =>
    have hi := HI.out
    refine ⟨i + 1, _, by rw [show wrap64 ((i : Int) + 1) = ((i + 1 : Nat) : Int) by unfold wrap64; omega], ⟨by have := HM.out; omega⟩, ⟨blk_put HS.out (8 * i) _ rfl⟩, ⟨HW.out.set (by omega) (xor_lt fl (Nat.mod_lt _ (by decide))) HX.out (fun n hn => ?_)⟩, ⟨HB.out.setCell (Nat.le_refl _) _⟩⟩
    by_cases c : n = 8 * i
    · subst c
      rw [if_pos (by omega), if_pos rfl, show (8 * i) / 8 = i by omega]
    · rw [if_neg c]
      by_cases c2 : n % 8 = 0 ∧ n / 8 < i
      · rw [if_pos (by omega), if_pos c2]
      · rw [if_neg (by omega), if_neg c2]
theorem add_calls {g r : Nat} {cs : Array Value} {w : World} {f : Nat → Nat} (q : Bool) (hr : r < 6) (hS : w.heap[g]? = some (.cells cs 138 (0, 0))) (hf : Sta f cs) :
  Calls Try.prog 102 #[.pointer (some ⟨g, 0, none⟩), .bool q, .int .i64 (r : Int)] w fun e w' => e = .returned (.tuple #[]) ∧ (∃ cs', w'.heap[g]? = some (.cells cs' 138 (0, 0)) ∧ Sta (addF q r f) cs') ∧ Below g w w' := by
  cases q
  · exact add_false hr hS hf
  · exact add_true hr hS hf
end Go.Proofs.Ytmibjgjgfombaaa.P
end

section
/- Rows of a state are turned (layer 10). Conditions: those that each theorem names. Printed by gen_st.py. -/
set_option linter.unusedVariables false
set_option linter.unusedSimpArgs false
set_option maxRecDepth 100000
namespace Go.Proofs.Ytmibjgjgfombaaa.P
open Go.RowKit Go.Proofs.YtmibjgjgfombaaaX Go.Proofs.YtmibjgjgfombaaaW.PrintWords Go.Proofs.YtmibjgjgfombaaaW.PrintLast Go.Proofs.YtmibjgjgfombaaaW.PrintMore
/-- By how much each row is turned. -/
def turnL (q : Bool) : List Nat := if q then [1, 3, 5, 7, 0, 2, 4, 6] else [0, 1, 2, 3, 4, 5, 6, 7]
def tOf (q : Bool) (r : Nat) : Nat := (turnL q).getD r 0
theorem tOf_lt (q : Bool) (r : Nat) : tOf q r < 8 := by
  by_cases h : r < 8
  · have c : r = 0 ∨ r = 1 ∨ r = 2 ∨ r = 3 ∨ r = 4 ∨ r = 5 ∨ r = 6 ∨ r = 7 := by omega
    rcases c with rfl | rfl | rfl | rfl | rfl | rfl | rfl | rfl <;> cases q <;> decide
  · have e : tOf q r = 0 := by
      unfold tOf
      rw [List.getD_eq_getElem?_getD, List.getElem?_eq_none (by cases q <;> exact Nat.le_of_not_lt h)]
      rfl
    omega
/-- A state whose rows are turned, or turned back. -/
def turnF (q back : Bool) (f : Nat → Nat) (n : Nat) : Nat :=
  f (8 * (if back then (n / 8 + 8 - tOf q (n % 8)) % 8 else (n / 8 + tOf q (n % 8)) % 8) + n % 8)
def colF (back : Bool) (t m : Nat) : Nat := if back then (m + 8 - t) % 8 else m
def zSt : Array Value := (List.replicate 64 (Value.int .u8 0)).toArray
theorem zSt_size : zSt.size = 64 := by rw [zSt, List.size_toArray, List.length_replicate]
theorem zSt_at {n : Nat} (h : n < 64) : zSt[n]? = some (.int .u8 0) := by
  rw [zSt, List.getElem?_toArray, List.getElem?_replicate, if_pos h]
theorem zSt_info : (Try.prog.info? 138).map (fun i => (i.zero, i.size)) = some (some (.agg zSt), 64) := by kernel_rfl
theorem sta_info {cs : Array Value} {f : Nat → Nat} (h : Sta f cs) : (Try.prog.info? 138).map (·.size) = some cs.size := by
  rw [h.size]
  kernel_rfl
theorem sta_one {cs : Array Value} {f : Nat → Nat} (h : Sta f cs) : cs.all (·.oneCell') = true := by
  rw [Array.all_eq_true]
  intro i hi
  have e := h.cell i (by have := h.size; omega)
  rw [Array.getElem?_eq_getElem hi] at e
  rw [Option.some.inj e]
  rfl
theorem zero_st (w : World) : Sem.run Try.prog (zeroValue 138) w = .ok (.agg zSt) w := by
  have hi := zSt_info
  cases h : Try.prog.info? 138 with
  | none => rw [h] at hi; cases hi
  | some t =>
    rw [h] at hi
    simp only [Option.map_some, Option.some.injEq, Prod.mk.injEq] at hi
    unfold zeroValue
    simp [typeInfo, h, hi.1]
attribute [local go_sem] zero_st
theorem below_far {g : Nat} {w W w1 : World} (h : Below g w W) (hg : g < w.heap.size) (hb : Below W.heap.size W w1) : Below g w w1 := by
  have := h.size
  exact h.trans (hb.mono (by omega))
theorem blk_setRow {w : World} {g g2 : Nat} {o : Obj} (h : w.heap[g]? = some o) (hne : g ≠ g2) (cs : Array Value) : (w.setRow g2 cs).heap[g]? = some o := (setRow_other w g2 g cs hne).trans h
theorem turn_index_true {a : Act} {o : Oper} {W : World} {j : Nat} (hj : j < 8) (x y : Operand) (ho : o.op = .index 147 x y) (hx : a.eval x = .agg #[.int .i64 1, .int .i64 3, .int .i64 5, .int .i64 7, .int .i64 0, .int .i64 2, .int .i64 4, .int .i64 6]) (hy : a.eval y = .int .i64 (j : Int)) : (execOp a.eval o).run Try.prog W = .ok (.value (.int .i64 (tOf true j : Int))) W := by
  have c : j = 0 ∨ j = 1 ∨ j = 2 ∨ j = 3 ∨ j = 4 ∨ j = 5 ∨ j = 6 ∨ j = 7 := by omega
  unfold execOp
  simp only [ho, hx, hy]
  rcases c with rfl | rfl | rfl | rfl | rfl | rfl | rfl | rfl
  all_goals go_simp
  all_goals rfl
theorem turn_index_false {a : Act} {o : Oper} {W : World} {j : Nat} (hj : j < 8) (x y : Operand) (ho : o.op = .index 147 x y) (hx : a.eval x = .agg #[.int .i64 0, .int .i64 1, .int .i64 2, .int .i64 3, .int .i64 4, .int .i64 5, .int .i64 6, .int .i64 7]) (hy : a.eval y = .int .i64 (j : Int)) : (execOp a.eval o).run Try.prog W = .ok (.value (.int .i64 (tOf false j : Int))) W := by
  have c : j = 0 ∨ j = 1 ∨ j = 2 ∨ j = 3 ∨ j = 4 ∨ j = 5 ∨ j = 6 ∨ j = 7 := by omega
  unfold execOp
  simp only [ho, hx, hy]
  rcases c with rfl | rfl | rfl | rfl | rfl | rfl | rfl | rfl
  all_goals go_simp
  all_goals rfl
set_option maxHeartbeats 8000000 in
set_option maxRecDepth 100000 in
theorem turn_true_true {g : Nat} {cs : Array Value} {w : World} {f : Nat → Nat} (hS : w.heap[g]? = some (.cells cs 138 (0, 0))) (hf : Sta f cs) :
  Calls Try.prog 104 #[.pointer (some ⟨g, 0, none⟩), .bool true, .bool true] w fun e w' => e = .returned (.tuple #[]) ∧ (∃ cs', w'.heap[g]? = some (.cells cs' 138 (0, 0)) ∧ Sta (turnF true true f) cs') ∧ Below g w w' := by
 have HB := Aside0.mk (Below.refl g w)
 have HS := Aside0.mk hS
 have HF := Aside0.mk hf
 have HI := Aside0.mk (sta_info hf)
 have HGW := Aside0.mk (blk_lt hS)
 clear hS hf
 go_enter Try.func104, Try.ntmps104
 go_wp2_with (first
  | ((with_reducible refine gate_dst (N := 14) rfl ?_); refine wpList_load_row rfl 138 (.tmp 13) rfl g (by rfl) 138 cs (0, 0) _ HS.out Try.underlying138 rfl HI.out ?_)
  | ((with_reducible refine gate_dst (N := 6) rfl ?_); refine box_event ?hg (N := 6) ?hd (cs := zSt) (t := 138) ?hr ?_; (case hd => rfl); (case hg => rfl); (case hr => first | (go_simp; done) | (go_simp; rfl)); intro g2 hg2 w2 hbox hb; have B2 := Aside0.mk hbox; have NG := Aside0.mk (show g ≠ g2 by have := blk_lt HS.out; omega); have G2 := Aside0.mk (show g ≤ g2 by have := blk_lt HS.out; omega); replace HS := Aside0.mk (blk_below HS.out hb); replace HB := Aside0.mk (below_far HB.out HGW.out hb); clear hb hbox hg2)
  | ((with_reducible refine gate_store (t := 138) (p := 6) rfl ?_); refine wpList_store_row rfl 138 (.tmp 6) (.tmp 14) rfl g2 cs (by rfl) (by rfl) 138 _ B2.out HI.out (by rw [HF.out.size, zSt_size]) (sta_one HF.out) ?_; replace HS := Aside0.mk (blk_setRow HS.out NG.out cs); replace HB := Aside0.mk (below_setRow HB.out G2.out cs); replace B2 := Aside0.mk (setRow_heap _ g2 _ cs 138 (0, 0) B2.out); (generalize World.setRow _ g2 cs = w3 at HS HB B2 ⊢))
  | ((with_reducible refine gate_callee (f := 108) rfl ?_); refine goesL_ (some 16) rfl rfl Try.func108 (by kernel_rfl) rfl #[.bool true] rfl (by (try simp only [List.map_toArray, List.map_cons, List.map_nil]); first | done | rfl) ?_; (with_reducible refine (perm_turns.calls true 1 3 5 7 0 2 4 6 _ rfl).mono ?_); rintro e w11 ⟨rfl, hb⟩; refine ⟨_, rfl, ?_⟩; replace HS := Aside0.mk (blk_below HS.out hb); replace B2 := Aside0.mk (blk_below B2.out hb); replace HB := Aside0.mk (below_far HB.out HGW.out hb); clear hb)
  | (go_at_call 108; (with_reducible refine (perm_turns.calls true 1 3 5 7 0 2 4 6 _ rfl).mono ?_); rintro e w11 ⟨rfl, hb⟩; replace HS := Aside0.mk (blk_below HS.out hb); replace B2 := Aside0.mk (blk_below B2.out hb); replace HB := Aside0.mk (below_far HB.out HGW.out hb); clear hb))
 obtain ⟨cs0, e0⟩ : ∃ cs0, cs0 = cs := ⟨_, rfl⟩
 have HF0 : Aside0 (Sta f cs0) := ⟨e0 ▸ HF.out⟩
 have B0 := Aside0.mk (show _ = _ from e0 ▸ B2.out)
 clear B2 e0
 go_loopg [17] 8 (fun kq v17 w' => ∃ (i : Nat) (cs : Array Value), v17 = .int .i64 (i : Int) ∧ Aside0 (i + kq = 8) ∧ Aside0 (w'.heap[g]? = some (.cells cs 138 (0, 0))) ∧ Aside0 (w'.heap[g2]? = some (.cells cs0 138 (0, 0))) ∧ Aside0 (Sta (fun n => if n % 8 < i then turnF true true f n else f n) cs) ∧ Aside0 (Below g w w'))
 case atStart => exact ⟨0, _, rfl, ⟨rfl⟩, HS, B0, ⟨HF.out.congr (fun n _ => by rw [if_neg (by omega)])⟩, HB⟩
 case round =>
  clear HS HB B0 HI HF
  obtain ⟨i, cs, rfl, HM, HS, B0, HW, HB⟩ := hrel
  cases gk with
  | zero =>
   obtain rfl : i = 8 := by have := HM.out; omega
   go_wp2
   go_end0
   exact ⟨rfl, ⟨cs, HS.out, HW.out.congr (fun n hn => by rw [if_pos (by omega)])⟩, HB.out⟩
  | succ k2 =>
   have hi : i < 8 := by have := HM.out; omega
   have HI := Aside0.mk hi
   have d0 : decide ((i : Int) < 8) = true := decide_eq_true (by omega)
   have d1 : decide (i < 8) = true := decide_eq_true hi
   have p0 : ((i : Int) < 8) = True := eq_true (by omega)
   obtain ⟨t, et⟩ : ∃ t : Nat, t = tOf true i := ⟨_, rfl⟩
   have T8 := Aside0.mk (show t < 8 from et ▸ tOf_lt true i)
   have HQ := Aside0.mk et
   clear hi et
   go_wp2_with (first
    | ((with_reducible refine gate_dst (N := 20) rfl ?_); refine Kd.event_run (v := .int .i64 (t : Int)) rfl (HQ.out ▸ turn_index_true HI.out _ _ rfl rfl rfl) ?_))
   obtain ⟨wo, rfl⟩ : ∃ wo : World, wo = wr := ⟨_, rfl⟩
   go_loopg [9, 10, 11, 21] 8 (fun kq v9 v10 v11 v21 w' => ∃ (c : Nat) (cs : Array Value), v21 = .int .i64 (c : Int) ∧ Aside0 (c + kq = 8) ∧ Aside0 (w'.heap[g]? = some (.cells cs 138 (0, 0))) ∧ Aside0 (w'.heap[g2]? = some (.cells cs0 138 (0, 0))) ∧ Aside0 (Sta (fun n => if n % 8 < i ∨ n % 8 = i ∧ colF true (tOf true i) (n / 8) < c then turnF true true f n else f n) cs) ∧ Aside0 (Below g w w'))
   case atStart => exact ⟨0, _, rfl, ⟨rfl⟩, HS, B0, ⟨HW.out.congr (fun n _ => by
     by_cases c : n % 8 < i
     · rw [if_pos c, if_pos (Or.inl c)]
     · rw [if_neg c, if_neg (by omega)])⟩, HB⟩
   case round =>
    clear HS HB B0 HW
    obtain ⟨c, cs, rfl, HC, HS, B0, HW, HB⟩ := hrel
    cases gk with
    | zero =>
     obtain rfl : c = 8 := by have := HC.out; omega
     go_wp2
     go_roundg k2
     case measure => omega
     case rel =>
      have hi := HI.out
      refine ⟨i + 1, cs, by rw [step_1 (by omega)], ⟨by have := HM.out; omega⟩, HS, B0, ⟨HW.out.congr (fun n hn => ?_)⟩, HB⟩
      have hcol : colF true (tOf true i) (n / 8) < 8 := by unfold colF; simp only [if_true, if_false, Bool.false_eq_true, reduceIte]; omega
      by_cases e : n % 8 < i + 1
      · rw [if_pos e, if_pos (by omega)]
      · rw [if_neg e, if_neg (by omega)]
    | succ k3 =>
     have hc8 : c < 8 := by have := HC.out; omega
     have HC8 := Aside0.mk hc8
     have hi := HI.out
     have ht := T8.out
     have d2 : decide ((c : Int) < 8) = true := decide_eq_true (by omega)
     have d3 : decide (c < 8) = true := decide_eq_true hc8
     obtain ⟨d, hd⟩ : ∃ d : Nat, d = (c + t) % 8 := ⟨_, rfl⟩
     have hd8 : d < 8 := by omega
     have HD8 := Aside0.mk hd8
     have HD := Aside0.mk hd
     have LT := Aside0.mk (idx_64 (m := d) (i := i) (by omega) hi)
     have LF := Aside0.mk (HF0.out.lt (8 * c + i) (by omega))
     have hw : wr.cell? ⟨g2, 8 * c + i, none⟩ = some (.int .u8 (f (8 * c + i) : Int)) := (blk_cell B0.out _).trans (HF0.out.cell _ (by omega))
     have md : d < 8 := by omega
     have mc : c < 8 := by omega
     have e1 := idx_sum hc8 ht
     have e2 := idx_mod hd
     have e3 := idx_tmod hd
     have p1 := idx_lt md hi
     have p2 := idx_lt mc hi
     have p3 := idx_ge md hi
     have p4 := idx_ge mc hi
     have s0 := idx_w0 md
     have s1 := idx_w1 md hi
     have s2 := idx_w0 mc
     have s3 := idx_w1 mc hi
     have t0 := idx_nat d i
     have t1 := idx_nat c i
     clear hc8 hi ht hd hd8 md mc
     go_wp2
     go_still_tail 12, (by kernel_rfl)
     change wpList _ _ _ _ _ wr.drew
     replace HS := Aside0.mk (blk_drew HS.out)
     replace B0 := Aside0.mk (blk_drew B0.out)
     replace HB := Aside0.mk (below_drew1 HB.out)
     clear hw e1 e2 e3 s2 s3 p2 p4 t1
     generalize wr.drew = w4 at HS HB B0 ⊢
     have hc : w4.cell? ⟨g, 8 * d + i, none⟩ = some (.int .u8 ((if (8 * d + i) % 8 < i ∨ (8 * d + i) % 8 = i ∧ colF true (tOf true i) ((8 * d + i) / 8) < c then turnF true true f (8 * d + i) else f (8 * d + i) : Nat) : Int)) := (blk_cell HS.out _).trans (HW.out.cell _ LT.out)
     generalize ((if (8 * d + i) % 8 < i ∨ (8 * d + i) % 8 = i ∧ colF true (tOf true i) ((8 * d + i) / 8) < c then turnF true true f (8 * d + i) else f (8 * d + i) : Nat) : Int) = old at hc
     have hz : w4.frozen? ⟨g, 8 * d + i, none⟩ = false := blk_frozen HS.out _
     go_wp2
     clear s0 s1 p1 p3 t0 hc hz
     go_roundg k3
     case measure => omega
     case rel =>
      have hc8 := HC8.out
      have hi := HI.out
      have ht := T8.out
      have hd := HD.out
      have hq := HQ.out
      refine ⟨c + 1, _, by rw [step_1 (by omega)], ⟨by have := HC.out; omega⟩, ⟨blk_put HS.out (8 * d + i) _ rfl⟩, ⟨blk_far B0.out (Ne.symm NG.out) _⟩, ⟨HW.out.set LT.out LF.out rfl (fun n hn => ?_)⟩, ⟨HB.out.setCell (Nat.le_refl _) _⟩⟩
      unfold colF
      simp only [if_true, if_false, Bool.false_eq_true, reduceIte]
      rw [← hq]
      by_cases e : n = 8 * d + i
      · subst e
        rw [if_pos (by omega), if_pos rfl]
        unfold turnF
        simp only [if_true, if_false, Bool.false_eq_true, reduceIte]
        rw [show (8 * d + i) % 8 = i by omega, show (8 * d + i) / 8 = d by omega, ← hq]
        congr 1
        omega
      · rw [if_neg e]
        by_cases e2 : n % 8 < i ∨ n % 8 = i ∧ (n / 8 + 8 - t) % 8 < c
        · rw [if_pos (by omega), if_pos e2]
        · rw [if_neg (by omega), if_neg e2]
set_option maxHeartbeats 8000000 in
set_option maxRecDepth 100000 in
theorem turn_true_false {g : Nat} {cs : Array Value} {w : World} {f : Nat → Nat} (hS : w.heap[g]? = some (.cells cs 138 (0, 0))) (hf : Sta f cs) :
  Calls Try.prog 104 #[.pointer (some ⟨g, 0, none⟩), .bool true, .bool false] w fun e w' => e = .returned (.tuple #[]) ∧ (∃ cs', w'.heap[g]? = some (.cells cs' 138 (0, 0)) ∧ Sta (turnF true false f) cs') ∧ Below g w w' := by
 have HB := Aside0.mk (Below.refl g w)
 have HS := Aside0.mk hS
 have HF := Aside0.mk hf
 have HI := Aside0.mk (sta_info hf)
 have HGW := Aside0.mk (blk_lt hS)
 clear hS hf
 go_enter Try.func104, Try.ntmps104
 go_wp2_with (first
  | ((with_reducible refine gate_dst (N := 14) rfl ?_); refine wpList_load_row rfl 138 (.tmp 13) rfl g (by rfl) 138 cs (0, 0) _ HS.out Try.underlying138 rfl HI.out ?_)
  | ((with_reducible refine gate_dst (N := 6) rfl ?_); refine box_event ?hg (N := 6) ?hd (cs := zSt) (t := 138) ?hr ?_; (case hd => rfl); (case hg => rfl); (case hr => first | (go_simp; done) | (go_simp; rfl)); intro g2 hg2 w2 hbox hb; have B2 := Aside0.mk hbox; have NG := Aside0.mk (show g ≠ g2 by have := blk_lt HS.out; omega); have G2 := Aside0.mk (show g ≤ g2 by have := blk_lt HS.out; omega); replace HS := Aside0.mk (blk_below HS.out hb); replace HB := Aside0.mk (below_far HB.out HGW.out hb); clear hb hbox hg2)
  | ((with_reducible refine gate_store (t := 138) (p := 6) rfl ?_); refine wpList_store_row rfl 138 (.tmp 6) (.tmp 14) rfl g2 cs (by rfl) (by rfl) 138 _ B2.out HI.out (by rw [HF.out.size, zSt_size]) (sta_one HF.out) ?_; replace HS := Aside0.mk (blk_setRow HS.out NG.out cs); replace HB := Aside0.mk (below_setRow HB.out G2.out cs); replace B2 := Aside0.mk (setRow_heap _ g2 _ cs 138 (0, 0) B2.out); (generalize World.setRow _ g2 cs = w3 at HS HB B2 ⊢))
  | ((with_reducible refine gate_callee (f := 108) rfl ?_); refine goesL_ (some 16) rfl rfl Try.func108 (by kernel_rfl) rfl #[.bool true] rfl (by (try simp only [List.map_toArray, List.map_cons, List.map_nil]); first | done | rfl) ?_; (with_reducible refine (perm_turns.calls true 1 3 5 7 0 2 4 6 _ rfl).mono ?_); rintro e w11 ⟨rfl, hb⟩; refine ⟨_, rfl, ?_⟩; replace HS := Aside0.mk (blk_below HS.out hb); replace B2 := Aside0.mk (blk_below B2.out hb); replace HB := Aside0.mk (below_far HB.out HGW.out hb); clear hb)
  | (go_at_call 108; (with_reducible refine (perm_turns.calls true 1 3 5 7 0 2 4 6 _ rfl).mono ?_); rintro e w11 ⟨rfl, hb⟩; replace HS := Aside0.mk (blk_below HS.out hb); replace B2 := Aside0.mk (blk_below B2.out hb); replace HB := Aside0.mk (below_far HB.out HGW.out hb); clear hb))
 obtain ⟨cs0, e0⟩ : ∃ cs0, cs0 = cs := ⟨_, rfl⟩
 have HF0 : Aside0 (Sta f cs0) := ⟨e0 ▸ HF.out⟩
 have B0 := Aside0.mk (show _ = _ from e0 ▸ B2.out)
 clear B2 e0
 go_loopg [17] 8 (fun kq v17 w' => ∃ (i : Nat) (cs : Array Value), v17 = .int .i64 (i : Int) ∧ Aside0 (i + kq = 8) ∧ Aside0 (w'.heap[g]? = some (.cells cs 138 (0, 0))) ∧ Aside0 (w'.heap[g2]? = some (.cells cs0 138 (0, 0))) ∧ Aside0 (Sta (fun n => if n % 8 < i then turnF true false f n else f n) cs) ∧ Aside0 (Below g w w'))
 case atStart => exact ⟨0, _, rfl, ⟨rfl⟩, HS, B0, ⟨HF.out.congr (fun n _ => by rw [if_neg (by omega)])⟩, HB⟩
 case round =>
  clear HS HB B0 HI HF
  obtain ⟨i, cs, rfl, HM, HS, B0, HW, HB⟩ := hrel
  cases gk with
  | zero =>
   obtain rfl : i = 8 := by have := HM.out; omega
   go_wp2
   go_end0
   exact ⟨rfl, ⟨cs, HS.out, HW.out.congr (fun n hn => by rw [if_pos (by omega)])⟩, HB.out⟩
  | succ k2 =>
   have hi : i < 8 := by have := HM.out; omega
   have HI := Aside0.mk hi
   have d0 : decide ((i : Int) < 8) = true := decide_eq_true (by omega)
   have d1 : decide (i < 8) = true := decide_eq_true hi
   have p0 : ((i : Int) < 8) = True := eq_true (by omega)
   obtain ⟨t, et⟩ : ∃ t : Nat, t = tOf true i := ⟨_, rfl⟩
   have T8 := Aside0.mk (show t < 8 from et ▸ tOf_lt true i)
   have HQ := Aside0.mk et
   clear hi et
   go_wp2_with (first
    | ((with_reducible refine gate_dst (N := 20) rfl ?_); refine Kd.event_run (v := .int .i64 (t : Int)) rfl (HQ.out ▸ turn_index_true HI.out _ _ rfl rfl rfl) ?_))
   obtain ⟨wo, rfl⟩ : ∃ wo : World, wo = wr := ⟨_, rfl⟩
   go_loopg [9, 10, 11, 21] 8 (fun kq v9 v10 v11 v21 w' => ∃ (c : Nat) (cs : Array Value), v21 = .int .i64 (c : Int) ∧ Aside0 (c + kq = 8) ∧ Aside0 (w'.heap[g]? = some (.cells cs 138 (0, 0))) ∧ Aside0 (w'.heap[g2]? = some (.cells cs0 138 (0, 0))) ∧ Aside0 (Sta (fun n => if n % 8 < i ∨ n % 8 = i ∧ colF false (tOf true i) (n / 8) < c then turnF true false f n else f n) cs) ∧ Aside0 (Below g w w'))
   case atStart => exact ⟨0, _, rfl, ⟨rfl⟩, HS, B0, ⟨HW.out.congr (fun n _ => by
     by_cases c : n % 8 < i
     · rw [if_pos c, if_pos (Or.inl c)]
     · rw [if_neg c, if_neg (by omega)])⟩, HB⟩
   case round =>
    clear HS HB B0 HW
    obtain ⟨c, cs, rfl, HC, HS, B0, HW, HB⟩ := hrel
    cases gk with
    | zero =>
     obtain rfl : c = 8 := by have := HC.out; omega
     go_wp2
     go_roundg k2
     case measure => omega
     case rel =>
      have hi := HI.out
      refine ⟨i + 1, cs, by rw [step_1 (by omega)], ⟨by have := HM.out; omega⟩, HS, B0, ⟨HW.out.congr (fun n hn => ?_)⟩, HB⟩
      have hcol : colF false (tOf true i) (n / 8) < 8 := by unfold colF; simp only [if_true, if_false, Bool.false_eq_true, reduceIte]; omega
      by_cases e : n % 8 < i + 1
      · rw [if_pos e, if_pos (by omega)]
      · rw [if_neg e, if_neg (by omega)]
    | succ k3 =>
     have hc8 : c < 8 := by have := HC.out; omega
     have HC8 := Aside0.mk hc8
     have hi := HI.out
     have ht := T8.out
     have d2 : decide ((c : Int) < 8) = true := decide_eq_true (by omega)
     have d3 : decide (c < 8) = true := decide_eq_true hc8
     obtain ⟨d, hd⟩ : ∃ d : Nat, d = (c + t) % 8 := ⟨_, rfl⟩
     have hd8 : d < 8 := by omega
     have HD8 := Aside0.mk hd8
     have HD := Aside0.mk hd
     have LT := Aside0.mk (idx_64 (m := c) (i := i) (by omega) hi)
     have LF := Aside0.mk (HF0.out.lt (8 * d + i) (by omega))
     have hw : wr.cell? ⟨g2, 8 * d + i, none⟩ = some (.int .u8 (f (8 * d + i) : Int)) := (blk_cell B0.out _).trans (HF0.out.cell _ (by omega))
     have mc : c < 8 := by omega
     have md : d < 8 := by omega
     have e1 := idx_sum hc8 ht
     have e2 := idx_mod hd
     have e3 := idx_tmod hd
     have p1 := idx_lt mc hi
     have p2 := idx_lt md hi
     have p3 := idx_ge mc hi
     have p4 := idx_ge md hi
     have s0 := idx_w0 mc
     have s1 := idx_w1 mc hi
     have s2 := idx_w0 md
     have s3 := idx_w1 md hi
     have t0 := idx_nat c i
     have t1 := idx_nat d i
     clear hc8 hi ht hd hd8 mc md
     go_wp2
     go_still_tail 12, (by kernel_rfl)
     change wpList _ _ _ _ _ wr.drew
     replace HS := Aside0.mk (blk_drew HS.out)
     replace B0 := Aside0.mk (blk_drew B0.out)
     replace HB := Aside0.mk (below_drew1 HB.out)
     clear hw e1 e2 e3 s2 s3 p2 p4 t1
     generalize wr.drew = w4 at HS HB B0 ⊢
     have hc : w4.cell? ⟨g, 8 * c + i, none⟩ = some (.int .u8 ((if (8 * c + i) % 8 < i ∨ (8 * c + i) % 8 = i ∧ colF false (tOf true i) ((8 * c + i) / 8) < c then turnF true false f (8 * c + i) else f (8 * c + i) : Nat) : Int)) := (blk_cell HS.out _).trans (HW.out.cell _ LT.out)
     generalize ((if (8 * c + i) % 8 < i ∨ (8 * c + i) % 8 = i ∧ colF false (tOf true i) ((8 * c + i) / 8) < c then turnF true false f (8 * c + i) else f (8 * c + i) : Nat) : Int) = old at hc
     have hz : w4.frozen? ⟨g, 8 * c + i, none⟩ = false := blk_frozen HS.out _
     go_wp2
     clear s0 s1 p1 p3 t0 hc hz
     go_roundg k3
     case measure => omega
     case rel =>
      have hc8 := HC8.out
      have hi := HI.out
      have ht := T8.out
      have hd := HD.out
      have hq := HQ.out
      refine ⟨c + 1, _, by rw [step_1 (by omega)], ⟨by have := HC.out; omega⟩, ⟨blk_put HS.out (8 * c + i) _ rfl⟩, ⟨blk_far B0.out (Ne.symm NG.out) _⟩, ⟨HW.out.set LT.out LF.out rfl (fun n hn => ?_)⟩, ⟨HB.out.setCell (Nat.le_refl _) _⟩⟩
      unfold colF
      simp only [if_true, if_false, Bool.false_eq_true, reduceIte]
      by_cases e : n = 8 * c + i
      · subst e
        rw [if_pos (by omega), if_pos rfl]
        unfold turnF
        simp only [if_true, if_false, Bool.false_eq_true, reduceIte]
        rw [show (8 * c + i) % 8 = i by omega, show (8 * c + i) / 8 = c by omega, ← hq]
        congr 1
        omega
      · rw [if_neg e]
        by_cases e2 : n % 8 < i ∨ n % 8 = i ∧ n / 8 < c
        · rw [if_pos (by omega), if_pos e2]
        · rw [if_neg (by omega), if_neg e2]
set_option maxHeartbeats 8000000 in
set_option maxRecDepth 100000 in
theorem turn_false_true {g : Nat} {cs : Array Value} {w : World} {f : Nat → Nat} (hS : w.heap[g]? = some (.cells cs 138 (0, 0))) (hf : Sta f cs) :
  Calls Try.prog 104 #[.pointer (some ⟨g, 0, none⟩), .bool false, .bool true] w fun e w' => e = .returned (.tuple #[]) ∧ (∃ cs', w'.heap[g]? = some (.cells cs' 138 (0, 0)) ∧ Sta (turnF false true f) cs') ∧ Below g w w' := by
 have HB := Aside0.mk (Below.refl g w)
 have HS := Aside0.mk hS
 have HF := Aside0.mk hf
 have HI := Aside0.mk (sta_info hf)
 have HGW := Aside0.mk (blk_lt hS)
 clear hS hf
 go_enter Try.func104, Try.ntmps104
 go_wp2_with (first
  | ((with_reducible refine gate_dst (N := 14) rfl ?_); refine wpList_load_row rfl 138 (.tmp 13) rfl g (by rfl) 138 cs (0, 0) _ HS.out Try.underlying138 rfl HI.out ?_)
  | ((with_reducible refine gate_dst (N := 6) rfl ?_); refine box_event ?hg (N := 6) ?hd (cs := zSt) (t := 138) ?hr ?_; (case hd => rfl); (case hg => rfl); (case hr => first | (go_simp; done) | (go_simp; rfl)); intro g2 hg2 w2 hbox hb; have B2 := Aside0.mk hbox; have NG := Aside0.mk (show g ≠ g2 by have := blk_lt HS.out; omega); have G2 := Aside0.mk (show g ≤ g2 by have := blk_lt HS.out; omega); replace HS := Aside0.mk (blk_below HS.out hb); replace HB := Aside0.mk (below_far HB.out HGW.out hb); clear hb hbox hg2)
  | ((with_reducible refine gate_store (t := 138) (p := 6) rfl ?_); refine wpList_store_row rfl 138 (.tmp 6) (.tmp 14) rfl g2 cs (by rfl) (by rfl) 138 _ B2.out HI.out (by rw [HF.out.size, zSt_size]) (sta_one HF.out) ?_; replace HS := Aside0.mk (blk_setRow HS.out NG.out cs); replace HB := Aside0.mk (below_setRow HB.out G2.out cs); replace B2 := Aside0.mk (setRow_heap _ g2 _ cs 138 (0, 0) B2.out); (generalize World.setRow _ g2 cs = w3 at HS HB B2 ⊢))
  | ((with_reducible refine gate_callee (f := 108) rfl ?_); refine goesL_ (some 16) rfl rfl Try.func108 (by kernel_rfl) rfl #[.bool false] rfl (by (try simp only [List.map_toArray, List.map_cons, List.map_nil]); first | done | rfl) ?_; (with_reducible refine (perm_turns.calls false 0 1 2 3 4 5 6 7 _ rfl).mono ?_); rintro e w11 ⟨rfl, hb⟩; refine ⟨_, rfl, ?_⟩; replace HS := Aside0.mk (blk_below HS.out hb); replace B2 := Aside0.mk (blk_below B2.out hb); replace HB := Aside0.mk (below_far HB.out HGW.out hb); clear hb)
  | (go_at_call 108; (with_reducible refine (perm_turns.calls false 0 1 2 3 4 5 6 7 _ rfl).mono ?_); rintro e w11 ⟨rfl, hb⟩; replace HS := Aside0.mk (blk_below HS.out hb); replace B2 := Aside0.mk (blk_below B2.out hb); replace HB := Aside0.mk (below_far HB.out HGW.out hb); clear hb))
 obtain ⟨cs0, e0⟩ : ∃ cs0, cs0 = cs := ⟨_, rfl⟩
 have HF0 : Aside0 (Sta f cs0) := ⟨e0 ▸ HF.out⟩
 have B0 := Aside0.mk (show _ = _ from e0 ▸ B2.out)
 clear B2 e0
 go_loopg [17] 8 (fun kq v17 w' => ∃ (i : Nat) (cs : Array Value), v17 = .int .i64 (i : Int) ∧ Aside0 (i + kq = 8) ∧ Aside0 (w'.heap[g]? = some (.cells cs 138 (0, 0))) ∧ Aside0 (w'.heap[g2]? = some (.cells cs0 138 (0, 0))) ∧ Aside0 (Sta (fun n => if n % 8 < i then turnF false true f n else f n) cs) ∧ Aside0 (Below g w w'))
 case atStart => exact ⟨0, _, rfl, ⟨rfl⟩, HS, B0, ⟨HF.out.congr (fun n _ => by rw [if_neg (by omega)])⟩, HB⟩
 case round =>
  clear HS HB B0 HI HF
  obtain ⟨i, cs, rfl, HM, HS, B0, HW, HB⟩ := hrel
  cases gk with
  | zero =>
   obtain rfl : i = 8 := by have := HM.out; omega
   go_wp2
   go_end0
   exact ⟨rfl, ⟨cs, HS.out, HW.out.congr (fun n hn => by rw [if_pos (by omega)])⟩, HB.out⟩
  | succ k2 =>
   have hi : i < 8 := by have := HM.out; omega
   have HI := Aside0.mk hi
   have d0 : decide ((i : Int) < 8) = true := decide_eq_true (by omega)
   have d1 : decide (i < 8) = true := decide_eq_true hi
   have p0 : ((i : Int) < 8) = True := eq_true (by omega)
   obtain ⟨t, et⟩ : ∃ t : Nat, t = tOf false i := ⟨_, rfl⟩
   have T8 := Aside0.mk (show t < 8 from et ▸ tOf_lt false i)
   have HQ := Aside0.mk et
   clear hi et
   go_wp2_with (first
    | ((with_reducible refine gate_dst (N := 20) rfl ?_); refine Kd.event_run (v := .int .i64 (t : Int)) rfl (HQ.out ▸ turn_index_false HI.out _ _ rfl rfl rfl) ?_))
   obtain ⟨wo, rfl⟩ : ∃ wo : World, wo = wr := ⟨_, rfl⟩
   go_loopg [9, 10, 11, 21] 8 (fun kq v9 v10 v11 v21 w' => ∃ (c : Nat) (cs : Array Value), v21 = .int .i64 (c : Int) ∧ Aside0 (c + kq = 8) ∧ Aside0 (w'.heap[g]? = some (.cells cs 138 (0, 0))) ∧ Aside0 (w'.heap[g2]? = some (.cells cs0 138 (0, 0))) ∧ Aside0 (Sta (fun n => if n % 8 < i ∨ n % 8 = i ∧ colF true (tOf false i) (n / 8) < c then turnF false true f n else f n) cs) ∧ Aside0 (Below g w w'))
   case atStart => exact ⟨0, _, rfl, ⟨rfl⟩, HS, B0, ⟨HW.out.congr (fun n _ => by
     by_cases c : n % 8 < i
     · rw [if_pos c, if_pos (Or.inl c)]
     · rw [if_neg c, if_neg (by omega)])⟩, HB⟩
   case round =>
    clear HS HB B0 HW
    obtain ⟨c, cs, rfl, HC, HS, B0, HW, HB⟩ := hrel
    cases gk with
    | zero =>
     obtain rfl : c = 8 := by have := HC.out; omega
     go_wp2
     go_roundg k2
     case measure => omega
     case rel =>
      have hi := HI.out
      refine ⟨i + 1, cs, by rw [step_1 (by omega)], ⟨by have := HM.out; omega⟩, HS, B0, ⟨HW.out.congr (fun n hn => ?_)⟩, HB⟩
      have hcol : colF true (tOf false i) (n / 8) < 8 := by unfold colF; simp only [if_true, if_false, Bool.false_eq_true, reduceIte]; omega
      by_cases e : n % 8 < i + 1
      · rw [if_pos e, if_pos (by omega)]
      · rw [if_neg e, if_neg (by omega)]
    | succ k3 =>
     have hc8 : c < 8 := by have := HC.out; omega
     have HC8 := Aside0.mk hc8
     have hi := HI.out
     have ht := T8.out
     have d2 : decide ((c : Int) < 8) = true := decide_eq_true (by omega)
     have d3 : decide (c < 8) = true := decide_eq_true hc8
     obtain ⟨d, hd⟩ : ∃ d : Nat, d = (c + t) % 8 := ⟨_, rfl⟩
     have hd8 : d < 8 := by omega
     have HD8 := Aside0.mk hd8
     have HD := Aside0.mk hd
     have LT := Aside0.mk (idx_64 (m := d) (i := i) (by omega) hi)
     have LF := Aside0.mk (HF0.out.lt (8 * c + i) (by omega))
     have hw : wr.cell? ⟨g2, 8 * c + i, none⟩ = some (.int .u8 (f (8 * c + i) : Int)) := (blk_cell B0.out _).trans (HF0.out.cell _ (by omega))
     have md : d < 8 := by omega
     have mc : c < 8 := by omega
     have e1 := idx_sum hc8 ht
     have e2 := idx_mod hd
     have e3 := idx_tmod hd
     have p1 := idx_lt md hi
     have p2 := idx_lt mc hi
     have p3 := idx_ge md hi
     have p4 := idx_ge mc hi
     have s0 := idx_w0 md
     have s1 := idx_w1 md hi
     have s2 := idx_w0 mc
     have s3 := idx_w1 mc hi
     have t0 := idx_nat d i
     have t1 := idx_nat c i
     clear hc8 hi ht hd hd8 md mc
     go_wp2
     go_still_tail 12, (by kernel_rfl)
     change wpList _ _ _ _ _ wr.drew
     replace HS := Aside0.mk (blk_drew HS.out)
     replace B0 := Aside0.mk (blk_drew B0.out)
     replace HB := Aside0.mk (below_drew1 HB.out)
     clear hw e1 e2 e3 s2 s3 p2 p4 t1
     generalize wr.drew = w4 at HS HB B0 ⊢
     have hc : w4.cell? ⟨g, 8 * d + i, none⟩ = some (.int .u8 ((if (8 * d + i) % 8 < i ∨ (8 * d + i) % 8 = i ∧ colF true (tOf false i) ((8 * d + i) / 8) < c then turnF false true f (8 * d + i) else f (8 * d + i) : Nat) : Int)) := (blk_cell HS.out _).trans (HW.out.cell _ LT.out)
     generalize ((if (8 * d + i) % 8 < i ∨ (8 * d + i) % 8 = i ∧ colF true (tOf false i) ((8 * d + i) / 8) < c then turnF false true f (8 * d + i) else f (8 * d + i) : Nat) : Int) = old at hc
     have hz : w4.frozen? ⟨g, 8 * d + i, none⟩ = false := blk_frozen HS.out _
     go_wp2
     clear s0 s1 p1 p3 t0 hc hz
     go_roundg k3
     case measure => omega
     case rel =>
      have hc8 := HC8.out
      have hi := HI.out
      have ht := T8.out
      have hd := HD.out
      have hq := HQ.out
      refine ⟨c + 1, _, by rw [step_1 (by omega)], ⟨by have := HC.out; omega⟩, ⟨blk_put HS.out (8 * d + i) _ rfl⟩, ⟨blk_far B0.out (Ne.symm NG.out) _⟩, ⟨HW.out.set LT.out LF.out rfl (fun n hn => ?_)⟩, ⟨HB.out.setCell (Nat.le_refl _) _⟩⟩
      unfold colF
      simp only [if_true, if_false, Bool.false_eq_true, reduceIte]
      rw [← hq]
      by_cases e : n = 8 * d + i
      · subst e
        rw [if_pos (by omega), if_pos rfl]
        unfold turnF
        simp only [if_true, if_false, Bool.false_eq_true, reduceIte]
        rw [show (8 * d + i) % 8 = i by omega, show (8 * d + i) / 8 = d by omega, ← hq]
        congr 1
        omega
      · rw [if_neg e]
        by_cases e2 : n % 8 < i ∨ n % 8 = i ∧ (n / 8 + 8 - t) % 8 < c
        · rw [if_pos (by omega), if_pos e2]
        · rw [if_neg (by omega), if_neg e2]
set_option maxHeartbeats 8000000 in
set_option maxRecDepth 100000 in
theorem turn_false_false {g : Nat} {cs : Array Value} {w : World} {f : Nat → Nat} (hS : w.heap[g]? = some (.cells cs 138 (0, 0))) (hf : Sta f cs) :
  Calls Try.prog 104 #[.pointer (some ⟨g, 0, none⟩), .bool false, .bool false] w fun e w' => e = .returned (.tuple #[]) ∧ (∃ cs', w'.heap[g]? = some (.cells cs' 138 (0, 0)) ∧ Sta (turnF false false f) cs') ∧ Below g w w' := by
 have HB := Aside0.mk (Below.refl g w)
 have HS := Aside0.mk hS
 have HF := Aside0.mk hf
 have HI := Aside0.mk (sta_info hf)
 have HGW := Aside0.mk (blk_lt hS)
 clear hS hf
 go_enter Try.func104, Try.ntmps104
 go_wp2_with (first
  | ((with_reducible refine gate_dst (N := 14) rfl ?_); refine wpList_load_row rfl 138 (.tmp 13) rfl g (by rfl) 138 cs (0, 0) _ HS.out Try.underlying138 rfl HI.out ?_)
  | ((with_reducible refine gate_dst (N := 6) rfl ?_); refine box_event ?hg (N := 6) ?hd (cs := zSt) (t := 138) ?hr ?_; (case hd => rfl); (case hg => rfl); (case hr => first | (go_simp; done) | (go_simp; rfl)); intro g2 hg2 w2 hbox hb; have B2 := Aside0.mk hbox; have NG := Aside0.mk (show g ≠ g2 by have := blk_lt HS.out; omega); have G2 := Aside0.mk (show g ≤ g2 by have := blk_lt HS.out; omega); replace HS := Aside0.mk (blk_below HS.out hb); replace HB := Aside0.mk (below_far HB.out HGW.out hb); clear hb hbox hg2)
  | ((with_reducible refine gate_store (t := 138) (p := 6) rfl ?_); refine wpList_store_row rfl 138 (.tmp 6) (.tmp 14) rfl g2 cs (by rfl) (by rfl) 138 _ B2.out HI.out (by rw [HF.out.size, zSt_size]) (sta_one HF.out) ?_; replace HS := Aside0.mk (blk_setRow HS.out NG.out cs); replace HB := Aside0.mk (below_setRow HB.out G2.out cs); replace B2 := Aside0.mk (setRow_heap _ g2 _ cs 138 (0, 0) B2.out); (generalize World.setRow _ g2 cs = w3 at HS HB B2 ⊢))
  | ((with_reducible refine gate_callee (f := 108) rfl ?_); refine goesL_ (some 16) rfl rfl Try.func108 (by kernel_rfl) rfl #[.bool false] rfl (by (try simp only [List.map_toArray, List.map_cons, List.map_nil]); first | done | rfl) ?_; (with_reducible refine (perm_turns.calls false 0 1 2 3 4 5 6 7 _ rfl).mono ?_); rintro e w11 ⟨rfl, hb⟩; refine ⟨_, rfl, ?_⟩; replace HS := Aside0.mk (blk_below HS.out hb); replace B2 := Aside0.mk (blk_below B2.out hb); replace HB := Aside0.mk (below_far HB.out HGW.out hb); clear hb)
  | (go_at_call 108; (with_reducible refine (perm_turns.calls false 0 1 2 3 4 5 6 7 _ rfl).mono ?_); rintro e w11 ⟨rfl, hb⟩; replace HS := Aside0.mk (blk_below HS.out hb); replace B2 := Aside0.mk (blk_below B2.out hb); replace HB := Aside0.mk (below_far HB.out HGW.out hb); clear hb))
 obtain ⟨cs0, e0⟩ : ∃ cs0, cs0 = cs := ⟨_, rfl⟩
 have HF0 : Aside0 (Sta f cs0) := ⟨e0 ▸ HF.out⟩
 have B0 := Aside0.mk (show _ = _ from e0 ▸ B2.out)
 clear B2 e0
 go_loopg [17] 8 (fun kq v17 w' => ∃ (i : Nat) (cs : Array Value), v17 = .int .i64 (i : Int) ∧ Aside0 (i + kq = 8) ∧ Aside0 (w'.heap[g]? = some (.cells cs 138 (0, 0))) ∧ Aside0 (w'.heap[g2]? = some (.cells cs0 138 (0, 0))) ∧ Aside0 (Sta (fun n => if n % 8 < i then turnF false false f n else f n) cs) ∧ Aside0 (Below g w w'))
 case atStart => exact ⟨0, _, rfl, ⟨rfl⟩, HS, B0, ⟨HF.out.congr (fun n _ => by rw [if_neg (by omega)])⟩, HB⟩
 case round =>
  clear HS HB B0 HI HF
  obtain ⟨i, cs, rfl, HM, HS, B0, HW, HB⟩ := hrel
  cases gk with
  | zero =>
   obtain rfl : i = 8 := by have := HM.out; omega
   go_wp2
   go_end0
   exact ⟨rfl, ⟨cs, HS.out, HW.out.congr (fun n hn => by rw [if_pos (by omega)])⟩, HB.out⟩
  | succ k2 =>
   have hi : i < 8 := by have := HM.out; omega
   have HI := Aside0.mk hi
   have d0 : decide ((i : Int) < 8) = true := decide_eq_true (by omega)
   have d1 : decide (i < 8) = true := decide_eq_true hi
   have p0 : ((i : Int) < 8) = True := eq_true (by omega)
   obtain ⟨t, et⟩ : ∃ t : Nat, t = tOf false i := ⟨_, rfl⟩
   have T8 := Aside0.mk (show t < 8 from et ▸ tOf_lt false i)
   have HQ := Aside0.mk et
   clear hi et
   go_wp2_with (first
    | ((with_reducible refine gate_dst (N := 20) rfl ?_); refine Kd.event_run (v := .int .i64 (t : Int)) rfl (HQ.out ▸ turn_index_false HI.out _ _ rfl rfl rfl) ?_))
   obtain ⟨wo, rfl⟩ : ∃ wo : World, wo = wr := ⟨_, rfl⟩
   go_loopg [9, 10, 11, 21] 8 (fun kq v9 v10 v11 v21 w' => ∃ (c : Nat) (cs : Array Value), v21 = .int .i64 (c : Int) ∧ Aside0 (c + kq = 8) ∧ Aside0 (w'.heap[g]? = some (.cells cs 138 (0, 0))) ∧ Aside0 (w'.heap[g2]? = some (.cells cs0 138 (0, 0))) ∧ Aside0 (Sta (fun n => if n % 8 < i ∨ n % 8 = i ∧ colF false (tOf false i) (n / 8) < c then turnF false false f n else f n) cs) ∧ Aside0 (Below g w w'))
   case atStart => exact ⟨0, _, rfl, ⟨rfl⟩, HS, B0, ⟨HW.out.congr (fun n _ => by
     by_cases c : n % 8 < i
     · rw [if_pos c, if_pos (Or.inl c)]
     · rw [if_neg c, if_neg (by omega)])⟩, HB⟩
   case round =>
    clear HS HB B0 HW
    obtain ⟨c, cs, rfl, HC, HS, B0, HW, HB⟩ := hrel
    cases gk with
    | zero =>
     obtain rfl : c = 8 := by have := HC.out; omega
     go_wp2
     go_roundg k2
     case measure => omega
     case rel =>
      have hi := HI.out
      refine ⟨i + 1, cs, by rw [step_1 (by omega)], ⟨by have := HM.out; omega⟩, HS, B0, ⟨HW.out.congr (fun n hn => ?_)⟩, HB⟩
      have hcol : colF false (tOf false i) (n / 8) < 8 := by unfold colF; simp only [if_true, if_false, Bool.false_eq_true, reduceIte]; omega
      by_cases e : n % 8 < i + 1
      · rw [if_pos e, if_pos (by omega)]
      · rw [if_neg e, if_neg (by omega)]
    | succ k3 =>
     have hc8 : c < 8 := by have := HC.out; omega
     have HC8 := Aside0.mk hc8
     have hi := HI.out
     have ht := T8.out
     have d2 : decide ((c : Int) < 8) = true := decide_eq_true (by omega)
     have d3 : decide (c < 8) = true := decide_eq_true hc8
     obtain ⟨d, hd⟩ : ∃ d : Nat, d = (c + t) % 8 := ⟨_, rfl⟩
     have hd8 : d < 8 := by omega
     have HD8 := Aside0.mk hd8
     have HD := Aside0.mk hd
     have LT := Aside0.mk (idx_64 (m := c) (i := i) (by omega) hi)
     have LF := Aside0.mk (HF0.out.lt (8 * d + i) (by omega))
     have hw : wr.cell? ⟨g2, 8 * d + i, none⟩ = some (.int .u8 (f (8 * d + i) : Int)) := (blk_cell B0.out _).trans (HF0.out.cell _ (by omega))
     have mc : c < 8 := by omega
     have md : d < 8 := by omega
     have e1 := idx_sum hc8 ht
     have e2 := idx_mod hd
     have e3 := idx_tmod hd
     have p1 := idx_lt mc hi
     have p2 := idx_lt md hi
     have p3 := idx_ge mc hi
     have p4 := idx_ge md hi
     have s0 := idx_w0 mc
     have s1 := idx_w1 mc hi
     have s2 := idx_w0 md
     have s3 := idx_w1 md hi
     have t0 := idx_nat c i
     have t1 := idx_nat d i
     clear hc8 hi ht hd hd8 mc md
     go_wp2
     go_still_tail 12, (by kernel_rfl)
     change wpList _ _ _ _ _ wr.drew
     replace HS := Aside0.mk (blk_drew HS.out)
     replace B0 := Aside0.mk (blk_drew B0.out)
     replace HB := Aside0.mk (below_drew1 HB.out)
     clear hw e1 e2 e3 s2 s3 p2 p4 t1
     generalize wr.drew = w4 at HS HB B0 ⊢
     have hc : w4.cell? ⟨g, 8 * c + i, none⟩ = some (.int .u8 ((if (8 * c + i) % 8 < i ∨ (8 * c + i) % 8 = i ∧ colF false (tOf false i) ((8 * c + i) / 8) < c then turnF false false f (8 * c + i) else f (8 * c + i) : Nat) : Int)) := (blk_cell HS.out _).trans (HW.out.cell _ LT.out)
     generalize ((if (8 * c + i) % 8 < i ∨ (8 * c + i) % 8 = i ∧ colF false (tOf false i) ((8 * c + i) / 8) < c then turnF false false f (8 * c + i) else f (8 * c + i) : Nat) : Int) = old at hc
     have hz : w4.frozen? ⟨g, 8 * c + i, none⟩ = false := blk_frozen HS.out _
     go_wp2
     clear s0 s1 p1 p3 t0 hc hz
     go_roundg k3
     case measure => omega
     case rel =>
      have hc8 := HC8.out
      have hi := HI.out
      have ht := T8.out
      have hd := HD.out
      have hq := HQ.out
      refine ⟨c + 1, _, by rw [step_1 (by omega)], ⟨by have := HC.out; omega⟩, ⟨blk_put HS.out (8 * c + i) _ rfl⟩, ⟨blk_far B0.out (Ne.symm NG.out) _⟩, ⟨HW.out.set LT.out LF.out rfl (fun n hn => ?_)⟩, ⟨HB.out.setCell (Nat.le_refl _) _⟩⟩
      unfold colF
      simp only [if_true, if_false, Bool.false_eq_true, reduceIte]
      by_cases e : n = 8 * c + i
      · subst e
        rw [if_pos (by omega), if_pos rfl]
        unfold turnF
        simp only [if_true, if_false, Bool.false_eq_true, reduceIte]
        rw [show (8 * c + i) % 8 = i by omega, show (8 * c + i) / 8 = c by omega, ← hq]
        congr 1
        omega
      · rw [if_neg e]
        by_cases e2 : n % 8 < i ∨ n % 8 = i ∧ n / 8 < c
        · rw [if_pos (by omega), if_pos e2]
        · rw [if_neg (by omega), if_neg e2]
theorem turn_calls {g : Nat} {cs : Array Value} {w : World} {f : Nat → Nat} (q back : Bool) (hS : w.heap[g]? = some (.cells cs 138 (0, 0))) (hf : Sta f cs) :
  Calls Try.prog 104 #[.pointer (some ⟨g, 0, none⟩), .bool q, .bool back] w fun e w' => e = .returned (.tuple #[]) ∧ (∃ cs', w'.heap[g]? = some (.cells cs' 138 (0, 0)) ∧ Sta (turnF q back f) cs') ∧ Below g w w' := by
  cases q <;> cases back
  · exact turn_false_false hS hf
  · exact turn_false_true hS hf
  · exact turn_true_false hS hf
  · exact turn_true_true hS hf
end Go.Proofs.Ytmibjgjgfombaaa.P
end

section
/- Columns of a state are mixed (layer 10). Conditions: those that each theorem names. Printed by gen_st.py. -/
set_option linter.unusedVariables false
set_option linter.unusedSimpArgs false
set_option maxRecDepth 100000
namespace Go.Proofs.Ytmibjgjgfombaaa.P
open Go.RowKit Go.Proofs.YtmibjgjgfombaaaX Go.Proofs.YtmibjgjgfombaaaW.PrintWords Go.Proofs.YtmibjgjgfombaaaW.PrintLast Go.Proofs.YtmibjgjgfombaaaW.PrintMore
attribute [local go_sem] zero_st
/-- The first k products of a mixed byte, added. -/
def mixP (ml : Nat → Nat → Nat) (f : Nat → Nat) (n : Nat) : Nat → Nat
  | 0 => 0
  | k + 1 => mixP ml f n k ^^^ ml (mixL.getD k 0) (f (8 * (n / 8) + (n % 8 + k) % 8))
/-- A state whose columns are mixed. -/
def mixF (ml : Nat → Nat → Nat) (f : Nat → Nat) (n : Nat) : Nat := mixP ml f n 8
theorem mixL_getD {k : Nat} (h : k < 8) : mixL.getD k 0 = mixL[k]'h := by
  rw [List.getD_eq_getElem?_getD, List.getElem?_eq_getElem h]
  rfl
theorem mixP_lt {ml : Nat → Nat → Nat} {f : Nat → Nat} (hm8 : ∀ b q : Nat, b < 256 → q ∈ mixL → ml q b < 256) (hf : ∀ n, n < 64 → f n < 256) {n : Nat} (hn : n < 64) : ∀ {k : Nat}, k ≤ 8 → mixP ml f n k < 256
  | 0, _ => show (0 : Nat) < 256 by decide
  | k + 1, h => by
    have hk : k < 8 := h
    unfold mixP
    refine xor_lt (mixP_lt hm8 hf hn (Nat.le_of_succ_le h)) (hm8 _ _ (hf _ (by omega)) ?_)
    rw [mixL_getD hk]
    exact List.getElem_mem hk
set_option maxHeartbeats 8000000 in
set_option maxRecDepth 100000 in
theorem mix_calls {bx : Nat → Nat} {ml : Nat → Nat → Nat} {gt g : Nat} {ct cs : Array Value} {w : World} {f : Nat → Nat} (hm8 : ∀ b q : Nat, b < 256 → q ∈ mixL → ml q b < 256) (hT : w.heap[gt]? = some (.cells ct 67 (0, 0))) (hTab : Tab bx ml 256 256 256 0 ct) (hg : gt < g) (hS : w.heap[g]? = some (.cells cs 138 (0, 0))) (hf : Sta f cs) :
  Calls Try.prog 105 #[.pointer (some ⟨g, 0, none⟩), .pointer (some ⟨gt, 0, none⟩)] w fun e w' => e = .returned (.tuple #[]) ∧ (∃ cs', w'.heap[g]? = some (.cells cs' 138 (0, 0)) ∧ Sta (mixF ml f) cs') ∧ Below g w w' := by
 have HB := Aside0.mk (Below.refl g w)
 have HS := Aside0.mk hS
 have HF := Aside0.mk hf
 have HI := Aside0.mk (sta_info hf)
 have HGW := Aside0.mk (blk_lt hS)
 have HT := Aside0.mk hT
 have TB := Aside0.mk hTab
 have M8 := Aside0.mk hm8
 have TG := Aside0.mk hg
 clear hS hf hT hTab hm8 hg
 go_enter Try.func105, Try.ntmps105
 go_wp2_with (first
  | ((with_reducible refine gate_dst (N := 12) rfl ?_); refine wpList_load_row rfl 138 (.tmp 11) rfl g (by rfl) 138 cs (0, 0) _ HS.out Try.underlying138 rfl HI.out ?_)
  | ((with_reducible refine gate_dst (N := 4) rfl ?_); refine box_event ?hg (N := 4) ?hd (cs := zSt) (t := 138) ?hr ?_; (case hd => rfl); (case hg => rfl); (case hr => first | (go_simp; done) | (go_simp; rfl)); intro g2 hg2 w2 hbox hb; have B2 := Aside0.mk hbox; have NG := Aside0.mk (show g ≠ g2 by have := blk_lt HS.out; omega); have G2 := Aside0.mk (show g ≤ g2 by have := blk_lt HS.out; omega); replace HS := Aside0.mk (blk_below HS.out hb); replace HT := Aside0.mk (blk_below HT.out hb); replace HB := Aside0.mk (below_far HB.out HGW.out hb); clear hb hbox hg2)
  | ((with_reducible refine gate_store (t := 138) (p := 4) rfl ?_); refine wpList_store_row rfl 138 (.tmp 4) (.tmp 12) rfl g2 cs (by rfl) (by rfl) 138 _ B2.out HI.out (by rw [HF.out.size, zSt_size]) (sta_one HF.out) ?_; replace HS := Aside0.mk (blk_setRow HS.out NG.out cs); replace HT := Aside0.mk (blk_setRow HT.out (show gt ≠ g2 by have := TG.out; have := G2.out; omega) cs); replace HB := Aside0.mk (below_setRow HB.out G2.out cs); replace B2 := Aside0.mk (setRow_heap _ g2 _ cs 138 (0, 0) B2.out); (generalize World.setRow _ g2 cs = w3 at HS HT HB B2 ⊢)))
 obtain ⟨cs0, e0⟩ : ∃ cs0, cs0 = cs := ⟨_, rfl⟩
 have HF0 : Aside0 (Sta f cs0) := ⟨e0 ▸ HF.out⟩
 have B0 := Aside0.mk (show _ = _ from e0 ▸ B2.out)
 clear B2 e0
 go_loopg [13] 8 (fun kq v13 w' => ∃ (c : Nat) (cs : Array Value), v13 = .int .i64 (c : Int) ∧ Aside0 (c + kq = 8) ∧ Aside0 (w'.heap[g]? = some (.cells cs 138 (0, 0))) ∧ Aside0 (w'.heap[g2]? = some (.cells cs0 138 (0, 0))) ∧ Aside0 (w'.heap[gt]? = some (.cells ct 67 (0, 0))) ∧ Aside0 (Sta (fun n => if n < 8 * c then mixF ml f n else f n) cs) ∧ Aside0 (Below g w w'))
 case atStart => exact ⟨0, _, rfl, ⟨rfl⟩, HS, B0, HT, ⟨HF.out.congr (fun n _ => by rw [if_neg (by omega)])⟩, HB⟩
 case round =>
  clear HS HB B0 HI HF HT
  obtain ⟨c, cs, rfl, HM, HS, B0, HT, HW, HB⟩ := hrel
  cases gk with
  | zero =>
   obtain rfl : c = 8 := by have := HM.out; omega
   go_wp2
   go_end0
   exact ⟨rfl, ⟨cs, HS.out, HW.out.congr (fun n hn => by rw [if_pos (by omega)])⟩, HB.out⟩
  | succ k2 =>
   have hc : c < 8 := by have := HM.out; omega
   have HC := Aside0.mk hc
   have d0 : decide ((c : Int) < 8) = true := decide_eq_true (by omega)
   have d1 : decide (c < 8) = true := decide_eq_true hc
   clear hc
   go_wp2
   obtain ⟨wo, rfl⟩ : ∃ wo : World, wo = wr := ⟨_, rfl⟩
   go_loopg [16] 8 (fun kq v16 w' => ∃ (r : Nat) (cs : Array Value), v16 = .int .i64 (r : Int) ∧ Aside0 (r + kq = 8) ∧ Aside0 (w'.heap[g]? = some (.cells cs 138 (0, 0))) ∧ Aside0 (w'.heap[g2]? = some (.cells cs0 138 (0, 0))) ∧ Aside0 (w'.heap[gt]? = some (.cells ct 67 (0, 0))) ∧ Aside0 (Sta (fun n => if n < 8 * c + r then mixF ml f n else f n) cs) ∧ Aside0 (Below g w w'))
   case atStart => exact ⟨0, _, rfl, ⟨rfl⟩, HS, B0, HT, HW, HB⟩
   case round =>
    clear HS HB B0 HW HT
    obtain ⟨r, cs, rfl, HR, HS, B0, HT, HW, HB⟩ := hrel
    cases gk with
    | zero =>
     obtain rfl : r = 8 := by have := HR.out; omega
     go_wp2
     go_roundg k2
     case measure => omega
     case rel =>
      have hc := HC.out
      exact ⟨c + 1, cs, by rw [step_1 (by omega)], ⟨by have := HM.out; omega⟩, HS, B0, HT, HW, HB⟩
    | succ k3 =>
     have hr : r < 8 := by have := HR.out; omega
     have HR8 := Aside0.mk hr
     have d2 : decide ((r : Int) < 8) = true := decide_eq_true (by omega)
     have d3 : decide (r < 8) = true := decide_eq_true hr
     clear hr
     go_wp2_with (first
      | ((with_reducible refine gate_callee (f := 31) rfl ?_); refine goesL_ (some 19) rfl rfl Try.func31 (by kernel_rfl) rfl #[] rfl (by (try simp only [List.map_toArray, List.map_cons, List.map_nil]); first | done | rfl) ?_; (with_reducible refine (perm_mixing.calls 2 2 3 4 5 3 5 7 _ rfl).mono ?_); rintro e w11 ⟨rfl, hb⟩; refine ⟨_, rfl, ?_⟩; replace HS := Aside0.mk (blk_below HS.out hb); replace B0 := Aside0.mk (blk_below B0.out hb); replace HT := Aside0.mk (blk_below HT.out hb); replace HB := Aside0.mk (below_far HB.out HGW.out hb); clear hb)
      | (go_at_call 31; (with_reducible refine (perm_mixing.calls 2 2 3 4 5 3 5 7 _ rfl).mono ?_); rintro e w11 ⟨rfl, hb⟩; replace HS := Aside0.mk (blk_below HS.out hb); replace B0 := Aside0.mk (blk_below B0.out hb); replace HT := Aside0.mk (blk_below HT.out hb); replace HB := Aside0.mk (below_far HB.out HGW.out hb); clear hb))
     go_loopg [7, 20] 8 (fun kq v7 v20 w' => ∃ k : Nat, v20 = .int .i64 (k : Int) ∧ v7 = .int .u8 (mixP ml f (8 * c + r) k : Int) ∧ Aside0 (k + kq = 8) ∧ Aside0 (w'.heap[g]? = some (.cells cs 138 (0, 0))) ∧ Aside0 (w'.heap[g2]? = some (.cells cs0 138 (0, 0))) ∧ Aside0 (w'.heap[gt]? = some (.cells ct 67 (0, 0))) ∧ Aside0 (Below g w w'))
     case atStart => exact ⟨0, rfl, rfl, ⟨rfl⟩, HS, B0, HT, HB⟩
     case round =>
      clear HS HB B0 HT
      obtain ⟨k, rfl, rfl, HK, HS, B0, HT, HB⟩ := hrel
      cases gk with
      | zero =>
       obtain rfl : k = 8 := by have := HK.out; omega
       have hc := HC.out
       have hr := HR8.out
       have LT := Aside0.mk (idx_64 hc hr)
       obtain ⟨x, ex⟩ : ∃ x : Nat, x = mixP ml f (8 * c + r) 8 := ⟨_, rfl⟩
       have X8 := Aside0.mk (show x < 256 from ex ▸ mixP_lt M8.out HF0.out.lt LT.out (Nat.le_refl _))
       have EX := Aside0.mk ex
       rw [← ex]
       have hcell : wr.cell? ⟨g, 8 * c + r, none⟩ = some (.int .u8 ((if 8 * c + r < 8 * c + r then mixF ml f (8 * c + r) else f (8 * c + r) : Nat) : Int)) := (blk_cell HS.out _).trans (HW.out.cell _ LT.out)
       generalize ((if 8 * c + r < 8 * c + r then mixF ml f (8 * c + r) else f (8 * c + r) : Nat) : Int) = old at hcell
       have hz : wr.frozen? ⟨g, 8 * c + r, none⟩ = false := blk_frozen HS.out _
       have p1 := idx_lt hc hr
       have p3 := idx_ge hc hr
       have s0 := idx_w0 hc
       have s1 := idx_w1 hc hr
       have t0 := idx_nat c r
       have q0 := (i64_w _).symm.trans (idx_w0 hc)
       have q1 := (i64_w _).symm.trans (idx_w1 hc hr)
       clear hc hr ex
       go_wp2
       clear s0 s1 q0 q1 p1 p3 t0 hcell hz
       go_roundg k3
       case measure => omega
       case rel =>
        have hc := HC.out
        have hr := HR8.out
        refine ⟨r + 1, _, by rw [step_1 (by omega)], ⟨by have := HR.out; omega⟩, ⟨blk_put HS.out (8 * c + r) _ rfl⟩, ⟨blk_far B0.out (Ne.symm NG.out) _⟩, ⟨blk_far HT.out (Nat.ne_of_lt TG.out) _⟩, ⟨HW.out.set LT.out X8.out rfl (fun n hn => ?_)⟩, ⟨HB.out.setCell (Nat.le_refl _) _⟩⟩
        by_cases e : n = 8 * c + r
        · subst e
          rw [if_pos (by omega), if_pos rfl]
          exact EX.out.symm
        · rw [if_neg e]
          by_cases e2 : n < 8 * c + r
          · rw [if_pos (by omega), if_pos e2]
          · rw [if_neg (by omega), if_neg e2]
      | succ k4 =>
       have hk : k < 8 := by have := HK.out; omega
       have HK8 := Aside0.mk hk
       have hc := HC.out
       have hr := HR8.out
       have d4 : decide ((k : Int) < 8) = true := decide_eq_true (by omega)
       have d5 : decide (k < 8) = true := decide_eq_true hk
       have q0 : ((k : Int) < 8) = True := eq_true (by omega)
       have hq : mixL[k]'HK8.out ∈ mixL := List.getElem_mem HK8.out
       obtain ⟨q, eq⟩ : ∃ q : Nat, q = mixL[k]'HK8.out := ⟨_, rfl⟩
       have HQ := Aside0.mk eq
       have hq7 : q ∈ mixL := eq ▸ hq
       have HQM := Aside0.mk hq7
       have q1 : ((q : Int) < 8) = True := eq_true (by have := (mixL_le hq7).2.1; omega)
       have q2 : decide (q < 8) = true := decide_eq_true (by have := (mixL_le hq7).2.1; omega)
       obtain ⟨d, hd⟩ : ∃ d : Nat, d = (r + k) % 8 := ⟨_, rfl⟩
       have HD := Aside0.mk hd
       have hd8 := idx_m8 hd
       have LT := Aside0.mk (idx_64 hc hr)
       have LF := Aside0.mk (idx_64 hc hd8)
       obtain ⟨b, eb⟩ : ∃ b : Nat, b = f (8 * c + d) := ⟨_, rfl⟩
       have hb8 : b < 256 := eb ▸ HF0.out.lt _ LF.out
       have b8 : ((b : Int) < 256) = True := eq_true (by omega)
       have HBE := Aside0.mk eb
       have HB8 := Aside0.mk hb8
       obtain ⟨x, ex⟩ : ∃ x : Nat, x = mixP ml f (8 * c + r) k := ⟨_, rfl⟩
       have X8 := Aside0.mk (show x < 256 from ex ▸ mixP_lt M8.out HF0.out.lt LT.out (Nat.le_of_lt hk))
       have EX := Aside0.mk ex
       rw [← ex]
       obtain ⟨y, ey⟩ : ∃ y : Nat, y = ml q b := ⟨_, rfl⟩
       have Y8 := Aside0.mk (show y < 256 from ey ▸ M8.out _ _ hb8 hq7)
       have EY := Aside0.mk ey
       have hw : wr.cell? ⟨g2, 8 * c + d, none⟩ = some (.int .u8 (b : Int)) := (blk_cell B0.out _).trans (eb ▸ HF0.out.cell _ LF.out)
       have hv : wr.cell? ⟨gt, 512 + q * 256 + b, none⟩ = some (.int .u8 (y : Int)) := (blk_cell HT.out _).trans (by have t := TB.out.times b q hb8 hq7; rw [Nat.mul_comm 256 q, ← ey] at t; exact t)
       have HX := Aside0.mk (u8_xor x y X8.out Y8.out)
       clear hq hq7 eq
       go_wp2_with (first
        | ((with_reducible refine gate_dst (N := 23) rfl ?_); refine Kd.event_run (v := .int .u8 (q : Int)) rfl (HQ.out ▸ mix_index HK8.out _ _ rfl rfl rfl) ?_))
       have e1 := idx_sumw hr hk
       have e2 := idx_mod hd
       have e3 := idx_tmod hd
       have p2 := idx_lt hc hd8
       have p4 := idx_ge hc hd8
       have s2 := idx_w0 hc
       have s3 := idx_w1 hc hd8
       have t1 := idx_nat c d
       clear hc hr hk hd8 hd eb hb8 ex ey
       go_still_tail 17, (by kernel_rfl)
       change wpList _ _ _ _ _ wr.drew
       clear e1 e2 e3 s2 s3 p2 p4 t1 hw hv
       replace HS := Aside0.mk (blk_drew HS.out)
       replace B0 := Aside0.mk (blk_drew B0.out)
       replace HT := Aside0.mk (blk_drew HT.out)
       replace HB := Aside0.mk (below_drew1 HB.out)
       generalize wr.drew = w4 at HS HB B0 HT ⊢
       go_wp2
       go_roundg k4
       case measure => omega
       case rel =>
        have hk := HK8.out
        have hr := HR8.out
        refine ⟨k + 1, by rw [step_1 (by omega)], ?_, ⟨by have := HK.out; omega⟩, HS, B0, HT, HB⟩
        show Value.int .u8 _ = Value.int .u8 (((mixP ml f (8 * c + r) k ^^^ ml (mixL.getD k 0) (f (8 * ((8 * c + r) / 8) + ((8 * c + r) % 8 + k) % 8)) : Nat)) : Int)
        rw [mixL_getD hk, ← HQ.out, ← EX.out, show (8 * c + r) / 8 = c by omega, show (8 * c + r) % 8 = r by omega, ← HD.out, ← HBE.out, ← EY.out, HX.out]
end Go.Proofs.Ytmibjgjgfombaaa.P
end

section
/- A round of a way (layer 10). Conditions: those that each theorem names. Printed by gen_st.py. -/
set_option linter.unusedVariables false
set_option linter.unusedSimpArgs false
set_option maxRecDepth 100000
namespace Go.Proofs.Ytmibjgjgfombaaa.P
open Go.RowKit Go.Proofs.YtmibjgjgfombaaaX Go.Proofs.YtmibjgjgfombaaaW.PrintWords Go.Proofs.YtmibjgjgfombaaaW.PrintLast Go.Proofs.YtmibjgjgfombaaaW.PrintMore
/-- A round of a way. -/
def roundF (bx : Nat → Nat) (ml : Nat → Nat → Nat) (q : Bool) (r : Nat) (f : Nat → Nat) : Nat → Nat := mixF ml (turnF q false (fun n => bx (addF q r f n)))
set_option maxHeartbeats 8000000 in
set_option maxRecDepth 100000 in
theorem on1_calls {bx : Nat → Nat} {ml : Nat → Nat → Nat} {gt g r ba bq : Nat} {q : Bool} {ct cs : Array Value} {w : World} {f : Nat → Nat} (hm8 : ∀ b q : Nat, b < 256 → q ∈ mixL → ml q b < 256) (hb8 : ∀ b, b < 256 → bx b < 256) (hT : w.heap[gt]? = some (.cells ct 67 (0, 0))) (hTab : Tab bx ml 256 256 256 0 ct) (hg : gt < g) (hS : w.heap[g]? = some (.cells cs 138 (0, 0))) (hf : Sta f cs) (hr : r < 6)
  (hA : w.heap[ba]? = some (.cells #[.pointer (some ⟨gt, 0, none⟩)] 25 (0, 0))) (hQ : w.heap[bq]? = some (.cells #[.bool q] 4 (0, 0))) (hag : ba < g) (hqg : bq < g) :
  Calls Try.prog 101 #[.pointer (some ⟨g, 0, none⟩), .int .i64 (r : Int), .pointer (some ⟨bq, 0, none⟩), .pointer (some ⟨ba, 0, none⟩)] w fun e w' => e = .returned (.tuple #[]) ∧ (∃ cs', w'.heap[g]? = some (.cells cs' 138 (0, 0)) ∧ Sta (roundF bx ml q r f) cs') ∧ Below g w w' := by
 have HB := Aside0.mk (Below.refl g w)
 have HS := Aside0.mk hS
 have HF := Aside0.mk hf
 have HT := Aside0.mk hT
 have TB := Aside0.mk hTab
 have M8 := Aside0.mk hm8
 have B8 := Aside0.mk hb8
 have TG := Aside0.mk hg
 have AG := Aside0.mk hag
 have QG := Aside0.mk hqg
 have HA := Aside0.mk hA
 have HQ := Aside0.mk hQ
 have HR := Aside0.mk hr
 clear hS hf hT hTab hm8 hb8 hg hag hqg hA hQ hr
 have ca := (blk_cell HA.out 0).trans rfl
 have cq := (blk_cell HQ.out 0).trans rfl
 go_enter Try.func101, Try.ntmps101
 go_wp2_with (first
  | ((with_reducible refine gate_callee (f := 102) rfl ?_); refine goesL_ (some 9) rfl rfl Try.func102 (by kernel_rfl) rfl #[.pointer (some ⟨g, 0, none⟩), .bool q, .int .i64 (r : Int)] rfl (by (try simp only [List.map_toArray, List.map_cons, List.map_nil]); first | done | rfl) ?_; (with_reducible refine (add_calls q HR.out HS.out HF.out).mono ?_); rintro e w11 ⟨rfl, ⟨cs1, hs2, hf2⟩, hb⟩; refine ⟨_, rfl, ?_⟩; clear ca cq; replace HS := Aside0.mk hs2; have HF1 := Aside0.mk hf2; replace HT := Aside0.mk ((hb.block gt TG.out).trans HT.out); replace HA := Aside0.mk ((hb.block ba AG.out).trans HA.out); replace HQ := Aside0.mk ((hb.block bq QG.out).trans HQ.out); replace HB := Aside0.mk (HB.out.trans hb); clear hs2 hf2 hb; have ca := (blk_cell HA.out 0).trans rfl; have cq := (blk_cell HQ.out 0).trans rfl)
  | (go_at_call 102; (with_reducible refine (add_calls q HR.out HS.out HF.out).mono ?_); rintro e w11 ⟨rfl, ⟨cs1, hs2, hf2⟩, hb⟩; clear ca cq; replace HS := Aside0.mk hs2; have HF1 := Aside0.mk hf2; replace HT := Aside0.mk ((hb.block gt TG.out).trans HT.out); replace HA := Aside0.mk ((hb.block ba AG.out).trans HA.out); replace HQ := Aside0.mk ((hb.block bq QG.out).trans HQ.out); replace HB := Aside0.mk (HB.out.trans hb); clear hs2 hf2 hb; have ca := (blk_cell HA.out 0).trans rfl; have cq := (blk_cell HQ.out 0).trans rfl)
  | ((with_reducible refine gate_callee (f := 103) rfl ?_); refine goesL_ (some 14) rfl rfl Try.func103 (by kernel_rfl) rfl #[.pointer (some ⟨g, 0, none⟩), .pointer (some ⟨gt, 0, none⟩)] rfl (by (try simp only [List.map_toArray, List.map_cons, List.map_nil]); first | done | rfl) ?_; (with_reducible refine (swap_calls (off := 0) (by_ := bx) HT.out (fun b hb => by rw [Nat.zero_add]; exact TB.out.box b hb) B8.out HS.out HF1.out TG.out).mono ?_); rintro e w12 ⟨rfl, ⟨cs2, hs2, hf2⟩, hb⟩; refine ⟨_, rfl, ?_⟩; clear ca cq; replace HS := Aside0.mk hs2; have HF2 := Aside0.mk hf2; replace HT := Aside0.mk ((hb.block gt TG.out).trans HT.out); replace HA := Aside0.mk ((hb.block ba AG.out).trans HA.out); replace HQ := Aside0.mk ((hb.block bq QG.out).trans HQ.out); replace HB := Aside0.mk (HB.out.trans hb); clear hs2 hf2 hb; have ca := (blk_cell HA.out 0).trans rfl; have cq := (blk_cell HQ.out 0).trans rfl)
  | (go_at_call 103; (with_reducible refine (swap_calls (off := 0) (by_ := bx) HT.out (fun b hb => by rw [Nat.zero_add]; exact TB.out.box b hb) B8.out HS.out HF1.out TG.out).mono ?_); rintro e w12 ⟨rfl, ⟨cs2, hs2, hf2⟩, hb⟩; clear ca cq; replace HS := Aside0.mk hs2; have HF2 := Aside0.mk hf2; replace HT := Aside0.mk ((hb.block gt TG.out).trans HT.out); replace HA := Aside0.mk ((hb.block ba AG.out).trans HA.out); replace HQ := Aside0.mk ((hb.block bq QG.out).trans HQ.out); replace HB := Aside0.mk (HB.out.trans hb); clear hs2 hf2 hb; have ca := (blk_cell HA.out 0).trans rfl; have cq := (blk_cell HQ.out 0).trans rfl)
  | ((with_reducible refine gate_callee (f := 104) rfl ?_); refine goesL_ (some 17) rfl rfl Try.func104 (by kernel_rfl) rfl #[.pointer (some ⟨g, 0, none⟩), .bool q, .bool false] rfl (by (try simp only [List.map_toArray, List.map_cons, List.map_nil]); first | done | rfl) ?_; (with_reducible refine (turn_calls q false HS.out HF2.out).mono ?_); rintro e w13 ⟨rfl, ⟨cs3, hs2, hf2⟩, hb⟩; refine ⟨_, rfl, ?_⟩; clear ca cq; replace HS := Aside0.mk hs2; have HF3 := Aside0.mk hf2; replace HT := Aside0.mk ((hb.block gt TG.out).trans HT.out); replace HA := Aside0.mk ((hb.block ba AG.out).trans HA.out); replace HQ := Aside0.mk ((hb.block bq QG.out).trans HQ.out); replace HB := Aside0.mk (HB.out.trans hb); clear hs2 hf2 hb; have ca := (blk_cell HA.out 0).trans rfl; have cq := (blk_cell HQ.out 0).trans rfl)
  | (go_at_call 104; (with_reducible refine (turn_calls q false HS.out HF2.out).mono ?_); rintro e w13 ⟨rfl, ⟨cs3, hs2, hf2⟩, hb⟩; clear ca cq; replace HS := Aside0.mk hs2; have HF3 := Aside0.mk hf2; replace HT := Aside0.mk ((hb.block gt TG.out).trans HT.out); replace HA := Aside0.mk ((hb.block ba AG.out).trans HA.out); replace HQ := Aside0.mk ((hb.block bq QG.out).trans HQ.out); replace HB := Aside0.mk (HB.out.trans hb); clear hs2 hf2 hb; have ca := (blk_cell HA.out 0).trans rfl; have cq := (blk_cell HQ.out 0).trans rfl)
  | ((with_reducible refine gate_callee (f := 105) rfl ?_); refine goesL_ (some 20) rfl rfl Try.func105 (by kernel_rfl) rfl #[.pointer (some ⟨g, 0, none⟩), .pointer (some ⟨gt, 0, none⟩)] rfl (by (try simp only [List.map_toArray, List.map_cons, List.map_nil]); first | done | rfl) ?_; (with_reducible refine (mix_calls M8.out HT.out TB.out TG.out HS.out HF3.out).mono ?_); rintro e w14 ⟨rfl, ⟨cs4, hs2, hf2⟩, hb⟩; refine ⟨_, rfl, ?_⟩; clear ca cq; replace HS := Aside0.mk hs2; have HF4 := Aside0.mk hf2; replace HT := Aside0.mk ((hb.block gt TG.out).trans HT.out); replace HA := Aside0.mk ((hb.block ba AG.out).trans HA.out); replace HQ := Aside0.mk ((hb.block bq QG.out).trans HQ.out); replace HB := Aside0.mk (HB.out.trans hb); clear hs2 hf2 hb; have ca := (blk_cell HA.out 0).trans rfl; have cq := (blk_cell HQ.out 0).trans rfl)
  | (go_at_call 105; (with_reducible refine (mix_calls M8.out HT.out TB.out TG.out HS.out HF3.out).mono ?_); rintro e w14 ⟨rfl, ⟨cs4, hs2, hf2⟩, hb⟩; clear ca cq; replace HS := Aside0.mk hs2; have HF4 := Aside0.mk hf2; replace HT := Aside0.mk ((hb.block gt TG.out).trans HT.out); replace HA := Aside0.mk ((hb.block ba AG.out).trans HA.out); replace HQ := Aside0.mk ((hb.block bq QG.out).trans HQ.out); replace HB := Aside0.mk (HB.out.trans hb); clear hs2 hf2 hb; have ca := (blk_cell HA.out 0).trans rfl; have cq := (blk_cell HQ.out 0).trans rfl))
 go_end0
 exact ⟨rfl, ⟨_, HS.out, HF4.out⟩, HB.out⟩
end Go.Proofs.Ytmibjgjgfombaaa.P
end

section
/- A way over 64 bytes (layer 10). Conditions: those that each theorem names. Printed by gen_st.py. -/
set_option linter.unusedVariables false
set_option linter.unusedSimpArgs false
set_option maxRecDepth 100000
namespace Go.Proofs.Ytmibjgjgfombaaa.P
open Go.RowKit Go.Proofs.YtmibjgjgfombaaaX Go.Proofs.YtmibjgjgfombaaaW.PrintWords Go.Proofs.YtmibjgjgfombaaaW.PrintLast Go.Proofs.YtmibjgjgfombaaaW.PrintMore
attribute [local go_sem] zero_st
/-- A byte of a string. -/
def bF (s : ByteArray) (n : Nat) : Nat := (s.data.toList.getD n 0).toNat
theorem bF_lt (s : ByteArray) (n : Nat) : bF s n < 256 := (s.data.toList.getD n 0).toBitVec.isLt
/-- The text of 64 bytes. -/
def strF (f : Nat → Nat) : ByteArray := strOfNums ((List.range 64).map fun n => (f n : Int))
def iterW (F : Nat → (Nat → Nat) → Nat → Nat) (f : Nat → Nat) : Nat → Nat → Nat
  | 0 => f
  | k + 1 => F k (iterW F f k)
theorem setCells_heap {b : Nat} {t : TypeId} : ∀ (vs : List Value) (o : Nat) (w : World) (cs : Array Value), w.heap[b]? = some (.cells cs t (0, 0)) → o + vs.length ≤ cs.size →
    ∃ cs', (w.setCells b o vs).heap[b]? = some (.cells cs' t (0, 0)) ∧ cs'.size = cs.size ∧ ∀ n, cs'[n]? = if o ≤ n ∧ n < o + vs.length then vs[n - o]? else cs[n]?
  | [], o, w, cs, h, _ => ⟨cs, h, rfl, fun n => by rw [if_neg (by simp only [List.length_nil]; omega)]⟩
  | v :: vs, o, w, cs, h, hl => by
    simp only [List.length_cons] at hl
    obtain ⟨cs', h1, h2, h3⟩ := setCells_heap vs (o + 1) (w.setCell ⟨b, o, none⟩ v) (cs.setIfInBounds o v) (blk_put h o v rfl) (by rw [Array.size_setIfInBounds]; omega)
    refine ⟨cs', h1, by rw [h2, Array.size_setIfInBounds], fun n => ?_⟩
    rw [h3 n]
    simp only [List.length_cons]
    by_cases c : n = o
    · subst c
      rw [if_neg (by omega), if_pos (by omega), set_at (by omega), Nat.sub_self]
      rfl
    · by_cases c2 : o ≤ n ∧ n < o + (vs.length + 1)
      · rw [if_pos c2, if_pos (by omega), show n - o = (n - (o + 1)) + 1 by omega, List.getElem?_cons_succ]
      · rw [if_neg c2, if_neg (by omega), set_ne (fun e => c e.symm)]
theorem sta_of_copy {s : ByteArray} {b : Nat} {w : World} (h : w.heap[b]? = some (.cells zSt 138 (0, 0))) (hs : s.size = 64) :
    ∃ cs', (w.setCells b 0 (s.data.toList.map fun x => Value.int .u8 (x.toNat : Int))).heap[b]? = some (.cells cs' 138 (0, 0)) ∧ Sta (bF s) cs' := by
  have hl : s.data.toList.length = 64 := by rw [Array.length_toList]; exact hs
  obtain ⟨cs', h1, h2, h3⟩ := setCells_heap (s.data.toList.map fun x => Value.int .u8 (x.toNat : Int)) 0 w zSt h (by rw [List.length_map, hl, zSt_size]; decide)
  refine ⟨cs', h1, by rw [h2, zSt_size], fun n hn => ?_, fun n _ => bF_lt s n⟩
  rw [h3 n, if_pos (by rw [List.length_map, hl]; omega), Nat.sub_zero, List.getElem?_map, List.getElem?_eq_getElem (by omega)]
  unfold bF
  rw [List.getD_eq_getElem?_getD, List.getElem?_eq_getElem (by omega)]
  rfl
theorem sta_string {g : Nat} {cs : Array Value} {f : Nat → Nat} {w : World} (h : w.heap[g]? = some (.cells cs 138 (0, 0))) (hf : Sta f cs) : (convert 97 9 (.slice (some ⟨g, 0, none⟩) 64 64)).run Try.prog w = .ok (.string (strF f)) w := by
  refine string_of_reads Try.underlying97 Try.underlying5 Try.underlying9 ⟨?_, by decide, fun _ => ⟨_, rfl, fun j hj => ?_⟩⟩
  · rw [List.length_map, List.length_range]
  · rw [show (Addr.add ⟨g, 0, none⟩ j : Addr) = ⟨g, j, none⟩ by unfold Addr.add; by_cases c : j = 0 <;> simp [c], blk_cell h j, hf.cell j hj, List.getD_eq_getElem?_getD, List.getElem?_map, List.getElem?_range hj]
    rfl
theorem byte_size (w : World) : (Go.sizeOf 5).run Try.prog w = .ok 1 w := by
  have hi : (Try.prog.info? 5).map (·.size) = some 1 := by kernel_rfl
  cases h : Try.prog.info? 5 with
  | none => rw [h] at hi; cases hi
  | some i =>
    rw [h] at hi
    simp only [Option.map_some, Option.some.injEq] at hi
    simp [sizeOf, typeInfo, h, hi]
set_option maxHeartbeats 8000000 in
set_option maxRecDepth 100000 in
theorem walk_on {gt : Nat} {w : World} (s : ByteArray) (hs : s.size = 64) (F : Nat → (Nat → Nat) → Nat → Nat) (c1 c2 : Value)
  (hdo : Aside0 (∀ (W : World) (g : Nat) (cs : Array Value) (f : Nat → Nat) (r : Nat), r < 6 → Below w.heap.size w W → w.heap.size ≤ g → W.heap[g]? = some (.cells cs 138 (0, 0)) → Sta f cs →
    Calls Try.prog 101 #[.pointer (some ⟨g, 0, none⟩), .int .i64 (r : Int), c1, c2] W fun e w' => e = .returned (.tuple #[]) ∧ (∃ cs', w'.heap[g]? = some (.cells cs' 138 (0, 0)) ∧ Sta (F r f) cs') ∧ Below g W w')) :
  Calls Try.prog 88 #[.pointer (some ⟨gt, 0, none⟩), .string s, .func (.func 101) #[] #[c1, c2]] w fun e w' => e = .returned (.tuple #[.string (strF (iterW F (bF s) 6)), .int .i64 0]) ∧ Below w.heap.size w w' := by
 have HB := Aside0.mk (Below.refl w.heap.size w)
 have h64 : ((s.size : Int) != 64) = false := by rw [hs]; rfl
 have HZ := Aside0.mk hs
 clear hs
 go_enter Try.func88, Try.ntmps88
 go_wp2_with (first
  | ((with_reducible refine gate_dst (N := 8) rfl ?_); refine box_event ?hg (N := 8) ?hd (cs := zSt) (t := 138) ?hr ?_; (case hd => rfl); (case hg => rfl); (case hr => first | (go_simp; done) | (go_simp; rfl)); intro g hg2 w2 hbox hb; have HS := Aside0.mk hbox; have GE := Aside0.mk (Nat.le_of_eq hg2.symm); replace HB := bh HB hb; clear hb hbox hg2)
  | ((with_reducible refine gate_dst (N := 19) rfl ?_); refine Lib.wpList_copy_run _ rfl (.tmp 17) (.tmp 18) 97 9 rfl _ _ rfl rfl (run_copy_string _ 97 9 3 5 g 0 64 64 s Try.underlying97 byte_size (Nat.le_of_eq HZ.out) (fun j hj => by rw [Nat.zero_add, blk_cell HS.out j, zSt_at (by have := HZ.out; omega)]; rfl) (fun j _ => blk_frozen HS.out _)) ?_; obtain ⟨cs1, hs1, hf1⟩ := sta_of_copy HS.out HZ.out; replace HS := Aside0.mk hs1; have HF := Aside0.mk hf1; replace HB := Aside0.mk (below_setCells GE.out (s.data.toList.map fun x => Value.int .u8 (x.toNat : Int)) 0 _ HB.out); clear hs1 hf1; (generalize World.setCells _ g 0 (s.data.toList.map fun x => Value.int .u8 (x.toNat : Int)) = w4 at HS HB ⊢)))
 go_loopg [20] 6 (fun kq v20 w' => ∃ (i : Nat) (cs : Array Value), v20 = .int .i64 (i : Int) ∧ Aside0 (i + kq = 6) ∧ Aside0 (w'.heap[g]? = some (.cells cs 138 (0, 0))) ∧ Aside0 (Sta (iterW F (bF s) i) cs) ∧ Aside0 (Below w.heap.size w w'))
 case atStart => exact ⟨0, _, rfl, ⟨rfl⟩, HS, HF, HB⟩
 case round =>
  clear HS HB HF
  obtain ⟨i, cs, rfl, HK, HS, HF, HB⟩ := hrel
  cases gk with
  | succ k2 =>
   have hi : i < 6 := by have := HK.out; omega
   have HI := Aside0.mk hi
   have d0 : decide ((i : Int) < 6) = true := decide_eq_true (by omega)
   have d1 : decide (i < 6) = true := decide_eq_true hi
   clear hi
   go_wp2_with (first
    | ((with_reducible refine gate_callee (f := 101) rfl ?_); refine goesL_ (some 25) rfl rfl Try.func101 (by kernel_rfl) rfl #[.pointer (some ⟨g, 0, none⟩), .int .i64 (i : Int), c1, c2] rfl (by (try simp only [List.map_toArray, List.map_cons, List.map_nil]); first | done | rfl) ?_; (with_reducible refine (hdo.out _ g cs (iterW F (bF s) i) i HI.out HB.out GE.out HS.out HF.out).mono ?_); rintro e w11 ⟨rfl, ⟨cs2, hs2, hf2⟩, hb⟩; refine ⟨_, rfl, ?_⟩; replace HS := Aside0.mk hs2; replace HF : Aside0 (Sta (iterW F (bF s) (i + 1)) cs2) := ⟨hf2⟩; replace HB := Aside0.mk (HB.out.trans (hb.mono GE.out)); clear hs2 hf2 hb)
    | (go_at_call 101; (with_reducible refine (hdo.out _ g cs (iterW F (bF s) i) i HI.out HB.out GE.out HS.out HF.out).mono ?_); rintro e w11 ⟨rfl, ⟨cs2, hs2, hf2⟩, hb⟩; replace HS := Aside0.mk hs2; replace HF : Aside0 (Sta (iterW F (bF s) (i + 1)) cs2) := ⟨hf2⟩; replace HB := Aside0.mk (HB.out.trans (hb.mono GE.out)); clear hs2 hf2 hb))
   go_roundg k2
   case measure => omega
   case rel =>
    have hi := HI.out
    exact ⟨i + 1, cs2, by rw [step_1 (by omega)], ⟨by have := HK.out; omega⟩, HS, HF, HB⟩
  | zero =>
   obtain rfl : i = 6 := by have := HK.out; omega
   clear HK
   have hcv := sta_string HS.out HF.out
   go_wp2
   go_ret2
   exact ⟨rfl, HB.out⟩
set_option maxHeartbeats 8000000 in
set_option maxRecDepth 100000 in
theorem on_calls (pv : Option Addr) (q : Bool) (w : World) :
  Calls Try.prog 89 #[.pointer pv, .bool q] w fun e w' => ∃ ba bq, e = .returned (.func (.func 101) #[] #[.pointer (some ⟨bq, 0, none⟩), .pointer (some ⟨ba, 0, none⟩)]) ∧ w'.heap[ba]? = some (.cells #[.pointer pv] 25 (0, 0)) ∧ w'.heap[bq]? = some (.cells #[.bool q] 4 (0, 0)) ∧ Below w.heap.size w w' := by
 have HB := Aside0.mk (Below.refl w.heap.size w)
 have hmf : ∀ (fn : Fn) (first cap : Array Value) (w : World), (Instr.makeFunc fn first cap).run Try.prog w = .ok (.func fn first cap) w := fun _ _ _ _ => rfl
 go_enter Try.func89, Try.ntmps89
 go_wp2_with (first
  | ((with_reducible refine gate_dst (N := 2) rfl ?_); refine box_event ?hg (N := 2) ?hd (cs := #[.pointer pv]) (t := 25) ?hr ?_; (case hd => rfl); (case hg => rfl); (case hr => first | (go_simp; done) | (go_simp; rfl)); intro ba hg1 w1 hbox hb; have HA := Aside0.mk hbox; replace HB := bh HB hb; clear hb hbox hg1)
  | ((with_reducible refine gate_dst (N := 3) rfl ?_); refine box_event ?hg (N := 3) ?hd (cs := #[.bool q]) (t := 4) ?hr ?_; (case hd => rfl); (case hg => rfl); (case hr => first | (go_simp; done) | (go_simp; rfl)); intro bq hg1 w2 hbox hb; have HQ := Aside0.mk hbox; replace HA := bb HA hb; replace HB := bh HB hb; clear hb hbox hg1))
 go_ret
 exact ⟨ba, bq, rfl, HA.out, HQ.out, HB.out⟩
set_option maxHeartbeats 8000000 in
set_option maxRecDepth 100000 in
theorem walk_nil {w : World} (s : ByteArray) (fv : Value) :
  Calls Try.prog 88 #[.pointer none, .string s, fv] w fun e w' => e = .returned (.tuple #[.string ⟨#[]⟩, .int .i64 1]) ∧ Below w.heap.size w w' := by
 have HB := Aside0.mk (Below.refl w.heap.size w)
 go_enter Try.func88, Try.ntmps88
 go_wp2
 go_ret2
 exact ⟨rfl, HB.out⟩
/-- A way. -/
def wayF (bx : Nat → Nat) (ml : Nat → Nat → Nat) (q : Bool) (f : Nat → Nat) : Nat → Nat := iterW (roundF bx ml q) f 6
theorem wayP {bx : Nat → Nat} {ml : Nat → Nat → Nat} {gt : Nat} {ct : Array Value} {w : World} (hm8 : ∀ b q : Nat, b < 256 → q ∈ mixL → ml q b < 256) (hb8 : ∀ b, b < 256 → bx b < 256) (hT : w.heap[gt]? = some (.cells ct 67 (0, 0))) (hTab : Tab bx ml 256 256 256 0 ct) (q : Bool) {ba bq : Nat} (hA : w.heap[ba]? = some (.cells #[.pointer (some ⟨gt, 0, none⟩)] 25 (0, 0))) (hQ : w.heap[bq]? = some (.cells #[.bool q] 4 (0, 0))) (s : ByteArray) (hs : s.size = 64) :
  Calls Try.prog 88 #[.pointer (some ⟨gt, 0, none⟩), .string s, .func (.func 101) #[] #[.pointer (some ⟨bq, 0, none⟩), .pointer (some ⟨ba, 0, none⟩)]] w fun e w' => e = .returned (.tuple #[.string (strF (wayF bx ml q (bF s))), .int .i64 0]) ∧ Below w.heap.size w w' :=
  walk_on s hs (roundF bx ml q) _ _ ⟨fun W g cs f r hr hb hg hS hf => on1_calls hm8 hb8 (blk_below hT hb) hTab (Nat.lt_of_lt_of_le (blk_lt hT) hg) hS hf hr (blk_below hA hb) (blk_below hQ hb) (Nat.lt_of_lt_of_le (blk_lt hA) hg) (Nat.lt_of_lt_of_le (blk_lt hQ) hg)⟩
set_option maxHeartbeats 8000000 in
set_option maxRecDepth 100000 in
theorem P_calls {bx : Nat → Nat} {ml : Nat → Nat → Nat} {gt : Nat} {ct : Array Value} {w : World} (hm8 : ∀ b q : Nat, b < 256 → q ∈ mixL → ml q b < 256) (hb8 : ∀ b, b < 256 → bx b < 256) (hT : w.heap[gt]? = some (.cells ct 67 (0, 0))) (hTab : Tab bx ml 256 256 256 0 ct) (s : ByteArray) (hs : s.size = 64) :
  Calls Try.prog 68 #[.pointer (some ⟨gt, 0, none⟩), .string s] w fun e w' => e = .returned (.tuple #[.string (strF (wayF bx ml false (bF s))), .int .i64 0]) ∧ Below w.heap.size w w' := by
 have HB := Aside0.mk (Below.refl w.heap.size w)
 have HT := Aside0.mk hT
 have TB := Aside0.mk hTab
 have M8 := Aside0.mk hm8
 have B8 := Aside0.mk hb8
 have HZ := Aside0.mk hs
 clear hT hTab hm8 hb8 hs
 go_enter Try.func68, Try.ntmps68
 go_wp2_with (first
  | ((with_reducible refine gate_callee (f := 89) rfl ?_); refine goesL_ (some 9) rfl rfl Try.func89 (by kernel_rfl) rfl #[.pointer (some ⟨gt, 0, none⟩), .bool false] rfl (by (try simp only [List.map_toArray, List.map_cons, List.map_nil]); first | done | rfl) ?_; (with_reducible refine (on_calls (some ⟨gt, 0, none⟩) false _).mono ?_); rintro e w11 ⟨ba, bq, rfl, ha, hq, hb⟩; refine ⟨_, rfl, ?_⟩; replace HT := bb HT hb; replace HB := bh HB hb; have HA := Aside0.mk ha; have HQ := Aside0.mk hq; clear ha hq hb)
  | (go_at_call 89; (with_reducible refine (on_calls (some ⟨gt, 0, none⟩) false _).mono ?_); rintro e w11 ⟨ba, bq, rfl, ha, hq, hb⟩; replace HT := bb HT hb; replace HB := bh HB hb; have HA := Aside0.mk ha; have HQ := Aside0.mk hq; clear ha hq hb)
  | ((with_reducible refine gate_callee (f := 88) rfl ?_); refine goesL_ (some 10) rfl rfl Try.func88 (by kernel_rfl) rfl #[.pointer (some ⟨gt, 0, none⟩), .string s, .func (.func 101) #[] #[.pointer (some ⟨bq, 0, none⟩), .pointer (some ⟨ba, 0, none⟩)]] rfl (by (try simp only [List.map_toArray, List.map_cons, List.map_nil]); first | done | rfl) ?_; (with_reducible refine (wayP M8.out B8.out HT.out TB.out false HA.out HQ.out s HZ.out).mono ?_); rintro e w12 ⟨rfl, hb⟩; refine ⟨_, rfl, ?_⟩; replace HB := bh HB hb; clear hb)
  | (go_at_call 88; (with_reducible refine (wayP M8.out B8.out HT.out TB.out false HA.out HQ.out s HZ.out).mono ?_); rintro e w12 ⟨rfl, hb⟩; replace HB := bh HB hb; clear hb))
 go_ret2
 exact ⟨rfl, HB.out⟩
set_option maxHeartbeats 8000000 in
set_option maxRecDepth 100000 in
theorem Q_calls {bx : Nat → Nat} {ml : Nat → Nat → Nat} {gt : Nat} {ct : Array Value} {w : World} (hm8 : ∀ b q : Nat, b < 256 → q ∈ mixL → ml q b < 256) (hb8 : ∀ b, b < 256 → bx b < 256) (hT : w.heap[gt]? = some (.cells ct 67 (0, 0))) (hTab : Tab bx ml 256 256 256 0 ct) (s : ByteArray) (hs : s.size = 64) :
  Calls Try.prog 70 #[.pointer (some ⟨gt, 0, none⟩), .string s] w fun e w' => e = .returned (.tuple #[.string (strF (wayF bx ml true (bF s))), .int .i64 0]) ∧ Below w.heap.size w w' := by
 have HB := Aside0.mk (Below.refl w.heap.size w)
 have HT := Aside0.mk hT
 have TB := Aside0.mk hTab
 have M8 := Aside0.mk hm8
 have B8 := Aside0.mk hb8
 have HZ := Aside0.mk hs
 clear hT hTab hm8 hb8 hs
 go_enter Try.func70, Try.ntmps70
 go_wp2_with (first
  | ((with_reducible refine gate_callee (f := 89) rfl ?_); refine goesL_ (some 9) rfl rfl Try.func89 (by kernel_rfl) rfl #[.pointer (some ⟨gt, 0, none⟩), .bool true] rfl (by (try simp only [List.map_toArray, List.map_cons, List.map_nil]); first | done | rfl) ?_; (with_reducible refine (on_calls (some ⟨gt, 0, none⟩) true _).mono ?_); rintro e w11 ⟨ba, bq, rfl, ha, hq, hb⟩; refine ⟨_, rfl, ?_⟩; replace HT := bb HT hb; replace HB := bh HB hb; have HA := Aside0.mk ha; have HQ := Aside0.mk hq; clear ha hq hb)
  | (go_at_call 89; (with_reducible refine (on_calls (some ⟨gt, 0, none⟩) true _).mono ?_); rintro e w11 ⟨ba, bq, rfl, ha, hq, hb⟩; replace HT := bb HT hb; replace HB := bh HB hb; have HA := Aside0.mk ha; have HQ := Aside0.mk hq; clear ha hq hb)
  | ((with_reducible refine gate_callee (f := 88) rfl ?_); refine goesL_ (some 10) rfl rfl Try.func88 (by kernel_rfl) rfl #[.pointer (some ⟨gt, 0, none⟩), .string s, .func (.func 101) #[] #[.pointer (some ⟨bq, 0, none⟩), .pointer (some ⟨ba, 0, none⟩)]] rfl (by (try simp only [List.map_toArray, List.map_cons, List.map_nil]); first | done | rfl) ?_; (with_reducible refine (wayP M8.out B8.out HT.out TB.out true HA.out HQ.out s HZ.out).mono ?_); rintro e w12 ⟨rfl, hb⟩; refine ⟨_, rfl, ?_⟩; replace HB := bh HB hb; clear hb)
  | (go_at_call 88; (with_reducible refine (wayP M8.out B8.out HT.out TB.out true HA.out HQ.out s HZ.out).mono ?_); rintro e w12 ⟨rfl, hb⟩; replace HB := bh HB hb; clear hb))
 go_ret2
 exact ⟨rfl, HB.out⟩
set_option maxHeartbeats 8000000 in
set_option maxRecDepth 100000 in
theorem Q_nil {w : World} (s : ByteArray) :
  Calls Try.prog 70 #[.pointer none, .string s] w fun e w' => e = .returned (.tuple #[.string ⟨#[]⟩, .int .i64 1]) ∧ Below w.heap.size w w' := by
 have HB := Aside0.mk (Below.refl w.heap.size w)
 go_enter Try.func70, Try.ntmps70
 go_wp2_with (first
  | ((with_reducible refine gate_callee (f := 89) rfl ?_); refine goesL_ (some 9) rfl rfl Try.func89 (by kernel_rfl) rfl #[.pointer none, .bool true] rfl (by (try simp only [List.map_toArray, List.map_cons, List.map_nil]); first | done | rfl) ?_; (with_reducible refine (on_calls none true _).mono ?_); rintro e w11 ⟨ba, bq, rfl, ha, hq, hb⟩; refine ⟨_, rfl, ?_⟩; replace HB := bh HB hb; have HA := Aside0.mk ha; have HQ := Aside0.mk hq; clear ha hq hb)
  | (go_at_call 89; (with_reducible refine (on_calls none true _).mono ?_); rintro e w11 ⟨ba, bq, rfl, ha, hq, hb⟩; replace HB := bh HB hb; have HA := Aside0.mk ha; have HQ := Aside0.mk hq; clear ha hq hb)
  | ((with_reducible refine gate_callee (f := 88) rfl ?_); refine goesL_ (some 10) rfl rfl Try.func88 (by kernel_rfl) rfl #[.pointer none, .string s, .func (.func 101) #[] #[.pointer (some ⟨bq, 0, none⟩), .pointer (some ⟨ba, 0, none⟩)]] rfl (by (try simp only [List.map_toArray, List.map_cons, List.map_nil]); first | done | rfl) ?_; (with_reducible refine (walk_nil s _).mono ?_); rintro e w12 ⟨rfl, hb⟩; refine ⟨_, rfl, ?_⟩; replace HB := bh HB hb; clear hb)
  | (go_at_call 88; (with_reducible refine (walk_nil s _).mono ?_); rintro e w12 ⟨rfl, hb⟩; replace HB := bh HB hb; clear hb))
 go_ret2
 exact ⟨rfl, HB.out⟩
end Go.Proofs.Ytmibjgjgfombaaa.P
end
