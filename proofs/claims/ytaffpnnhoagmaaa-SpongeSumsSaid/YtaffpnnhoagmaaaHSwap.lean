/- Each byte of a state becomes another one (layer 10). Conditions: those that each theorem names. -/
import Derived.Test.YtaffpnnhoagmaaaHSta
set_option linter.unusedVariables false
set_option linter.unusedSimpArgs false
namespace Go.Proofs.Ytaffpnnhoagmaaa.P
open Go.RowKit Go.Proofs.YtaffpnnhoagmaaaX Go.Proofs.YtaffpnnhoagmaaaW.PrintWords Go.Proofs.YtaffpnnhoagmaaaW.PrintLast Go.Proofs.YtaffpnnhoagmaaaW.PrintMore
set_option maxHeartbeats 8000000 in
set_option maxRecDepth 100000 in
theorem swap_calls {gt g off : Nat} {ct cs : Array Value} {w : World} {f by_ : Nat → Nat} (hT : w.heap[gt]? = some (.cells ct 54 (0, 0))) (hby : ∀ b, b < 256 → ct[off + b]? = some (.int .u8 (by_ b : Int))) (hlt : ∀ b, b < 256 → by_ b < 256)
  (hS : w.heap[g]? = some (.cells cs 101 (0, 0))) (hf : Sta f cs) (hg : gt < g) :
  Calls Try.prog 71 #[.pointer (some ⟨g, 0, none⟩), .pointer (some ⟨gt, off, none⟩)] w fun e w' => e = .returned (.tuple #[]) ∧ (∃ cs', w'.heap[g]? = some (.cells cs' 101 (0, 0)) ∧ Sta (fun n => by_ (f n)) cs') ∧ Below g w w' := by
 have HB := Aside0.mk (Below.refl g w)
 have HT := Aside0.mk hT
 have HY := Aside0.mk hby
 have HL := Aside0.mk hlt
 have HS := Aside0.mk hS
 have HF := Aside0.mk hf
 have HG := Aside0.mk hg
 clear hT hby hlt hS hf hg
 go_enter Try.func71, Try.ntmps71
 go_wp2
 go_loopg [5] 64 (fun kq v5 w' => ∃ (i : Nat) (cs : Array Value), v5 = .int .i64 (i : Int) ∧ Aside0 (i + kq = 64) ∧ Aside0 (w'.heap[g]? = some (.cells cs 101 (0, 0))) ∧ Aside0 (w'.heap[gt]? = some (.cells ct 54 (0, 0))) ∧ Aside0 (Sta (fun n => if n < i then by_ (f n) else f n) cs) ∧ Aside0 (Below g w w'))
 case atStart => exact ⟨0, _, rfl, ⟨rfl⟩, HS, HT, ⟨HF.out.congr (fun n _ => by rw [if_neg (by omega)])⟩, HB⟩
 case round =>
  clear HS HT HB
  obtain ⟨i, cs, rfl, HM, HS, HT, HW, HB⟩ := hrel
  cases gk with
  | zero =>
   obtain rfl : i = 64 := by have := HM.out; omega
   go_wp2
   go_end0
   exact ⟨rfl, ⟨cs, HS.out, HW.out.congr (fun n hn => by rw [if_pos hn])⟩, HB.out⟩
  | succ k2 =>
   have hi : i < 64 := by have := HM.out; omega
   have HI := Aside0.mk hi
   have d0 : decide ((i : Int) < 64) = true := decide_eq_true (by omega)
   have d1 : decide (i < 64) = true := decide_eq_true hi
   have p0 : ((i : Int) < 64) = True := eq_true (by omega)
   have fl : f i < 256 := by have := HF.out.lt i hi; omega
   have p1 : ((f i : Int) < 256) = True := eq_true (by omega)
   have hc : wr.cell? ⟨g, i, none⟩ = some (.int .u8 (f i : Int)) := (blk_cell HS.out i).trans (by rw [HW.out.cell i hi, if_neg (by omega)])
   have hz : wr.frozen? ⟨g, i, none⟩ = false := blk_frozen HS.out i
   have ht : wr.cell? ⟨gt, off + f i, none⟩ = some (.int .u8 (by_ (f i) : Int)) := (blk_cell HT.out _).trans (HY.out _ fl)
   clear hi
   go_wp2
   go_still_tail 13, (by kernel_rfl)
   change wpList _ _ _ _ _ wr.drew
   replace HS := Aside0.mk (blk_drew HS.out)
   replace HT := Aside0.mk (blk_drew HT.out)
   replace HB := Aside0.mk (below_drew1 HB.out)
   clear hc hz ht
   generalize wr.drew = w4 at HS HT HB ⊢
   have hc : w4.cell? ⟨g, i, none⟩ = some (.int .u8 (f i : Int)) := (blk_cell HS.out i).trans (by rw [HW.out.cell i HI.out, if_neg (by omega)])
   have hz : w4.frozen? ⟨g, i, none⟩ = false := blk_frozen HS.out i
   go_wp2
   go_roundg k2
   case measure => omega
   case rel =>
    have hi := HI.out
    refine ⟨i + 1, _, by rw [show wrap64 ((i : Int) + 1) = ((i + 1 : Nat) : Int) by unfold wrap64; omega], ⟨by have := HM.out; omega⟩, ⟨blk_put HS.out i _ rfl⟩, ⟨blk_far HT.out (Nat.ne_of_lt HG.out) _⟩, ⟨HW.out.set HI.out (HL.out _ fl) rfl (fun n hn => ?_)⟩, ⟨HB.out.setCell (Nat.le_refl _) _⟩⟩
    by_cases c : n = i
    · subst c
      rw [if_pos (by omega), if_pos rfl]
    · rw [if_neg c]
      by_cases c2 : n < i
      · rw [if_pos (by omega), if_pos c2]
      · rw [if_neg (by omega), if_neg c2]
end Go.Proofs.Ytaffpnnhoagmaaa.P
