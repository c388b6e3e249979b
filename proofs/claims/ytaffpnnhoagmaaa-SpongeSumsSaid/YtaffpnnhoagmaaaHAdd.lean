/- The round's numbers are added to a state (layer 10). Conditions: those that each theorem names. Printed by gen_st.py. -/
import Derived.Test.YtaffpnnhoagmaaaHSta
set_option linter.unusedVariables false
set_option linter.unusedSimpArgs false
set_option maxRecDepth 100000
namespace Go.Proofs.Ytaffpnnhoagmaaa.P
open Go.RowKit Go.Proofs.YtaffpnnhoagmaaaX Go.Proofs.YtaffpnnhoagmaaaW.PrintWords Go.Proofs.YtaffpnnhoagmaaaW.PrintLast Go.Proofs.YtaffpnnhoagmaaaW.PrintMore
/-- The row that a round's numbers are added to. -/
def rowF (q : Bool) : Nat := if q then 7 else 0
/-- A state to which a round's numbers are added. -/
def addF (q : Bool) (r : Nat) (f : Nat → Nat) (n : Nat) : Nat :=
  if n % 8 = rowF q then (if q then f n ^^^ 255 else f n) ^^^ ((16 * (n / 8) + r) % 256) else if q then f n ^^^ 255 else f n
set_option maxHeartbeats 8000000 in
set_option maxRecDepth 100000 in
theorem add_true {g r : Nat} {cs : Array Value} {w : World} {f : Nat → Nat} (hr : r < 6) (hS : w.heap[g]? = some (.cells cs 101 (0, 0))) (hf : Sta f cs) :
  Calls Try.prog 70 #[.pointer (some ⟨g, 0, none⟩), .bool true, .int .i64 (r : Int)] w fun e w' => e = .returned (.tuple #[]) ∧ (∃ cs', w'.heap[g]? = some (.cells cs' 101 (0, 0)) ∧ Sta (addF true r f) cs') ∧ Below g w w' := by
 have HB := Aside0.mk (Below.refl g w)
 have HS := Aside0.mk hS
 have HF := Aside0.mk hf
 have HR := Aside0.mk hr
 clear hS hf hr
 go_enter Try.func70, Try.ntmps70
 go_wp2
 go_loopg [10] 64 (fun kq v10 w' => ∃ (i : Nat) (cs : Array Value), v10 = .int .i64 (i : Int) ∧ Aside0 (i + kq = 64) ∧ Aside0 (w'.heap[g]? = some (.cells cs 101 (0, 0))) ∧ Aside0 (Sta (fun n => if n < i then f n ^^^ 255 else f n) cs) ∧ Aside0 (Below g w w'))
 case atStart => exact ⟨0, _, rfl, ⟨rfl⟩, HS, ⟨HF.out.congr (fun n _ => by rw [if_neg (by omega)])⟩, HB⟩
 case round =>
  clear HS HB
  obtain ⟨i, cs, rfl, HM, HS, HW, HB⟩ := hrel
  cases gk with
  | succ k2 =>
   have hi : i < 64 := by have := HM.out; omega
   have HI := Aside0.mk hi
   have d0 : decide ((i : Int) < 64) = true := decide_eq_true (by omega)
   have d1 : decide (i < 64) = true := decide_eq_true hi
   have p0 : ((i : Int) < 64) = True := eq_true (by omega)
   have fl : f i < 256 := by have := HF.out.lt i hi; omega
   have hc : wr.cell? ⟨g, i, none⟩ = some (.int .u8 (f i : Int)) := (blk_cell HS.out i).trans (by rw [HW.out.cell i hi, if_neg (by omega)])
   have hx : Go.bits .xor .u8 (f i : Int) 255 = ((f i ^^^ 255 : Nat) : Int) := u8_xor (f i) 255 fl (by decide)
   clear hi
   go_wp2
   go_still_tail 8, (by kernel_rfl)
   change wpList _ _ _ _ _ wr.drew
   replace HS := Aside0.mk (blk_drew HS.out)
   replace HB := Aside0.mk (below_drew1 HB.out)
   have HX := Aside0.mk hx
   clear hc hx
   generalize wr.drew = w4 at HS HB ⊢
   have hc : w4.cell? ⟨g, i, none⟩ = some (.int .u8 (f i : Int)) := (blk_cell HS.out i).trans (by rw [HW.out.cell i HI.out, if_neg (by omega)])
   have hz : w4.frozen? ⟨g, i, none⟩ = false := blk_frozen HS.out i
   go_wp2
   go_roundg k2
   case measure => omega
   case rel =>
    have hi := HI.out
    refine ⟨i + 1, _, by rw [show wrap64 ((i : Int) + 1) = ((i + 1 : Nat) : Int) by unfold wrap64; omega], ⟨by have := HM.out; omega⟩, ⟨blk_put HS.out i _ rfl⟩, ⟨HW.out.set HI.out (xor_lt fl (by decide)) rfl (fun n hn => ?_)⟩, ⟨HB.out.setCell (Nat.le_refl _) _⟩⟩
    by_cases c : n = i
    · subst c
      rw [if_pos (by omega), if_pos rfl]
    · rw [if_neg c]
      by_cases c2 : n < i
      · rw [if_pos (by omega), if_pos c2]
      · rw [if_neg (by omega), if_neg c2]
  | zero =>
   obtain rfl : i = 64 := by have := HM.out; omega
   replace HF := Aside0.mk (HW.out.congr (f' := fun n => f n ^^^ 255) (fun n hn => by rw [if_pos hn]))
   clear HM HW
   go_wp2
   go_loopg [22] 8 (fun kq v22 w' => ∃ (i : Nat) (cs : Array Value), v22 = .int .i64 (i : Int) ∧ Aside0 (i + kq = 8) ∧ Aside0 (w'.heap[g]? = some (.cells cs 101 (0, 0))) ∧ Aside0 (Sta (fun n => if n % 8 = 7 ∧ n / 8 < i then (f n ^^^ 255) ^^^ ((16 * (n / 8) + r) % 256) else (f n ^^^ 255)) cs) ∧ Aside0 (Below g w w'))
   case atStart => exact ⟨0, _, rfl, ⟨rfl⟩, HS, ⟨HF.out.congr (fun n _ => by rw [if_neg (by omega)])⟩, HB⟩
   case round =>
    clear HS HB
    obtain ⟨i, cs, rfl, HM, HS, HW, HB⟩ := hrel
    cases gk with
    | zero =>
     obtain rfl : i = 8 := by have := HM.out; omega
     clear HM
     go_wp2
     go_end0
     refine ⟨rfl, ⟨cs, HS.out, HW.out.congr (fun n hn => ?_)⟩, HB.out⟩
     unfold addF
     simp only [rowF, if_true, if_false, Bool.false_eq_true, reduceIte]
     by_cases c : n % 8 = 7
     · rw [if_pos c, if_pos ⟨c, by omega⟩]
     · rw [if_neg c, if_neg (fun h => c h.1)]
    | succ k2 =>
     have hi : i < 8 := by have := HM.out; omega
     have HI := Aside0.mk hi
     have d0 : decide ((i : Int) < 8) = true := decide_eq_true (by omega)
     have d1 : decide (i < 8) = true := decide_eq_true hi
     have p0 : (8 * (i : Int) + 7 < 64) = True := eq_true (by omega)
     have p1 : (8 * (i : Int) < 64) = True := eq_true (by omega)
     have p2 : (8 * i < 64) = True := eq_true (by omega)
     have p3 : (0 ≤ 8 * (i : Int) + 7) = True := eq_true (by omega)
     have p4 : (0 ≤ 8 * (i : Int)) = True := eq_true (by omega)
     have q0 : wrap64 (8 * (i : Int)) = 8 * (i : Int) := by unfold wrap64; omega
     have q1 : wrap64 (8 * (i : Int) + 7) = 8 * (i : Int) + 7 := by unfold wrap64; omega
     have q2 : wrap64 (16 * (i : Int)) = 16 * (i : Int) := by unfold wrap64; omega
     have q3 : wrap64 (16 * (i : Int) + (r : Int)) = 16 * (i : Int) + (r : Int) := by have := HR.out; unfold wrap64; omega
     have s0 : IntKind.i64.wrap (8 * (i : Int)) = 8 * (i : Int) := (i64_w _).trans q0
     have s1 : IntKind.i64.wrap (8 * (i : Int) + 7) = 8 * (i : Int) + 7 := (i64_w _).trans q1
     have s2 : IntKind.i64.wrap (16 * (i : Int)) = 16 * (i : Int) := (i64_w _).trans q2
     have s3 : IntKind.i64.wrap (16 * (i : Int) + (r : Int)) = 16 * (i : Int) + (r : Int) := (i64_w _).trans q3
     have t0 : (8 * (i : Int) + 7).toNat = 8 * i + 7 := by omega
     have t1 : (8 * (i : Int)).toNat = 8 * i := by omega
     have fl : f (8 * i + 7) ^^^ 255 < 256 := by
      have h := HW.out.lt (8 * i + 7) (by omega)
      rw [if_neg (by omega)] at h
      exact h
     have hc : wr.cell? ⟨g, 8 * i + 7, none⟩ = some (.int .u8 ((f (8 * i + 7) ^^^ 255 : Nat) : Int)) := (blk_cell HS.out (8 * i + 7)).trans (by rw [HW.out.cell (8 * i + 7) (by omega), if_neg (by omega)])
     have hx : Go.bits .xor .u8 ((f (8 * i + 7) ^^^ 255 : Nat) : Int) ((16 * (i : Int) + (r : Int)) % 256) = (((f (8 * i + 7) ^^^ 255) ^^^ ((16 * i + r) % 256) : Nat) : Int) := u8_xor (f (8 * i + 7) ^^^ 255) ((16 * i + r) % 256) fl (by omega)
     clear hi q0 q1 q2 q3
     go_wp2
     go_still_tail 15, (by kernel_rfl)
     change wpList _ _ _ _ _ wr.drew
     replace HS := Aside0.mk (blk_drew HS.out)
     replace HB := Aside0.mk (below_drew1 HB.out)
     have HX := Aside0.mk hx
     clear hc hx
     generalize wr.drew = w4 at HS HB ⊢
     have hc : w4.cell? ⟨g, 8 * i + 7, none⟩ = some (.int .u8 ((f (8 * i + 7) ^^^ 255 : Nat) : Int)) := (blk_cell HS.out (8 * i + 7)).trans (by have := HI.out; rw [HW.out.cell (8 * i + 7) (by omega), if_neg (by omega)])
     have hz : w4.frozen? ⟨g, 8 * i + 7, none⟩ = false := blk_frozen HS.out _
     go_wp2
     go_roundg k2
     case measure => omega
     case rel =>
      have hi := HI.out
      refine ⟨i + 1, _, by rw [show wrap64 ((i : Int) + 1) = ((i + 1 : Nat) : Int) by unfold wrap64; omega], ⟨by have := HM.out; omega⟩, ⟨blk_put HS.out (8 * i + 7) _ rfl⟩, ⟨HW.out.set (by omega) (xor_lt fl (Nat.mod_lt _ (by decide))) HX.out (fun n hn => ?_)⟩, ⟨HB.out.setCell (Nat.le_refl _) _⟩⟩
      by_cases c : n = 8 * i + 7
      · subst c
        rw [if_pos (by omega), if_pos rfl, show (8 * i + 7) / 8 = i by omega]
      · rw [if_neg c]
        by_cases c2 : n % 8 = 7 ∧ n / 8 < i
        · rw [if_pos (by omega), if_pos c2]
        · rw [if_neg (by omega), if_neg c2]
set_option maxHeartbeats 8000000 in
set_option maxRecDepth 100000 in
theorem add_false {g r : Nat} {cs : Array Value} {w : World} {f : Nat → Nat} (hr : r < 6) (hS : w.heap[g]? = some (.cells cs 101 (0, 0))) (hf : Sta f cs) :
  Calls Try.prog 70 #[.pointer (some ⟨g, 0, none⟩), .bool false, .int .i64 (r : Int)] w fun e w' => e = .returned (.tuple #[]) ∧ (∃ cs', w'.heap[g]? = some (.cells cs' 101 (0, 0)) ∧ Sta (addF false r f) cs') ∧ Below g w w' := by
 have HB := Aside0.mk (Below.refl g w)
 have HS := Aside0.mk hS
 have HF := Aside0.mk hf
 have HR := Aside0.mk hr
 clear hS hf hr
 go_enter Try.func70, Try.ntmps70
 go_wp2
 go_loopg [22] 8 (fun kq v22 w' => ∃ (i : Nat) (cs : Array Value), v22 = .int .i64 (i : Int) ∧ Aside0 (i + kq = 8) ∧ Aside0 (w'.heap[g]? = some (.cells cs 101 (0, 0))) ∧ Aside0 (Sta (fun n => if n % 8 = 0 ∧ n / 8 < i then (f n) ^^^ ((16 * (n / 8) + r) % 256) else (f n)) cs) ∧ Aside0 (Below g w w'))
 case atStart => exact ⟨0, _, rfl, ⟨rfl⟩, HS, ⟨HF.out.congr (fun n _ => by rw [if_neg (by omega)])⟩, HB⟩
 case round =>
  clear HS HB
  obtain ⟨i, cs, rfl, HM, HS, HW, HB⟩ := hrel
  cases gk with
  | zero =>
   obtain rfl : i = 8 := by have := HM.out; omega
   clear HM
   go_wp2
   go_end0
   refine ⟨rfl, ⟨cs, HS.out, HW.out.congr (fun n hn => ?_)⟩, HB.out⟩
   unfold addF
   simp only [rowF, if_true, if_false, Bool.false_eq_true, reduceIte]
   by_cases c : n % 8 = 0
   · rw [if_pos c, if_pos ⟨c, by omega⟩]
   · rw [if_neg c, if_neg (fun h => c h.1)]
  | succ k2 =>
   have hi : i < 8 := by have := HM.out; omega
   have HI := Aside0.mk hi
   have d0 : decide ((i : Int) < 8) = true := decide_eq_true (by omega)
   have d1 : decide (i < 8) = true := decide_eq_true hi
   have p0 : (8 * (i : Int) < 64) = True := eq_true (by omega)
   have p2 : (8 * i < 64) = True := eq_true (by omega)
   have p3 : (0 ≤ 8 * (i : Int)) = True := eq_true (by omega)
   have q0 : wrap64 (8 * (i : Int)) = 8 * (i : Int) := by unfold wrap64; omega
   have q1_ : wrap64 (8 * (i : Int)) = 8 * (i : Int) := by unfold wrap64; omega
   have q2 : wrap64 (16 * (i : Int)) = 16 * (i : Int) := by unfold wrap64; omega
   have q3 : wrap64 (16 * (i : Int) + (r : Int)) = 16 * (i : Int) + (r : Int) := by have := HR.out; unfold wrap64; omega
   have s0 : IntKind.i64.wrap (8 * (i : Int)) = 8 * (i : Int) := (i64_w _).trans q0
   have s2 : IntKind.i64.wrap (16 * (i : Int)) = 16 * (i : Int) := (i64_w _).trans q2
   have s3 : IntKind.i64.wrap (16 * (i : Int) + (r : Int)) = 16 * (i : Int) + (r : Int) := (i64_w _).trans q3
   have t0 : (8 * (i : Int)).toNat = 8 * i := by omega
   have fl : f (8 * i) < 256 := by
    have h := HW.out.lt (8 * i) (by omega)
    rw [if_neg (by omega)] at h
    exact h
   have hc : wr.cell? ⟨g, 8 * i, none⟩ = some (.int .u8 ((f (8 * i) : Nat) : Int)) := (blk_cell HS.out (8 * i)).trans (by rw [HW.out.cell (8 * i) (by omega), if_neg (by omega)])
   have hx : Go.bits .xor .u8 ((f (8 * i) : Nat) : Int) ((16 * (i : Int) + (r : Int)) % 256) = (((f (8 * i)) ^^^ ((16 * i + r) % 256) : Nat) : Int) := u8_xor (f (8 * i)) ((16 * i + r) % 256) fl (by omega)
   clear hi q0 q1_ q2 q3
   go_wp2
   go_still_tail 15, (by kernel_rfl)
   change wpList _ _ _ _ _ wr.drew
   replace HS := Aside0.mk (blk_drew HS.out)
   replace HB := Aside0.mk (below_drew1 HB.out)
   have HX := Aside0.mk hx
   clear hc hx
   generalize wr.drew = w4 at HS HB ⊢
   have hc : w4.cell? ⟨g, 8 * i, none⟩ = some (.int .u8 ((f (8 * i) : Nat) : Int)) := (blk_cell HS.out (8 * i)).trans (by have := HI.out; rw [HW.out.cell (8 * i) (by omega), if_neg (by omega)])
   have hz : w4.frozen? ⟨g, 8 * i, none⟩ = false := blk_frozen HS.out _
   go_wp2
   go_roundg k2
   case measure => omega
   case rel =>
    have hi := HI.out
    refine ⟨i + 1, _, by rw [show wrap64 ((i : Int) + 1) = ((i + 1 : Nat) : Int) by unfold wrap64; omega], ⟨by have := HM.out; omega⟩, ⟨blk_put HS.out (8 * i) _ rfl⟩, ⟨HW.out.set (by omega) (xor_lt fl (Nat.mod_lt _ (by decide))) HX.out (fun n hn => ?_)⟩, ⟨HB.out.setCell (Nat.le_refl _) _⟩⟩
    by_cases c : n = 8 * i
    · subst c
      rw [if_pos (by omega), if_pos rfl, show (8 * i) / 8 = i by omega]
    · rw [if_neg c]
      by_cases c2 : n % 8 = 0 ∧ n / 8 < i
      · rw [if_pos (by omega), if_pos c2]
      · rw [if_neg (by omega), if_neg c2]
theorem add_calls {g r : Nat} {cs : Array Value} {w : World} {f : Nat → Nat} (q : Bool) (hr : r < 6) (hS : w.heap[g]? = some (.cells cs 101 (0, 0))) (hf : Sta f cs) :
  Calls Try.prog 70 #[.pointer (some ⟨g, 0, none⟩), .bool q, .int .i64 (r : Int)] w fun e w' => e = .returned (.tuple #[]) ∧ (∃ cs', w'.heap[g]? = some (.cells cs' 101 (0, 0)) ∧ Sta (addF q r f) cs') ∧ Below g w w' := by
  cases q
  · exact add_false hr hS hf
  · exact add_true hr hS hf
end Go.Proofs.Ytaffpnnhoagmaaa.P
