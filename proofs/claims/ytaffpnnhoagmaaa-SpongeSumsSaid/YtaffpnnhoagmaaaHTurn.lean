/- Rows of a state are turned (layer 10). Conditions: those that each theorem names. Printed by gen_st.py. -/
import Derived.Test.YtaffpnnhoagmaaaHSta
import Derived.Test.YtaffpnnhoagmaaaHMake
import Derived.Laws.CopyOwn
import Derived.Test.YtaffpnnhoagmaaaPx2
set_option linter.unusedVariables false
set_option linter.unusedSimpArgs false
set_option maxRecDepth 100000
namespace Go.Proofs.Ytaffpnnhoagmaaa.P
open Go.RowKit Go.Proofs.YtaffpnnhoagmaaaX Go.Proofs.YtaffpnnhoagmaaaW.PrintWords Go.Proofs.YtaffpnnhoagmaaaW.PrintLast Go.Proofs.YtaffpnnhoagmaaaW.PrintMore
/-- By how much each row is turned. -/
def turnL (q : Bool) : List Nat := if q then [1, 3, 5, 7, 0, 2, 4, 6] else [0, 1, 2, 3, 4, 5, 6, 7]
def tOf (q : Bool) (r : Nat) : Nat := (turnL q).getD r 0
theorem tOf_lt (q : Bool) (r : Nat) : tOf q r < 8 := by
  by_cases h : r < 8
  · have c : r = 0 ∨ r = 1 ∨ r = 2 ∨ r = 3 ∨ r = 4 ∨ r = 5 ∨ r = 6 ∨ r = 7 := by omega
    rcases c with rfl | rfl | rfl | rfl | rfl | rfl | rfl | rfl <;> cases q <;> decide
  · have e : tOf q r = 0 := by
      unfold tOf
      rw [List.getD_eq_getElem?_getD, List.getElem?_eq_none (by cases q <;> exact Nat.le_of_not_lt h)]
      rfl
    omega
/-- A state whose rows are turned, or turned back. -/
def turnF (q back : Bool) (f : Nat → Nat) (n : Nat) : Nat :=
  f (8 * (if back then (n / 8 + 8 - tOf q (n % 8)) % 8 else (n / 8 + tOf q (n % 8)) % 8) + n % 8)
def colF (back : Bool) (t m : Nat) : Nat := if back then (m + 8 - t) % 8 else m
def zSt : Array Value := (List.replicate 64 (Value.int .u8 0)).toArray
theorem zSt_size : zSt.size = 64 := by rw [zSt, List.size_toArray, List.length_replicate]
theorem zSt_at {n : Nat} (h : n < 64) : zSt[n]? = some (.int .u8 0) := by
  rw [zSt, List.getElem?_toArray, List.getElem?_replicate, if_pos h]
theorem zSt_sta : Sta (fun _ => 0) zSt := ⟨zSt_size, fun n h => zSt_at h, fun _ _ => (by decide)⟩
theorem zSt_info : (Try.prog.info? 101).map (fun i => (i.zero, i.size)) = some (some (.agg zSt), 64) := by kernel_rfl
theorem sta_info {cs : Array Value} {f : Nat → Nat} (h : Sta f cs) : (Try.prog.info? 101).map (·.size) = some cs.size := by
  rw [h.size]
  kernel_rfl
theorem sta_one {cs : Array Value} {f : Nat → Nat} (h : Sta f cs) : cs.all (·.oneCell') = true := by
  rw [Array.all_eq_true]
  intro i hi
  have e := h.cell i (by have := h.size; omega)
  rw [Array.getElem?_eq_getElem hi] at e
  rw [Option.some.inj e]
  rfl
theorem zero_st (w : World) : Sem.run Try.prog (zeroValue 101) w = .ok (.agg zSt) w := by
  have hi := zSt_info
  cases h : Try.prog.info? 101 with
  | none => rw [h] at hi; cases hi
  | some t =>
    rw [h] at hi
    simp only [Option.map_some, Option.some.injEq, Prod.mk.injEq] at hi
    unfold zeroValue
    simp [typeInfo, h, hi.1]
attribute [local go_sem] zero_st
theorem below_far {g : Nat} {w W w1 : World} (h : Below g w W) (hg : g < w.heap.size) (hb : Below W.heap.size W w1) : Below g w w1 := by
  have := h.size
  exact h.trans (hb.mono (by omega))
theorem blk_setRow {w : World} {g g2 : Nat} {o : Obj} (h : w.heap[g]? = some o) (hne : g ≠ g2) (cs : Array Value) : (w.setRow g2 cs).heap[g]? = some o := (setRow_other w g2 g cs hne).trans h
theorem turn_index_true {a : Act} {o : Oper} {W : World} {j : Nat} (hj : j < 8) (x y : Operand) (ho : o.op = .index 118 x y) (hx : a.eval x = .agg #[.int .i64 1, .int .i64 3, .int .i64 5, .int .i64 7, .int .i64 0, .int .i64 2, .int .i64 4, .int .i64 6]) (hy : a.eval y = .int .i64 (j : Int)) : (execOp a.eval o).run Try.prog W = .ok (.value (.int .i64 (tOf true j : Int))) W := by
  have c : j = 0 ∨ j = 1 ∨ j = 2 ∨ j = 3 ∨ j = 4 ∨ j = 5 ∨ j = 6 ∨ j = 7 := by omega
  unfold execOp
  simp only [ho, hx, hy]
  rcases c with rfl | rfl | rfl | rfl | rfl | rfl | rfl | rfl
  all_goals go_simp
  all_goals rfl
theorem turn_index_false {a : Act} {o : Oper} {W : World} {j : Nat} (hj : j < 8) (x y : Operand) (ho : o.op = .index 118 x y) (hx : a.eval x = .agg #[.int .i64 0, .int .i64 1, .int .i64 2, .int .i64 3, .int .i64 4, .int .i64 5, .int .i64 6, .int .i64 7]) (hy : a.eval y = .int .i64 (j : Int)) : (execOp a.eval o).run Try.prog W = .ok (.value (.int .i64 (tOf false j : Int))) W := by
  have c : j = 0 ∨ j = 1 ∨ j = 2 ∨ j = 3 ∨ j = 4 ∨ j = 5 ∨ j = 6 ∨ j = 7 := by omega
  unfold execOp
  simp only [ho, hx, hy]
  rcases c with rfl | rfl | rfl | rfl | rfl | rfl | rfl | rfl
  all_goals go_simp
  all_goals rfl
set_option maxHeartbeats 8000000 in
set_option maxRecDepth 100000 in
theorem turn_true_true {g : Nat} {cs : Array Value} {w : World} {f : Nat → Nat} (hS : w.heap[g]? = some (.cells cs 101 (0, 0))) (hf : Sta f cs) :
  Calls Try.prog 72 #[.pointer (some ⟨g, 0, none⟩), .bool true, .bool true] w fun e w' => e = .returned (.tuple #[]) ∧ (∃ cs', w'.heap[g]? = some (.cells cs' 101 (0, 0)) ∧ Sta (turnF true true f) cs') ∧ Below g w w' := by
 have HB := Aside0.mk (Below.refl g w)
 have HS := Aside0.mk hS
 have HF := Aside0.mk hf
 have HI := Aside0.mk (sta_info hf)
 have HGW := Aside0.mk (blk_lt hS)
 clear hS hf
 go_enter Try.func72, Try.ntmps72
 go_wp2_with (first
  | ((with_reducible refine gate_dst (N := 14) rfl ?_); refine wpList_load_row rfl 101 (.tmp 13) rfl g (by rfl) 101 cs (0, 0) _ HS.out Try.underlying101 rfl HI.out ?_)
  | ((with_reducible refine gate_dst (N := 6) rfl ?_); refine box_event ?hg (N := 6) ?hd (cs := zSt) (t := 101) ?hr ?_; (case hd => rfl); (case hg => rfl); (case hr => first | (go_simp; done) | (go_simp; rfl)); intro g2 hg2 w2 hbox hb; have B2 := Aside0.mk hbox; have NG := Aside0.mk (show g ≠ g2 by have := blk_lt HS.out; omega); have G2 := Aside0.mk (show g ≤ g2 by have := blk_lt HS.out; omega); replace HS := Aside0.mk (blk_below HS.out hb); replace HB := Aside0.mk (below_far HB.out HGW.out hb); clear hb hbox hg2)
  | ((with_reducible refine gate_store (t := 101) (p := 6) rfl ?_); refine wpList_store_row rfl 101 (.tmp 6) (.tmp 14) rfl g2 cs (by rfl) (by rfl) 101 _ B2.out HI.out (by rw [HF.out.size, zSt_size]) (sta_one HF.out) ?_; replace HS := Aside0.mk (blk_setRow HS.out NG.out cs); replace HB := Aside0.mk (below_setRow HB.out G2.out cs); replace B2 := Aside0.mk (setRow_heap _ g2 _ cs 101 (0, 0) B2.out); (generalize World.setRow _ g2 cs = w3 at HS HB B2 ⊢))
  | ((with_reducible refine gate_callee (f := 85) rfl ?_); refine goesL_ (some 16) rfl rfl Try.func85 (by kernel_rfl) rfl #[.bool true] rfl (by (try simp only [List.map_toArray, List.map_cons, List.map_nil]); first | done | rfl) ?_; (with_reducible refine (perm_turns.calls true 1 3 5 7 0 2 4 6 _ rfl).mono ?_); rintro e w11 ⟨rfl, hb⟩; refine ⟨_, rfl, ?_⟩; replace HS := Aside0.mk (blk_below HS.out hb); replace B2 := Aside0.mk (blk_below B2.out hb); replace HB := Aside0.mk (below_far HB.out HGW.out hb); clear hb)
  | (go_at_call 85; (with_reducible refine (perm_turns.calls true 1 3 5 7 0 2 4 6 _ rfl).mono ?_); rintro e w11 ⟨rfl, hb⟩; replace HS := Aside0.mk (blk_below HS.out hb); replace B2 := Aside0.mk (blk_below B2.out hb); replace HB := Aside0.mk (below_far HB.out HGW.out hb); clear hb))
 obtain ⟨cs0, e0⟩ : ∃ cs0, cs0 = cs := ⟨_, rfl⟩
 have HF0 : Aside0 (Sta f cs0) := ⟨e0 ▸ HF.out⟩
 have B0 := Aside0.mk (show _ = _ from e0 ▸ B2.out)
 clear B2 e0
 go_loopg [17] 8 (fun kq v17 w' => ∃ (i : Nat) (cs : Array Value), v17 = .int .i64 (i : Int) ∧ Aside0 (i + kq = 8) ∧ Aside0 (w'.heap[g]? = some (.cells cs 101 (0, 0))) ∧ Aside0 (w'.heap[g2]? = some (.cells cs0 101 (0, 0))) ∧ Aside0 (Sta (fun n => if n % 8 < i then turnF true true f n else f n) cs) ∧ Aside0 (Below g w w'))
 case atStart => exact ⟨0, _, rfl, ⟨rfl⟩, HS, B0, ⟨HF.out.congr (fun n _ => by rw [if_neg (by omega)])⟩, HB⟩
 case round =>
  clear HS HB B0 HI HF
  obtain ⟨i, cs, rfl, HM, HS, B0, HW, HB⟩ := hrel
  cases gk with
  | zero =>
   obtain rfl : i = 8 := by have := HM.out; omega
   go_wp2
   go_end0
   exact ⟨rfl, ⟨cs, HS.out, HW.out.congr (fun n hn => by rw [if_pos (by omega)])⟩, HB.out⟩
  | succ k2 =>
   have hi : i < 8 := by have := HM.out; omega
   have HI := Aside0.mk hi
   have d0 : decide ((i : Int) < 8) = true := decide_eq_true (by omega)
   have d1 : decide (i < 8) = true := decide_eq_true hi
   have p0 : ((i : Int) < 8) = True := eq_true (by omega)
   obtain ⟨t, et⟩ : ∃ t : Nat, t = tOf true i := ⟨_, rfl⟩
   have T8 := Aside0.mk (show t < 8 from et ▸ tOf_lt true i)
   have HQ := Aside0.mk et
   clear hi et
   go_wp2_with (first
    | ((with_reducible refine gate_dst (N := 20) rfl ?_); refine Kd.event_run (v := .int .i64 (t : Int)) rfl (HQ.out ▸ turn_index_true HI.out _ _ rfl rfl rfl) ?_))
   obtain ⟨wo, rfl⟩ : ∃ wo : World, wo = wr := ⟨_, rfl⟩
   go_loopg [9, 10, 11, 21] 8 (fun kq v9 v10 v11 v21 w' => ∃ (c : Nat) (cs : Array Value), v21 = .int .i64 (c : Int) ∧ Aside0 (c + kq = 8) ∧ Aside0 (w'.heap[g]? = some (.cells cs 101 (0, 0))) ∧ Aside0 (w'.heap[g2]? = some (.cells cs0 101 (0, 0))) ∧ Aside0 (Sta (fun n => if n % 8 < i ∨ n % 8 = i ∧ colF true (tOf true i) (n / 8) < c then turnF true true f n else f n) cs) ∧ Aside0 (Below g w w'))
   case atStart => exact ⟨0, _, rfl, ⟨rfl⟩, HS, B0, ⟨HW.out.congr (fun n _ => by
     by_cases c : n % 8 < i
     · rw [if_pos c, if_pos (Or.inl c)]
     · rw [if_neg c, if_neg (by omega)])⟩, HB⟩
   case round =>
    clear HS HB B0 HW
    obtain ⟨c, cs, rfl, HC, HS, B0, HW, HB⟩ := hrel
    cases gk with
    | zero =>
     obtain rfl : c = 8 := by have := HC.out; omega
     go_wp2
     go_roundg k2
     case measure => omega
     case rel =>
      have hi := HI.out
      refine ⟨i + 1, cs, by rw [step_1 (by omega)], ⟨by have := HM.out; omega⟩, HS, B0, ⟨HW.out.congr (fun n hn => ?_)⟩, HB⟩
      have hcol : colF true (tOf true i) (n / 8) < 8 := by unfold colF; simp only [if_true, if_false, Bool.false_eq_true, reduceIte]; omega
      by_cases e : n % 8 < i + 1
      · rw [if_pos e, if_pos (by omega)]
      · rw [if_neg e, if_neg (by omega)]
    | succ k3 =>
     have hc8 : c < 8 := by have := HC.out; omega
     have HC8 := Aside0.mk hc8
     have hi := HI.out
     have ht := T8.out
     have d2 : decide ((c : Int) < 8) = true := decide_eq_true (by omega)
     have d3 : decide (c < 8) = true := decide_eq_true hc8
     obtain ⟨d, hd⟩ : ∃ d : Nat, d = (c + t) % 8 := ⟨_, rfl⟩
     have hd8 : d < 8 := by omega
     have HD8 := Aside0.mk hd8
     have HD := Aside0.mk hd
     have LT := Aside0.mk (idx_64 (m := d) (i := i) (by omega) hi)
     have LF := Aside0.mk (HF0.out.lt (8 * c + i) (by omega))
     have hw : wr.cell? ⟨g2, 8 * c + i, none⟩ = some (.int .u8 (f (8 * c + i) : Int)) := (blk_cell B0.out _).trans (HF0.out.cell _ (by omega))
     have md : d < 8 := by omega
     have mc : c < 8 := by omega
     have e1 := idx_sum hc8 ht
     have e2 := idx_mod hd
     have e3 := idx_tmod hd
     have p1 := idx_lt md hi
     have p2 := idx_lt mc hi
     have p3 := idx_ge md hi
     have p4 := idx_ge mc hi
     have s0 := idx_w0 md
     have s1 := idx_w1 md hi
     have s2 := idx_w0 mc
     have s3 := idx_w1 mc hi
     have t0 := idx_nat d i
     have t1 := idx_nat c i
     clear hc8 hi ht hd hd8 md mc
     go_wp2
     go_still_tail 12, (by kernel_rfl)
     change wpList _ _ _ _ _ wr.drew
     replace HS := Aside0.mk (blk_drew HS.out)
     replace B0 := Aside0.mk (blk_drew B0.out)
     replace HB := Aside0.mk (below_drew1 HB.out)
     clear hw e1 e2 e3 s2 s3 p2 p4 t1
     generalize wr.drew = w4 at HS HB B0 ⊢
     have hc : w4.cell? ⟨g, 8 * d + i, none⟩ = some (.int .u8 ((if (8 * d + i) % 8 < i ∨ (8 * d + i) % 8 = i ∧ colF true (tOf true i) ((8 * d + i) / 8) < c then turnF true true f (8 * d + i) else f (8 * d + i) : Nat) : Int)) := (blk_cell HS.out _).trans (HW.out.cell _ LT.out)
     generalize ((if (8 * d + i) % 8 < i ∨ (8 * d + i) % 8 = i ∧ colF true (tOf true i) ((8 * d + i) / 8) < c then turnF true true f (8 * d + i) else f (8 * d + i) : Nat) : Int) = old at hc
     have hz : w4.frozen? ⟨g, 8 * d + i, none⟩ = false := blk_frozen HS.out _
     go_wp2
     clear s0 s1 p1 p3 t0 hc hz
     go_roundg k3
     case measure => omega
     case rel =>
      have hc8 := HC8.out
      have hi := HI.out
      have ht := T8.out
      have hd := HD.out
      have hq := HQ.out
      refine ⟨c + 1, _, by rw [step_1 (by omega)], ⟨by have := HC.out; omega⟩, ⟨blk_put HS.out (8 * d + i) _ rfl⟩, ⟨blk_far B0.out (Ne.symm NG.out) _⟩, ⟨HW.out.set LT.out LF.out rfl (fun n hn => ?_)⟩, ⟨HB.out.setCell (Nat.le_refl _) _⟩⟩
      unfold colF
      simp only [if_true, if_false, Bool.false_eq_true, reduceIte]
      rw [← hq]
      by_cases e : n = 8 * d + i
      · subst e
        rw [if_pos (by omega), if_pos rfl]
        unfold turnF
        simp only [if_true, if_false, Bool.false_eq_true, reduceIte]
        rw [show (8 * d + i) % 8 = i by omega, show (8 * d + i) / 8 = d by omega, ← hq]
        congr 1
        omega
      · rw [if_neg e]
        by_cases e2 : n % 8 < i ∨ n % 8 = i ∧ (n / 8 + 8 - t) % 8 < c
        · rw [if_pos (by omega), if_pos e2]
        · rw [if_neg (by omega), if_neg e2]
set_option maxHeartbeats 8000000 in
set_option maxRecDepth 100000 in
theorem turn_true_false {g : Nat} {cs : Array Value} {w : World} {f : Nat → Nat} (hS : w.heap[g]? = some (.cells cs 101 (0, 0))) (hf : Sta f cs) :
  Calls Try.prog 72 #[.pointer (some ⟨g, 0, none⟩), .bool true, .bool false] w fun e w' => e = .returned (.tuple #[]) ∧ (∃ cs', w'.heap[g]? = some (.cells cs' 101 (0, 0)) ∧ Sta (turnF true false f) cs') ∧ Below g w w' := by
 have HB := Aside0.mk (Below.refl g w)
 have HS := Aside0.mk hS
 have HF := Aside0.mk hf
 have HI := Aside0.mk (sta_info hf)
 have HGW := Aside0.mk (blk_lt hS)
 clear hS hf
 go_enter Try.func72, Try.ntmps72
 go_wp2_with (first
  | ((with_reducible refine gate_dst (N := 14) rfl ?_); refine wpList_load_row rfl 101 (.tmp 13) rfl g (by rfl) 101 cs (0, 0) _ HS.out Try.underlying101 rfl HI.out ?_)
  | ((with_reducible refine gate_dst (N := 6) rfl ?_); refine box_event ?hg (N := 6) ?hd (cs := zSt) (t := 101) ?hr ?_; (case hd => rfl); (case hg => rfl); (case hr => first | (go_simp; done) | (go_simp; rfl)); intro g2 hg2 w2 hbox hb; have B2 := Aside0.mk hbox; have NG := Aside0.mk (show g ≠ g2 by have := blk_lt HS.out; omega); have G2 := Aside0.mk (show g ≤ g2 by have := blk_lt HS.out; omega); replace HS := Aside0.mk (blk_below HS.out hb); replace HB := Aside0.mk (below_far HB.out HGW.out hb); clear hb hbox hg2)
  | ((with_reducible refine gate_store (t := 101) (p := 6) rfl ?_); refine wpList_store_row rfl 101 (.tmp 6) (.tmp 14) rfl g2 cs (by rfl) (by rfl) 101 _ B2.out HI.out (by rw [HF.out.size, zSt_size]) (sta_one HF.out) ?_; replace HS := Aside0.mk (blk_setRow HS.out NG.out cs); replace HB := Aside0.mk (below_setRow HB.out G2.out cs); replace B2 := Aside0.mk (setRow_heap _ g2 _ cs 101 (0, 0) B2.out); (generalize World.setRow _ g2 cs = w3 at HS HB B2 ⊢))
  | ((with_reducible refine gate_callee (f := 85) rfl ?_); refine goesL_ (some 16) rfl rfl Try.func85 (by kernel_rfl) rfl #[.bool true] rfl (by (try simp only [List.map_toArray, List.map_cons, List.map_nil]); first | done | rfl) ?_; (with_reducible refine (perm_turns.calls true 1 3 5 7 0 2 4 6 _ rfl).mono ?_); rintro e w11 ⟨rfl, hb⟩; refine ⟨_, rfl, ?_⟩; replace HS := Aside0.mk (blk_below HS.out hb); replace B2 := Aside0.mk (blk_below B2.out hb); replace HB := Aside0.mk (below_far HB.out HGW.out hb); clear hb)
  | (go_at_call 85; (with_reducible refine (perm_turns.calls true 1 3 5 7 0 2 4 6 _ rfl).mono ?_); rintro e w11 ⟨rfl, hb⟩; replace HS := Aside0.mk (blk_below HS.out hb); replace B2 := Aside0.mk (blk_below B2.out hb); replace HB := Aside0.mk (below_far HB.out HGW.out hb); clear hb))
 obtain ⟨cs0, e0⟩ : ∃ cs0, cs0 = cs := ⟨_, rfl⟩
 have HF0 : Aside0 (Sta f cs0) := ⟨e0 ▸ HF.out⟩
 have B0 := Aside0.mk (show _ = _ from e0 ▸ B2.out)
 clear B2 e0
 go_loopg [17] 8 (fun kq v17 w' => ∃ (i : Nat) (cs : Array Value), v17 = .int .i64 (i : Int) ∧ Aside0 (i + kq = 8) ∧ Aside0 (w'.heap[g]? = some (.cells cs 101 (0, 0))) ∧ Aside0 (w'.heap[g2]? = some (.cells cs0 101 (0, 0))) ∧ Aside0 (Sta (fun n => if n % 8 < i then turnF true false f n else f n) cs) ∧ Aside0 (Below g w w'))
 case atStart => exact ⟨0, _, rfl, ⟨rfl⟩, HS, B0, ⟨HF.out.congr (fun n _ => by rw [if_neg (by omega)])⟩, HB⟩
 case round =>
  clear HS HB B0 HI HF
  obtain ⟨i, cs, rfl, HM, HS, B0, HW, HB⟩ := hrel
  cases gk with
  | zero =>
   obtain rfl : i = 8 := by have := HM.out; omega
   go_wp2
   go_end0
   exact ⟨rfl, ⟨cs, HS.out, HW.out.congr (fun n hn => by rw [if_pos (by omega)])⟩, HB.out⟩
  | succ k2 =>
   have hi : i < 8 := by have := HM.out; omega
   have HI := Aside0.mk hi
   have d0 : decide ((i : Int) < 8) = true := decide_eq_true (by omega)
   have d1 : decide (i < 8) = true := decide_eq_true hi
   have p0 : ((i : Int) < 8) = True := eq_true (by omega)
   obtain ⟨t, et⟩ : ∃ t : Nat, t = tOf true i := ⟨_, rfl⟩
   have T8 := Aside0.mk (show t < 8 from et ▸ tOf_lt true i)
   have HQ := Aside0.mk et
   clear hi et
   go_wp2_with (first
    | ((with_reducible refine gate_dst (N := 20) rfl ?_); refine Kd.event_run (v := .int .i64 (t : Int)) rfl (HQ.out ▸ turn_index_true HI.out _ _ rfl rfl rfl) ?_))
   obtain ⟨wo, rfl⟩ : ∃ wo : World, wo = wr := ⟨_, rfl⟩
   go_loopg [9, 10, 11, 21] 8 (fun kq v9 v10 v11 v21 w' => ∃ (c : Nat) (cs : Array Value), v21 = .int .i64 (c : Int) ∧ Aside0 (c + kq = 8) ∧ Aside0 (w'.heap[g]? = some (.cells cs 101 (0, 0))) ∧ Aside0 (w'.heap[g2]? = some (.cells cs0 101 (0, 0))) ∧ Aside0 (Sta (fun n => if n % 8 < i ∨ n % 8 = i ∧ colF false (tOf true i) (n / 8) < c then turnF true false f n else f n) cs) ∧ Aside0 (Below g w w'))
   case atStart => exact ⟨0, _, rfl, ⟨rfl⟩, HS, B0, ⟨HW.out.congr (fun n _ => by
     by_cases c : n % 8 < i
     · rw [if_pos c, if_pos (Or.inl c)]
     · rw [if_neg c, if_neg (by omega)])⟩, HB⟩
   case round =>
    clear HS HB B0 HW
    obtain ⟨c, cs, rfl, HC, HS, B0, HW, HB⟩ := hrel
    cases gk with
    | zero =>
     obtain rfl : c = 8 := by have := HC.out; omega
     go_wp2
     go_roundg k2
     case measure => omega
     case rel =>
      have hi := HI.out
      refine ⟨i + 1, cs, by rw [step_1 (by omega)], ⟨by have := HM.out; omega⟩, HS, B0, ⟨HW.out.congr (fun n hn => ?_)⟩, HB⟩
      have hcol : colF false (tOf true i) (n / 8) < 8 := by unfold colF; simp only [if_true, if_false, Bool.false_eq_true, reduceIte]; omega
      by_cases e : n % 8 < i + 1
      · rw [if_pos e, if_pos (by omega)]
      · rw [if_neg e, if_neg (by omega)]
    | succ k3 =>
     have hc8 : c < 8 := by have := HC.out; omega
     have HC8 := Aside0.mk hc8
     have hi := HI.out
     have ht := T8.out
     have d2 : decide ((c : Int) < 8) = true := decide_eq_true (by omega)
     have d3 : decide (c < 8) = true := decide_eq_true hc8
     obtain ⟨d, hd⟩ : ∃ d : Nat, d = (c + t) % 8 := ⟨_, rfl⟩
     have hd8 : d < 8 := by omega
     have HD8 := Aside0.mk hd8
     have HD := Aside0.mk hd
     have LT := Aside0.mk (idx_64 (m := c) (i := i) (by omega) hi)
     have LF := Aside0.mk (HF0.out.lt (8 * d + i) (by omega))
     have hw : wr.cell? ⟨g2, 8 * d + i, none⟩ = some (.int .u8 (f (8 * d + i) : Int)) := (blk_cell B0.out _).trans (HF0.out.cell _ (by omega))
     have mc : c < 8 := by omega
     have md : d < 8 := by omega
     have e1 := idx_sum hc8 ht
     have e2 := idx_mod hd
     have e3 := idx_tmod hd
     have p1 := idx_lt mc hi
     have p2 := idx_lt md hi
     have p3 := idx_ge mc hi
     have p4 := idx_ge md hi
     have s0 := idx_w0 mc
     have s1 := idx_w1 mc hi
     have s2 := idx_w0 md
     have s3 := idx_w1 md hi
     have t0 := idx_nat c i
     have t1 := idx_nat d i
     clear hc8 hi ht hd hd8 mc md
     go_wp2
     go_still_tail 12, (by kernel_rfl)
     change wpList _ _ _ _ _ wr.drew
     replace HS := Aside0.mk (blk_drew HS.out)
     replace B0 := Aside0.mk (blk_drew B0.out)
     replace HB := Aside0.mk (below_drew1 HB.out)
     clear hw e1 e2 e3 s2 s3 p2 p4 t1
     generalize wr.drew = w4 at HS HB B0 ⊢
     have hc : w4.cell? ⟨g, 8 * c + i, none⟩ = some (.int .u8 ((if (8 * c + i) % 8 < i ∨ (8 * c + i) % 8 = i ∧ colF false (tOf true i) ((8 * c + i) / 8) < c then turnF true false f (8 * c + i) else f (8 * c + i) : Nat) : Int)) := (blk_cell HS.out _).trans (HW.out.cell _ LT.out)
     generalize ((if (8 * c + i) % 8 < i ∨ (8 * c + i) % 8 = i ∧ colF false (tOf true i) ((8 * c + i) / 8) < c then turnF true false f (8 * c + i) else f (8 * c + i) : Nat) : Int) = old at hc
     have hz : w4.frozen? ⟨g, 8 * c + i, none⟩ = false := blk_frozen HS.out _
     go_wp2
     clear s0 s1 p1 p3 t0 hc hz
     go_roundg k3
     case measure => omega
     case rel =>
      have hc8 := HC8.out
      have hi := HI.out
      have ht := T8.out
      have hd := HD.out
      have hq := HQ.out
      refine ⟨c + 1, _, by rw [step_1 (by omega)], ⟨by have := HC.out; omega⟩, ⟨blk_put HS.out (8 * c + i) _ rfl⟩, ⟨blk_far B0.out (Ne.symm NG.out) _⟩, ⟨HW.out.set LT.out LF.out rfl (fun n hn => ?_)⟩, ⟨HB.out.setCell (Nat.le_refl _) _⟩⟩
      unfold colF
      simp only [if_true, if_false, Bool.false_eq_true, reduceIte]
      by_cases e : n = 8 * c + i
      · subst e
        rw [if_pos (by omega), if_pos rfl]
        unfold turnF
        simp only [if_true, if_false, Bool.false_eq_true, reduceIte]
        rw [show (8 * c + i) % 8 = i by omega, show (8 * c + i) / 8 = c by omega, ← hq]
        congr 1
        omega
      · rw [if_neg e]
        by_cases e2 : n % 8 < i ∨ n % 8 = i ∧ n / 8 < c
        · rw [if_pos (by omega), if_pos e2]
        · rw [if_neg (by omega), if_neg e2]
set_option maxHeartbeats 8000000 in
set_option maxRecDepth 100000 in
theorem turn_false_true {g : Nat} {cs : Array Value} {w : World} {f : Nat → Nat} (hS : w.heap[g]? = some (.cells cs 101 (0, 0))) (hf : Sta f cs) :
  Calls Try.prog 72 #[.pointer (some ⟨g, 0, none⟩), .bool false, .bool true] w fun e w' => e = .returned (.tuple #[]) ∧ (∃ cs', w'.heap[g]? = some (.cells cs' 101 (0, 0)) ∧ Sta (turnF false true f) cs') ∧ Below g w w' := by
 have HB := Aside0.mk (Below.refl g w)
 have HS := Aside0.mk hS
 have HF := Aside0.mk hf
 have HI := Aside0.mk (sta_info hf)
 have HGW := Aside0.mk (blk_lt hS)
 clear hS hf
 go_enter Try.func72, Try.ntmps72
 go_wp2_with (first
  | ((with_reducible refine gate_dst (N := 14) rfl ?_); refine wpList_load_row rfl 101 (.tmp 13) rfl g (by rfl) 101 cs (0, 0) _ HS.out Try.underlying101 rfl HI.out ?_)
  | ((with_reducible refine gate_dst (N := 6) rfl ?_); refine box_event ?hg (N := 6) ?hd (cs := zSt) (t := 101) ?hr ?_; (case hd => rfl); (case hg => rfl); (case hr => first | (go_simp; done) | (go_simp; rfl)); intro g2 hg2 w2 hbox hb; have B2 := Aside0.mk hbox; have NG := Aside0.mk (show g ≠ g2 by have := blk_lt HS.out; omega); have G2 := Aside0.mk (show g ≤ g2 by have := blk_lt HS.out; omega); replace HS := Aside0.mk (blk_below HS.out hb); replace HB := Aside0.mk (below_far HB.out HGW.out hb); clear hb hbox hg2)
  | ((with_reducible refine gate_store (t := 101) (p := 6) rfl ?_); refine wpList_store_row rfl 101 (.tmp 6) (.tmp 14) rfl g2 cs (by rfl) (by rfl) 101 _ B2.out HI.out (by rw [HF.out.size, zSt_size]) (sta_one HF.out) ?_; replace HS := Aside0.mk (blk_setRow HS.out NG.out cs); replace HB := Aside0.mk (below_setRow HB.out G2.out cs); replace B2 := Aside0.mk (setRow_heap _ g2 _ cs 101 (0, 0) B2.out); (generalize World.setRow _ g2 cs = w3 at HS HB B2 ⊢))
  | ((with_reducible refine gate_callee (f := 85) rfl ?_); refine goesL_ (some 16) rfl rfl Try.func85 (by kernel_rfl) rfl #[.bool false] rfl (by (try simp only [List.map_toArray, List.map_cons, List.map_nil]); first | done | rfl) ?_; (with_reducible refine (perm_turns.calls false 0 1 2 3 4 5 6 7 _ rfl).mono ?_); rintro e w11 ⟨rfl, hb⟩; refine ⟨_, rfl, ?_⟩; replace HS := Aside0.mk (blk_below HS.out hb); replace B2 := Aside0.mk (blk_below B2.out hb); replace HB := Aside0.mk (below_far HB.out HGW.out hb); clear hb)
  | (go_at_call 85; (with_reducible refine (perm_turns.calls false 0 1 2 3 4 5 6 7 _ rfl).mono ?_); rintro e w11 ⟨rfl, hb⟩; replace HS := Aside0.mk (blk_below HS.out hb); replace B2 := Aside0.mk (blk_below B2.out hb); replace HB := Aside0.mk (below_far HB.out HGW.out hb); clear hb))
 obtain ⟨cs0, e0⟩ : ∃ cs0, cs0 = cs := ⟨_, rfl⟩
 have HF0 : Aside0 (Sta f cs0) := ⟨e0 ▸ HF.out⟩
 have B0 := Aside0.mk (show _ = _ from e0 ▸ B2.out)
 clear B2 e0
 go_loopg [17] 8 (fun kq v17 w' => ∃ (i : Nat) (cs : Array Value), v17 = .int .i64 (i : Int) ∧ Aside0 (i + kq = 8) ∧ Aside0 (w'.heap[g]? = some (.cells cs 101 (0, 0))) ∧ Aside0 (w'.heap[g2]? = some (.cells cs0 101 (0, 0))) ∧ Aside0 (Sta (fun n => if n % 8 < i then turnF false true f n else f n) cs) ∧ Aside0 (Below g w w'))
 case atStart => exact ⟨0, _, rfl, ⟨rfl⟩, HS, B0, ⟨HF.out.congr (fun n _ => by rw [if_neg (by omega)])⟩, HB⟩
 case round =>
  clear HS HB B0 HI HF
  obtain ⟨i, cs, rfl, HM, HS, B0, HW, HB⟩ := hrel
  cases gk with
  | zero =>
   obtain rfl : i = 8 := by have := HM.out; omega
   go_wp2
   go_end0
   exact ⟨rfl, ⟨cs, HS.out, HW.out.congr (fun n hn => by rw [if_pos (by omega)])⟩, HB.out⟩
  | succ k2 =>
   have hi : i < 8 := by have := HM.out; omega
   have HI := Aside0.mk hi
   have d0 : decide ((i : Int) < 8) = true := decide_eq_true (by omega)
   have d1 : decide (i < 8) = true := decide_eq_true hi
   have p0 : ((i : Int) < 8) = True := eq_true (by omega)
   obtain ⟨t, et⟩ : ∃ t : Nat, t = tOf false i := ⟨_, rfl⟩
   have T8 := Aside0.mk (show t < 8 from et ▸ tOf_lt false i)
   have HQ := Aside0.mk et
   clear hi et
   go_wp2_with (first
    | ((with_reducible refine gate_dst (N := 20) rfl ?_); refine Kd.event_run (v := .int .i64 (t : Int)) rfl (HQ.out ▸ turn_index_false HI.out _ _ rfl rfl rfl) ?_))
   obtain ⟨wo, rfl⟩ : ∃ wo : World, wo = wr := ⟨_, rfl⟩
   go_loopg [9, 10, 11, 21] 8 (fun kq v9 v10 v11 v21 w' => ∃ (c : Nat) (cs : Array Value), v21 = .int .i64 (c : Int) ∧ Aside0 (c + kq = 8) ∧ Aside0 (w'.heap[g]? = some (.cells cs 101 (0, 0))) ∧ Aside0 (w'.heap[g2]? = some (.cells cs0 101 (0, 0))) ∧ Aside0 (Sta (fun n => if n % 8 < i ∨ n % 8 = i ∧ colF true (tOf false i) (n / 8) < c then turnF false true f n else f n) cs) ∧ Aside0 (Below g w w'))
   case atStart => exact ⟨0, _, rfl, ⟨rfl⟩, HS, B0, ⟨HW.out.congr (fun n _ => by
     by_cases c : n % 8 < i
     · rw [if_pos c, if_pos (Or.inl c)]
     · rw [if_neg c, if_neg (by omega)])⟩, HB⟩
   case round =>
    clear HS HB B0 HW
    obtain ⟨c, cs, rfl, HC, HS, B0, HW, HB⟩ := hrel
    cases gk with
    | zero =>
     obtain rfl : c = 8 := by have := HC.out; omega
     go_wp2
     go_roundg k2
     case measure => omega
     case rel =>
      have hi := HI.out
      refine ⟨i + 1, cs, by rw [step_1 (by omega)], ⟨by have := HM.out; omega⟩, HS, B0, ⟨HW.out.congr (fun n hn => ?_)⟩, HB⟩
      have hcol : colF true (tOf false i) (n / 8) < 8 := by unfold colF; simp only [if_true, if_false, Bool.false_eq_true, reduceIte]; omega
      by_cases e : n % 8 < i + 1
      · rw [if_pos e, if_pos (by omega)]
      · rw [if_neg e, if_neg (by omega)]
    | succ k3 =>
     have hc8 : c < 8 := by have := HC.out; omega
     have HC8 := Aside0.mk hc8
     have hi := HI.out
     have ht := T8.out
     have d2 : decide ((c : Int) < 8) = true := decide_eq_true (by omega)
     have d3 : decide (c < 8) = true := decide_eq_true hc8
     obtain ⟨d, hd⟩ : ∃ d : Nat, d = (c + t) % 8 := ⟨_, rfl⟩
     have hd8 : d < 8 := by omega
     have HD8 := Aside0.mk hd8
     have HD := Aside0.mk hd
     have LT := Aside0.mk (idx_64 (m := d) (i := i) (by omega) hi)
     have LF := Aside0.mk (HF0.out.lt (8 * c + i) (by omega))
     have hw : wr.cell? ⟨g2, 8 * c + i, none⟩ = some (.int .u8 (f (8 * c + i) : Int)) := (blk_cell B0.out _).trans (HF0.out.cell _ (by omega))
     have md : d < 8 := by omega
     have mc : c < 8 := by omega
     have e1 := idx_sum hc8 ht
     have e2 := idx_mod hd
     have e3 := idx_tmod hd
     have p1 := idx_lt md hi
     have p2 := idx_lt mc hi
     have p3 := idx_ge md hi
     have p4 := idx_ge mc hi
     have s0 := idx_w0 md
     have s1 := idx_w1 md hi
     have s2 := idx_w0 mc
     have s3 := idx_w1 mc hi
     have t0 := idx_nat d i
     have t1 := idx_nat c i
     clear hc8 hi ht hd hd8 md mc
     go_wp2
     go_still_tail 12, (by kernel_rfl)
     change wpList _ _ _ _ _ wr.drew
     replace HS := Aside0.mk (blk_drew HS.out)
     replace B0 := Aside0.mk (blk_drew B0.out)
     replace HB := Aside0.mk (below_drew1 HB.out)
     clear hw e1 e2 e3 s2 s3 p2 p4 t1
     generalize wr.drew = w4 at HS HB B0 ⊢
     have hc : w4.cell? ⟨g, 8 * d + i, none⟩ = some (.int .u8 ((if (8 * d + i) % 8 < i ∨ (8 * d + i) % 8 = i ∧ colF true (tOf false i) ((8 * d + i) / 8) < c then turnF false true f (8 * d + i) else f (8 * d + i) : Nat) : Int)) := (blk_cell HS.out _).trans (HW.out.cell _ LT.out)
     generalize ((if (8 * d + i) % 8 < i ∨ (8 * d + i) % 8 = i ∧ colF true (tOf false i) ((8 * d + i) / 8) < c then turnF false true f (8 * d + i) else f (8 * d + i) : Nat) : Int) = old at hc
     have hz : w4.frozen? ⟨g, 8 * d + i, none⟩ = false := blk_frozen HS.out _
     go_wp2
     clear s0 s1 p1 p3 t0 hc hz
     go_roundg k3
     case measure => omega
     case rel =>
      have hc8 := HC8.out
      have hi := HI.out
      have ht := T8.out
      have hd := HD.out
      have hq := HQ.out
      refine ⟨c + 1, _, by rw [step_1 (by omega)], ⟨by have := HC.out; omega⟩, ⟨blk_put HS.out (8 * d + i) _ rfl⟩, ⟨blk_far B0.out (Ne.symm NG.out) _⟩, ⟨HW.out.set LT.out LF.out rfl (fun n hn => ?_)⟩, ⟨HB.out.setCell (Nat.le_refl _) _⟩⟩
      unfold colF
      simp only [if_true, if_false, Bool.false_eq_true, reduceIte]
      rw [← hq]
      by_cases e : n = 8 * d + i
      · subst e
        rw [if_pos (by omega), if_pos rfl]
        unfold turnF
        simp only [if_true, if_false, Bool.false_eq_true, reduceIte]
        rw [show (8 * d + i) % 8 = i by omega, show (8 * d + i) / 8 = d by omega, ← hq]
        congr 1
        omega
      · rw [if_neg e]
        by_cases e2 : n % 8 < i ∨ n % 8 = i ∧ (n / 8 + 8 - t) % 8 < c
        · rw [if_pos (by omega), if_pos e2]
        · rw [if_neg (by omega), if_neg e2]
set_option maxHeartbeats 8000000 in
set_option maxRecDepth 100000 in
theorem turn_false_false {g : Nat} {cs : Array Value} {w : World} {f : Nat → Nat} (hS : w.heap[g]? = some (.cells cs 101 (0, 0))) (hf : Sta f cs) :
  Calls Try.prog 72 #[.pointer (some ⟨g, 0, none⟩), .bool false, .bool false] w fun e w' => e = .returned (.tuple #[]) ∧ (∃ cs', w'.heap[g]? = some (.cells cs' 101 (0, 0)) ∧ Sta (turnF false false f) cs') ∧ Below g w w' := by
 have HB := Aside0.mk (Below.refl g w)
 have HS := Aside0.mk hS
 have HF := Aside0.mk hf
 have HI := Aside0.mk (sta_info hf)
 have HGW := Aside0.mk (blk_lt hS)
 clear hS hf
 go_enter Try.func72, Try.ntmps72
 go_wp2_with (first
  | ((with_reducible refine gate_dst (N := 14) rfl ?_); refine wpList_load_row rfl 101 (.tmp 13) rfl g (by rfl) 101 cs (0, 0) _ HS.out Try.underlying101 rfl HI.out ?_)
  | ((with_reducible refine gate_dst (N := 6) rfl ?_); refine box_event ?hg (N := 6) ?hd (cs := zSt) (t := 101) ?hr ?_; (case hd => rfl); (case hg => rfl); (case hr => first | (go_simp; done) | (go_simp; rfl)); intro g2 hg2 w2 hbox hb; have B2 := Aside0.mk hbox; have NG := Aside0.mk (show g ≠ g2 by have := blk_lt HS.out; omega); have G2 := Aside0.mk (show g ≤ g2 by have := blk_lt HS.out; omega); replace HS := Aside0.mk (blk_below HS.out hb); replace HB := Aside0.mk (below_far HB.out HGW.out hb); clear hb hbox hg2)
  | ((with_reducible refine gate_store (t := 101) (p := 6) rfl ?_); refine wpList_store_row rfl 101 (.tmp 6) (.tmp 14) rfl g2 cs (by rfl) (by rfl) 101 _ B2.out HI.out (by rw [HF.out.size, zSt_size]) (sta_one HF.out) ?_; replace HS := Aside0.mk (blk_setRow HS.out NG.out cs); replace HB := Aside0.mk (below_setRow HB.out G2.out cs); replace B2 := Aside0.mk (setRow_heap _ g2 _ cs 101 (0, 0) B2.out); (generalize World.setRow _ g2 cs = w3 at HS HB B2 ⊢))
  | ((with_reducible refine gate_callee (f := 85) rfl ?_); refine goesL_ (some 16) rfl rfl Try.func85 (by kernel_rfl) rfl #[.bool false] rfl (by (try simp only [List.map_toArray, List.map_cons, List.map_nil]); first | done | rfl) ?_; (with_reducible refine (perm_turns.calls false 0 1 2 3 4 5 6 7 _ rfl).mono ?_); rintro e w11 ⟨rfl, hb⟩; refine ⟨_, rfl, ?_⟩; replace HS := Aside0.mk (blk_below HS.out hb); replace B2 := Aside0.mk (blk_below B2.out hb); replace HB := Aside0.mk (below_far HB.out HGW.out hb); clear hb)
  | (go_at_call 85; (with_reducible refine (perm_turns.calls false 0 1 2 3 4 5 6 7 _ rfl).mono ?_); rintro e w11 ⟨rfl, hb⟩; replace HS := Aside0.mk (blk_below HS.out hb); replace B2 := Aside0.mk (blk_below B2.out hb); replace HB := Aside0.mk (below_far HB.out HGW.out hb); clear hb))
 obtain ⟨cs0, e0⟩ : ∃ cs0, cs0 = cs := ⟨_, rfl⟩
 have HF0 : Aside0 (Sta f cs0) := ⟨e0 ▸ HF.out⟩
 have B0 := Aside0.mk (show _ = _ from e0 ▸ B2.out)
 clear B2 e0
 go_loopg [17] 8 (fun kq v17 w' => ∃ (i : Nat) (cs : Array Value), v17 = .int .i64 (i : Int) ∧ Aside0 (i + kq = 8) ∧ Aside0 (w'.heap[g]? = some (.cells cs 101 (0, 0))) ∧ Aside0 (w'.heap[g2]? = some (.cells cs0 101 (0, 0))) ∧ Aside0 (Sta (fun n => if n % 8 < i then turnF false false f n else f n) cs) ∧ Aside0 (Below g w w'))
 case atStart => exact ⟨0, _, rfl, ⟨rfl⟩, HS, B0, ⟨HF.out.congr (fun n _ => by rw [if_neg (by omega)])⟩, HB⟩
 case round =>
  clear HS HB B0 HI HF
  obtain ⟨i, cs, rfl, HM, HS, B0, HW, HB⟩ := hrel
  cases gk with
  | zero =>
   obtain rfl : i = 8 := by have := HM.out; omega
   go_wp2
   go_end0
   exact ⟨rfl, ⟨cs, HS.out, HW.out.congr (fun n hn => by rw [if_pos (by omega)])⟩, HB.out⟩
  | succ k2 =>
   have hi : i < 8 := by have := HM.out; omega
   have HI := Aside0.mk hi
   have d0 : decide ((i : Int) < 8) = true := decide_eq_true (by omega)
   have d1 : decide (i < 8) = true := decide_eq_true hi
   have p0 : ((i : Int) < 8) = True := eq_true (by omega)
   obtain ⟨t, et⟩ : ∃ t : Nat, t = tOf false i := ⟨_, rfl⟩
   have T8 := Aside0.mk (show t < 8 from et ▸ tOf_lt false i)
   have HQ := Aside0.mk et
   clear hi et
   go_wp2_with (first
    | ((with_reducible refine gate_dst (N := 20) rfl ?_); refine Kd.event_run (v := .int .i64 (t : Int)) rfl (HQ.out ▸ turn_index_false HI.out _ _ rfl rfl rfl) ?_))
   obtain ⟨wo, rfl⟩ : ∃ wo : World, wo = wr := ⟨_, rfl⟩
   go_loopg [9, 10, 11, 21] 8 (fun kq v9 v10 v11 v21 w' => ∃ (c : Nat) (cs : Array Value), v21 = .int .i64 (c : Int) ∧ Aside0 (c + kq = 8) ∧ Aside0 (w'.heap[g]? = some (.cells cs 101 (0, 0))) ∧ Aside0 (w'.heap[g2]? = some (.cells cs0 101 (0, 0))) ∧ Aside0 (Sta (fun n => if n % 8 < i ∨ n % 8 = i ∧ colF false (tOf false i) (n / 8) < c then turnF false false f n else f n) cs) ∧ Aside0 (Below g w w'))
   case atStart => exact ⟨0, _, rfl, ⟨rfl⟩, HS, B0, ⟨HW.out.congr (fun n _ => by
     by_cases c : n % 8 < i
     · rw [if_pos c, if_pos (Or.inl c)]
     · rw [if_neg c, if_neg (by omega)])⟩, HB⟩
   case round =>
    clear HS HB B0 HW
    obtain ⟨c, cs, rfl, HC, HS, B0, HW, HB⟩ := hrel
    cases gk with
    | zero =>
     obtain rfl : c = 8 := by have := HC.out; omega
     go_wp2
     go_roundg k2
     case measure => omega
     case rel =>
      have hi := HI.out
      refine ⟨i + 1, cs, by rw [step_1 (by omega)], ⟨by have := HM.out; omega⟩, HS, B0, ⟨HW.out.congr (fun n hn => ?_)⟩, HB⟩
      have hcol : colF false (tOf false i) (n / 8) < 8 := by unfold colF; simp only [if_true, if_false, Bool.false_eq_true, reduceIte]; omega
      by_cases e : n % 8 < i + 1
      · rw [if_pos e, if_pos (by omega)]
      · rw [if_neg e, if_neg (by omega)]
    | succ k3 =>
     have hc8 : c < 8 := by have := HC.out; omega
     have HC8 := Aside0.mk hc8
     have hi := HI.out
     have ht := T8.out
     have d2 : decide ((c : Int) < 8) = true := decide_eq_true (by omega)
     have d3 : decide (c < 8) = true := decide_eq_true hc8
     obtain ⟨d, hd⟩ : ∃ d : Nat, d = (c + t) % 8 := ⟨_, rfl⟩
     have hd8 : d < 8 := by omega
     have HD8 := Aside0.mk hd8
     have HD := Aside0.mk hd
     have LT := Aside0.mk (idx_64 (m := c) (i := i) (by omega) hi)
     have LF := Aside0.mk (HF0.out.lt (8 * d + i) (by omega))
     have hw : wr.cell? ⟨g2, 8 * d + i, none⟩ = some (.int .u8 (f (8 * d + i) : Int)) := (blk_cell B0.out _).trans (HF0.out.cell _ (by omega))
     have mc : c < 8 := by omega
     have md : d < 8 := by omega
     have e1 := idx_sum hc8 ht
     have e2 := idx_mod hd
     have e3 := idx_tmod hd
     have p1 := idx_lt mc hi
     have p2 := idx_lt md hi
     have p3 := idx_ge mc hi
     have p4 := idx_ge md hi
     have s0 := idx_w0 mc
     have s1 := idx_w1 mc hi
     have s2 := idx_w0 md
     have s3 := idx_w1 md hi
     have t0 := idx_nat c i
     have t1 := idx_nat d i
     clear hc8 hi ht hd hd8 mc md
     go_wp2
     go_still_tail 12, (by kernel_rfl)
     change wpList _ _ _ _ _ wr.drew
     replace HS := Aside0.mk (blk_drew HS.out)
     replace B0 := Aside0.mk (blk_drew B0.out)
     replace HB := Aside0.mk (below_drew1 HB.out)
     clear hw e1 e2 e3 s2 s3 p2 p4 t1
     generalize wr.drew = w4 at HS HB B0 ⊢
     have hc : w4.cell? ⟨g, 8 * c + i, none⟩ = some (.int .u8 ((if (8 * c + i) % 8 < i ∨ (8 * c + i) % 8 = i ∧ colF false (tOf false i) ((8 * c + i) / 8) < c then turnF false false f (8 * c + i) else f (8 * c + i) : Nat) : Int)) := (blk_cell HS.out _).trans (HW.out.cell _ LT.out)
     generalize ((if (8 * c + i) % 8 < i ∨ (8 * c + i) % 8 = i ∧ colF false (tOf false i) ((8 * c + i) / 8) < c then turnF false false f (8 * c + i) else f (8 * c + i) : Nat) : Int) = old at hc
     have hz : w4.frozen? ⟨g, 8 * c + i, none⟩ = false := blk_frozen HS.out _
     go_wp2
     clear s0 s1 p1 p3 t0 hc hz
     go_roundg k3
     case measure => omega
     case rel =>
      have hc8 := HC8.out
      have hi := HI.out
      have ht := T8.out
      have hd := HD.out
      have hq := HQ.out
      refine ⟨c + 1, _, by rw [step_1 (by omega)], ⟨by have := HC.out; omega⟩, ⟨blk_put HS.out (8 * c + i) _ rfl⟩, ⟨blk_far B0.out (Ne.symm NG.out) _⟩, ⟨HW.out.set LT.out LF.out rfl (fun n hn => ?_)⟩, ⟨HB.out.setCell (Nat.le_refl _) _⟩⟩
      unfold colF
      simp only [if_true, if_false, Bool.false_eq_true, reduceIte]
      by_cases e : n = 8 * c + i
      · subst e
        rw [if_pos (by omega), if_pos rfl]
        unfold turnF
        simp only [if_true, if_false, Bool.false_eq_true, reduceIte]
        rw [show (8 * c + i) % 8 = i by omega, show (8 * c + i) / 8 = c by omega, ← hq]
        congr 1
        omega
      · rw [if_neg e]
        by_cases e2 : n % 8 < i ∨ n % 8 = i ∧ n / 8 < c
        · rw [if_pos (by omega), if_pos e2]
        · rw [if_neg (by omega), if_neg e2]
theorem turn_calls {g : Nat} {cs : Array Value} {w : World} {f : Nat → Nat} (q back : Bool) (hS : w.heap[g]? = some (.cells cs 101 (0, 0))) (hf : Sta f cs) :
  Calls Try.prog 72 #[.pointer (some ⟨g, 0, none⟩), .bool q, .bool back] w fun e w' => e = .returned (.tuple #[]) ∧ (∃ cs', w'.heap[g]? = some (.cells cs' 101 (0, 0)) ∧ Sta (turnF q back f) cs') ∧ Below g w w' := by
  cases q <;> cases back
  · exact turn_false_false hS hf
  · exact turn_false_true hS hf
  · exact turn_true_false hS hf
  · exact turn_true_true hS hf
end Go.Proofs.Ytaffpnnhoagmaaa.P
