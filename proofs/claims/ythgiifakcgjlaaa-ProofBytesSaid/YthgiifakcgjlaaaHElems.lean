/- The bytes of elements of a level (octet.Elems). Conditions: none. -/
import Derived.Test.YthgiifakcgjlaaaHBld
import Derived.Test.YthgiifakcgjlaaaHElem
import Derived.Test.YthgiifakcgjlaaaPx4
import Derived.Test.YthgiifakcgjlaaaPx8
import Derived.Test.YthgiifakcgjlaaaPx9
set_option linter.unusedVariables false
set_option linter.unusedSimpArgs false
namespace Go.Proofs.Ythgiifakcgjlaaa.P
open Go.RowKit Go.Proofs.YthgiifakcgjlaaaX Go.Proofs.YthgiifakcgjlaaaW.PrintWords Go.Proofs.YthgiifakcgjlaaaW.PrintLast Go.Proofs.YthgiifakcgjlaaaW.PrintMore
def octet_Elems.l0 : Nat → Int → List S61 → ByteArray → Int → Option ByteArray
 | 0, _, _, _, _ => none
 | k + 1, v, l, s, i => if i < (l.length : Int) then (if 0 ≤ i then ((octet_Of.f k v ((rd_T61 l i).f0) ((rd_T61 l i).f1)).bind fun o => (if o = true then ((octet_Elem.f k v ((rd_T61 l i).f0) ((rd_T61 l i).f1)).bind fun t => (if s.size + t.size ≤ 140737488355328 then (octet_Elems.l0 k v l (s ++ t) (wrap64 (i + 1))) else none)) else some (⟨#[]⟩ : ByteArray))) else none) else some s
def octet_Elems.f (k : Nat) (a0 : Int) (l1 : List S61) : Option ByteArray := (octet_Wide.f k a0).bind fun n => (if n = 0 then some (⟨#[]⟩ : ByteArray) else ((octet_Num.f (l1.length : Int)).bind fun t => (if t.size ≤ 140737488355328 then octet_Elems.l0 k a0 l1 t 0 else none)))
set_option maxHeartbeats 8000000 in
set_option maxRecDepth 100000 in
theorem octet_Elems.calls (k : Nat) (a0 : Int) (A1 : Option Addr) (c1 : Nat) (l1 : List S61) (r : ByteArray) (w : World) (hr1 : Kd.C k61 w A1 l1.length l1) (hc1 : l1.length ≤ c1) (h : octet_Elems.f k a0 l1 = some r) :
  Calls Try.prog 64 #[.int .i64 a0, .slice A1 l1.length c1] w fun e w' => e = .returned (.string r) ∧ Below w.heap.size w w' := by
 have hu33 := Try.underlying61
 have HR1 := Aside0.mk hr1
 have HC1 := Aside0.mk hc1
 clear hr1 hc1
 have HB := Aside0.mk (Below.refl w.heap.size w)
 unfold octet_Elems.f at h
 obtain ⟨n0, h0, h⟩ := Option.bind_eq_some_iff.mp h
 have A2 := Aside0.mk h0
 clear h0
 by_cases hn : n0 = 0
 · subst hn
   rw [if_pos rfl] at h
   obtain rfl := Option.some.inj h
   clear h
   go_enter Try.func64, Try.ntmps64
   go_wp2_with (go_at_call 90; refine (octet_Wide.calls k a0 0 _ A2.out).mono ?_; rintro e w7 ⟨rfl, ⟨nd, rfl⟩⟩)
   go_ret
   exact ⟨rfl, pw_below_drewN HB.out nd⟩
 rw [if_neg hn] at h
 have hn2 : (n0 == 0) = false := beq_eq_false_iff_ne.mpr hn
 clear hn
 obtain ⟨t0, h1, h⟩ := Option.bind_eq_some_iff.mp h
 have A3 := Aside0.mk h1
 clear h1
 by_cases hz : t0.size ≤ 140737488355328
 rotate_left
 · rw [if_neg hz] at h
   cases h
 rw [if_pos hz] at h
 have H' := Aside0.mk h
 have HZ := Aside0.mk hz
 clear h hz
 go_enter Try.func64, Try.ntmps64
 go_wp2_with (first
  | (go_at_call 90; refine (octet_Wide.calls k a0 n0 _ A2.out).mono ?_; rintro e w7 ⟨rfl, ⟨nd, rfl⟩⟩; replace HB := Aside0.mk (pw_below_drewN HB.out nd))
  | ((with_reducible refine gate_dst (N := 5) rfl ?_); refine box_event ?hg (N := 5) ?hd (cs := #[.pointer none, .slice none 0 0]) (t := 125) ?hr ?_; (case hd => rfl); (case hg => rfl); (case hr => first | (go_simp; done) | (go_simp; rfl)); intro g5 hg5 w3 hbox hb; have G5 := ge hg5 HB; have HI := Aside0.mk (bld_new (e := 5) G5.out hbox); replace HB := bh HB hb; clear hb hbox hg5)
  | (go_at_call 67; refine (octet_Num.calls (l1.length : Int) t0 _ A3.out).mono ?_; rintro e w4 ⟨rfl, hb⟩; replace HI := Aside0.mk (bld_bel HI.out hb); replace HB := bh HB hb; clear hb)
  | (go_at_call 70; refine (Try.Builder_WriteString w.heap.size g5 _ t0 _ HI.out (by rw [Lib.strCells_length]; have := HZ.out; show 0 + t0.size ≤ _; omega) (below_size HB.out)).mono ?_; rintro e w5 ⟨rfl, hat, hb⟩; rw [strCells_app, nil_app] at hat; replace HI := Aside0.mk (show Lib.IsBuilder _ _ _ _ _ _ from .inr hat); replace HB := Aside0.mk (HB.out.trans hb); clear hat hb))
 go_loopg [17] k (fun kq v17 w' => ∃ (s : ByteArray) (i : Int), v17 = .int .i64 i ∧ Aside0 (octet_Elems.l0 kq a0 l1 s i = some r) ∧ Aside0 (kq ≤ k) ∧ Aside0 (Lib.IsBuilder 125 5 w.heap.size g5 (Lib.strCells s) w') ∧ Aside0 (Below w.heap.size w w'))
 case atStart => exact ⟨t0, 0, rfl, H', ⟨Nat.le_refl _⟩, HI, HB⟩
 case round =>
  clear H' HI HB
  obtain ⟨s, i, rfl, HA, HK1, HI, HB⟩ := hrel
  cases gk with
  | zero => exact absurd HA.out (by simp [octet_Elems.l0])
  | succ k1 =>
   have H := HA.out
   clear HA
   simp only [octet_Elems.l0] at H
   by_cases c4 : i < (l1.length : Int)
   rotate_left
   · rw [if_neg c4] at H
     have c4b0 : decide (i < (l1.length : Int)) = false := decide_eq_false c4
     clear c4
     obtain rfl := Option.some.inj H
     go_wp2_with (go_at_call 71; refine (Try.Builder_String_any w.heap.size g5 s.data.toList _ HI.out (below_size HB.out)).mono ?_; rintro e w10 ⟨rfl, hb⟩; rw [str_eta]; replace HB := Aside0.mk (HB.out.trans hb); clear hb)
     go_ret
     exact ⟨rfl, HB.out⟩
   rw [if_pos c4] at H
   have c4b0 : decide (i < (l1.length : Int)) = true := decide_eq_true c4
   clear c4
   by_cases c5 : 0 ≤ i
   rotate_left
   · rw [if_neg c5] at H
     cases H
   rw [if_pos c5] at H
   have c5b0 : decide (0 ≤ i) = true := decide_eq_true c5
   clear c5
   replace H := Option.bind_eq_some_iff.mp H
   obtain ⟨o, A60, H⟩ := H
   have A6 := Aside0.mk A60
   clear A60
   have p1 : 0 ≤ (i : Int) := of_decide_eq_true (by first | (with_reducible assumption) | assumption)
   have q1 : i < (l1.length : Int) := of_decide_eq_true (by first | (with_reducible assumption) | assumption)
   obtain ⟨ad, e1, hx0, hx1⟩ := at_T61 HR1.out i p1 q1
   cases e1
   replace hx0 := (HB.out.cell (World.block_lt_of_cell? w _ hx0)).trans hx0
   replace hx1 := (HB.out.cell (World.block_lt_of_cell? w _ hx1)).trans hx1
   replace p1 := eq_true p1
   replace q1 := eq_true q1
   cases o with
   | false =>
    rw [if_neg (by decide)] at H
    obtain rfl := Option.some.inj H
    clear H
    go_wp2_with (first
     | ((with_reducible refine gate_dst (N := 7) rfl ?_); refine box_event ?hg (N := 7) ?hd (cs := #[.int .u64 0, .int .u64 0]) (t := 61) ?hr ?_; (case hd => rfl); (case hg => rfl); (case hr => first | (go_simp; done) | (go_simp; rfl)); intro g7 hg7 w8 hbox hb; have B7 := Aside0.mk hbox; have G7 := ge hg7 HB; replace HB := bh HB hb; clear hb hbox hg7; obtain ⟨hc70, hc71⟩ := zc2 B7; obtain ⟨hf70, hf71⟩ := zf2 B7)
     | (go_at_call 91; refine (octet_Of.calls k1 a0 ((rd_T61 l1 i).f0) ((rd_T61 l1 i).f1) _ _ A6.out).mono ?_; rintro e w9 ⟨rfl, hb⟩; clear hc70 hc71 hf70 hf71; replace HB := Aside0.mk (below_step (below_set (below_set HB.out G7.out) G7.out) hb); clear hb))
    go_ret
    exact ⟨rfl, HB.out⟩
   | true =>
    rw [if_pos rfl] at H
    obtain ⟨t, A70, H⟩ := Option.bind_eq_some_iff.mp H
    have A7 := Aside0.mk A70
    clear A70
    by_cases c7 : s.size + t.size ≤ 140737488355328
    rotate_left
    · rw [if_neg c7] at H
      cases H
    rw [if_pos c7] at H
    have HZ7 := Aside0.mk c7
    clear c7
    have H' := Aside0.mk H
    clear H
    go_wp2_with (first
     | ((with_reducible refine gate_dst (N := 7) rfl ?_); refine box_event ?hg (N := 7) ?hd (cs := #[.int .u64 0, .int .u64 0]) (t := 61) ?hr ?_; (case hd => rfl); (case hg => rfl); (case hr => first | (go_simp; done) | (go_simp; rfl)); intro g7 hg7 w8 hbox hb; have B7 := Aside0.mk hbox; have G7 := ge hg7 HB; have N7 := Aside0.mk (bld_ne HI.out hg7); replace HI := Aside0.mk (bld_bel HI.out hb); replace HB := bh HB hb; clear hb hbox hg7; obtain ⟨hc70, hc71⟩ := zc2 B7; obtain ⟨hf70, hf71⟩ := zf2 B7)
     | (go_at_call 91; refine (octet_Of.calls k1 a0 ((rd_T61 l1 i).f0) ((rd_T61 l1 i).f1) _ _ A6.out).mono ?_; rintro e w9 ⟨rfl, hb⟩; clear hc70 hc71 hf70 hf71; have C7 := Aside0.mk (blk_put (blk_put B7.out 0 (.int .u64 ((rd_T61 l1 i).f0)) rfl) 1 (.int .u64 ((rd_T61 l1 i).f1)) rfl); replace HI := Aside0.mk (bld_bel (bld_far (bld_far HI.out N7.out B7.out 0 (.int .u64 ((rd_T61 l1 i).f0))) N7.out (blk_put B7.out 0 (.int .u64 ((rd_T61 l1 i).f0)) rfl) 1 (.int .u64 ((rd_T61 l1 i).f1))) hb); replace HB := Aside0.mk (below_step (below_set (below_set HB.out G7.out) G7.out) hb); replace C7 := bb C7 hb; clear hb; obtain ⟨hc70, hc71⟩ := zc2 C7)
     | (go_at_call 105; refine (octet_Elem.calls k1 a0 ((rd_T61 l1 i).f0) ((rd_T61 l1 i).f1) t _ A7.out).mono ?_; rintro e w10 ⟨rfl, hb⟩; clear hc70 hc71; replace HI := Aside0.mk (bld_bel HI.out hb); replace HB := bh HB hb; clear hb)
     | (go_at_call 70; refine (Try.Builder_WriteString w.heap.size g5 _ t _ HI.out (by rw [Lib.strCells_length]; exact HZ7.out) (below_size HB.out)).mono ?_; rintro e w11 ⟨rfl, hat, hb⟩; rw [strCells_app] at hat; replace HI := Aside0.mk (show Lib.IsBuilder _ _ _ _ _ _ from .inr hat); replace HB := Aside0.mk (HB.out.trans hb); clear hat hb))
    go_roundg k1
    case measure => have := HK1.out; omega
    case rel => exact ⟨s ++ t, wrap64 (i + 1), rfl, H', ⟨by have := HK1.out; omega⟩, HI, HB⟩
end Go.Proofs.Ythgiifakcgjlaaa.P
