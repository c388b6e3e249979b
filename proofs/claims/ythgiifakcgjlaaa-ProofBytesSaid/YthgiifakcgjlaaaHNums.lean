/- The bytes of numbers, one behind the other (proof.nums). Conditions: none. -/
import Derived.Test.YthgiifakcgjlaaaHBld
import Derived.Test.YthgiifakcgjlaaaPx4
set_option linter.unusedVariables false
set_option linter.unusedSimpArgs false
namespace Go.Proofs.Ythgiifakcgjlaaa.P
open Go.RowKit Go.Proofs.YthgiifakcgjlaaaX Go.Proofs.YthgiifakcgjlaaaW.PrintWords Go.Proofs.YthgiifakcgjlaaaW.PrintLast Go.Proofs.YthgiifakcgjlaaaW.PrintMore
def proof_nums.l0 : Nat → List Int → ByteArray → Int → Option ByteArray
 | 0, _, _, _ => none
 | k + 1, l, s, i => if i < (l.length : Int) then (if 0 ≤ i then ((octet_Num.f (rd l i)).bind fun t => (if s.size + t.size ≤ 140737488355328 then (proof_nums.l0 k l (s ++ t) (wrap64 (i + 1))) else none)) else none) else some s
def proof_nums.f (k : Nat) (l0 : List Int) : Option ByteArray := proof_nums.l0 k l0 ⟨#[]⟩ 0
set_option maxHeartbeats 8000000 in
set_option maxRecDepth 100000 in
theorem proof_nums.calls (k : Nat) (A0 : Option Addr) (c0 : Nat) (l0 : List Int) (r : ByteArray) (w : World) (hr0 : Kd.C (Kd.int .i64) w A0 l0.length l0) (hc0 : l0.length ≤ c0) (h : proof_nums.f k l0 = some r) :
  Calls Try.prog 32 #[.slice A0 l0.length c0] w fun e w' => e = .returned (.string r) ∧ Below w.heap.size w w' := by
 have HR0 := Aside0.mk hr0
 have HC0 := Aside0.mk hc0
 clear hr0 hc0
 have HB := Aside0.mk (Below.refl w.heap.size w)
 unfold proof_nums.f at h
 have H' := Aside0.mk h
 clear h
 go_enter Try.func32, Try.ntmps32
 go_wp2_with (first
  | ((with_reducible refine gate_dst (N := 3) rfl ?_); refine box_event ?hg (N := 3) ?hd (cs := #[.pointer none, .slice none 0 0]) (t := 125) ?hr ?_; (case hd => rfl); (case hg => rfl); (case hr => first | (go_simp; done) | (go_simp; rfl)); intro g3 hg3 w3 hbox hb; have G3 := ge hg3 HB; have HI := Aside0.mk (bld_new (e := 5) G3.out hbox); replace HB := bh HB hb; clear hb hbox hg3))
 go_loopg [8] k (fun kq v8 w' => ∃ (s : ByteArray) (i : Int), v8 = .int .i64 i ∧ Aside0 (proof_nums.l0 kq l0 s i = some r) ∧ Aside0 (kq ≤ k) ∧ Aside0 (Lib.IsBuilder 125 5 w.heap.size g3 (Lib.strCells s) w') ∧ Aside0 (Below w.heap.size w w'))
 case atStart => exact ⟨⟨#[]⟩, 0, rfl, H', ⟨Nat.le_refl _⟩, HI, HB⟩
 case round =>
  clear H' HI HB
  obtain ⟨s, i, rfl, HA, HK1, HI, HB⟩ := hrel
  cases gk with
  | zero => exact absurd HA.out (by simp [proof_nums.l0])
  | succ k1 =>
   have H := HA.out
   clear HA
   simp only [proof_nums.l0] at H
   by_cases c4 : i < (l0.length : Int)
   · rw [if_pos c4] at H
     have c4b0 : decide (i < (l0.length : Int)) = true := decide_eq_true c4
     clear c4
     by_cases c5 : 0 ≤ i
     · rw [if_pos c5] at H
       have c5b0 : decide (0 ≤ i) = true := decide_eq_true c5
       clear c5
       replace H := Option.bind_eq_some_iff.mp H
       obtain ⟨t, A60, H⟩ := H
       have A6 := Aside0.mk A60
       clear A60
       by_cases c7 : s.size + t.size ≤ 140737488355328
       · rw [if_pos c7] at H
         have HZ7 := Aside0.mk c7
         clear c7
         have H' := Aside0.mk H
         clear H
         have p1 : 0 ≤ (i : Int) := of_decide_eq_true (by first | (with_reducible assumption) | assumption)
         have q1 : i < (l0.length : Int) := of_decide_eq_true (by first | (with_reducible assumption) | assumption)
         obtain ⟨ad, e1, hx0⟩ := Kd.at_int HR0.out i p1 q1
         cases e1
         replace hx0 := (HB.out.cell (World.block_lt_of_cell? w _ hx0)).trans hx0
         replace p1 := eq_true p1
         replace q1 := eq_true q1
         go_wp2_with (first
          | (go_at_call 67; refine (octet_Num.calls (rd l0 i) t _ A6.out).mono ?_; rintro e w8 ⟨rfl, hb⟩; replace HI := Aside0.mk (bld_bel HI.out hb); replace HB := bh HB hb; clear hb)
          | (go_at_call 70; refine (Try.Builder_WriteString w.heap.size g3 _ t _ HI.out (by rw [Lib.strCells_length]; exact HZ7.out) (below_size HB.out)).mono ?_; rintro e w9 ⟨rfl, hat, hb⟩; rw [strCells_app] at hat; replace HI := Aside0.mk (show Lib.IsBuilder _ _ _ _ _ _ from .inr hat); replace HB := Aside0.mk (HB.out.trans hb); clear hat hb))
         go_roundg k1
         case measure => have := HK1.out; omega
         case rel => exact ⟨s ++ t, wrap64 (i + 1), rfl, H', ⟨by have := HK1.out; omega⟩, HI, HB⟩
       · rw [if_neg c7] at H
         cases H
     · rw [if_neg c5] at H
       cases H
   · rw [if_neg c4] at H
     have c4b0 : decide (i < (l0.length : Int)) = false := decide_eq_false c4
     clear c4
     obtain rfl := Option.some.inj H
     go_wp2_with (go_at_call 71; refine (Try.Builder_String_any w.heap.size g3 s.data.toList _ HI.out (below_size HB.out)).mono ?_; rintro e w10 ⟨rfl, hb⟩; rw [str_eta]; replace HB := Aside0.mk (HB.out.trans hb); clear hb)
     go_ret
     exact ⟨rfl, HB.out⟩
end Go.Proofs.Ythgiifakcgjlaaa.P
