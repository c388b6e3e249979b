/- How many there are, and each written (proof.each), over lists of elements. Conditions: those that each theorem names. Printed by gen_eachl.py. -/
import Derived.Test.YthgiifakcgjlaaaHBld
import Derived.Test.YthgiifakcgjlaaaHBox
import Derived.Test.YthgiifakcgjlaaaPx11
import Derived.Test.YthgiifakcgjlaaaPx4
set_option linter.unusedVariables false
set_option linter.unusedSimpArgs false
set_option maxRecDepth 100000
namespace Go.Proofs.Ythgiifakcgjlaaa.P
open Go.RowKit Go.Proofs.YthgiifakcgjlaaaX Go.Proofs.YthgiifakcgjlaaaW.PrintWords Go.Proofs.YthgiifakcgjlaaaW.PrintLast Go.Proofs.YthgiifakcgjlaaaW.PrintMore
def each_go {α : Type} (one : α → Option ByteArray) : List α → ByteArray → Option ByteArray
  | [], s => some s
  | x :: l, s => (one x).bind fun t => if s.size + t.size ≤ 140737488355328 then each_go one l (s ++ t) else none
def each_f {α : Type} (one : α → Option ByteArray) (l : List α) : Option ByteArray := if l.length < 1000000000 then (octet_Num.f (l.length : Int)).bind fun t => if t.size ≤ 1000 then each_go one l t else none else none
def listOne (k : Nat) (a1 : Int) (l : List S61) : Option ByteArray := proof_Proof_1.f k l a1
def api_Elem_66.f (k : Nat) (l : List (List S61)) (a1 : Int) : Option ByteArray := each_f (listOne k a1) l
set_option maxHeartbeats 8000000 in
set_option maxRecDepth 100000 in
theorem api_Elem_66.calls (k : Nat) (A0 : Option Addr) (c0 : Nat) (l0 : List (List S61)) (a1 : Int) (r : ByteArray) (w : World) (gl : Nat) (hY : LevB w gl a1) (hr0 : Kd.C (Kd.slice 61 k61) w A0 l0.length l0) (hc0 : l0.length ≤ c0) (h : api_Elem_66.f k l0 a1 = some r) :
  Calls Try.prog 66 #[.slice A0 l0.length c0, .func (.func 63) #[] #[.pointer (some ⟨gl, 0, none⟩)]] w fun e w' => e = .returned (.string r) ∧ Below w.heap.size w w' := by
 have HY0 := Aside0.mk hY
 clear hY
 have HR0 := Aside0.mk hr0
 have HC0 := Aside0.mk hc0
 clear hr0 hc0
 have HB := Aside0.mk (Below.refl w.heap.size w)
 replace h : each_f (listOne k a1) l0 = some r := h
 unfold each_f at h
 by_cases hll : l0.length < 1000000000
 rotate_left
 · rw [if_neg hll] at h
   cases h
 rw [if_pos hll] at h
 obtain ⟨tn, h1, h2⟩ := Option.bind_eq_some_iff.mp h
 by_cases hts : tn.size ≤ 1000
 rotate_left
 · rw [if_neg hts] at h2
   cases h2
 rw [if_pos hts] at h2
 have HL := Aside0.mk hll
 have HN := Aside0.mk h1
 have HS := Aside0.mk (show (⟨#[]⟩ : ByteArray).size + tn.size ≤ 140737488355328 by rw [show (⟨#[]⟩ : ByteArray).size = 0 from rfl]; omega)
 have H' := Aside0.mk h2
 clear h h1 h2 hll hts
 go_enter Try.func66, Try.ntmps66
 go_wp2_with (first
  | ((with_reducible refine gate_dst (N := 5) rfl ?_); refine box_event ?hg (N := 5) ?hd (cs := #[.pointer none, .slice none 0 0]) (t := 125) ?hr ?_; (case hd => rfl); (case hg => rfl); (case hr => first | (go_simp; done) | (go_simp; rfl)); intro g3 hg3 w3 hbox hb; have G3 := ge hg3 HB; have HI := Aside0.mk (bld_new (e := 5) G3.out hbox); replace HB := bh HB hb; clear hb hbox hg3)
  | ((with_reducible refine gate_callee (f := 67) rfl ?_); refine goesL_ (some 10) rfl rfl Try.func67 (by kernel_rfl) rfl #[.int .i64 (l0.length : Int)] rfl (by (try simp only [List.map_toArray, List.map_cons, List.map_nil]); first | done | rfl) ?_; (with_reducible refine (octet_Num.calls (l0.length : Int) tn _ HN.out).mono ?_); rintro e w8 ⟨rfl, hb⟩; refine ⟨_, rfl, ?_⟩; replace HI := Aside0.mk (bld_bel HI.out hb); replace HB := bh HB hb; clear hb)
  | (go_at_call 67; (with_reducible refine (octet_Num.calls (l0.length : Int) tn _ HN.out).mono ?_); rintro e w8 ⟨rfl, hb⟩; replace HI := Aside0.mk (bld_bel HI.out hb); replace HB := bh HB hb; clear hb)
  | (go_at_call 70; refine (Try.Builder_WriteString w.heap.size g3 _ tn _ HI.out (by rw [Lib.strCells_length]; exact HS.out) (below_size HB.out)).mono ?_; rintro e w9 ⟨rfl, hat, hb⟩; rw [strCells_app, nil_app] at hat; replace HI := Aside0.mk (show Lib.IsBuilder _ _ _ _ _ _ from .inr hat); replace HB := Aside0.mk (HB.out.trans hb); clear hat hb))
 go_loopg [14] l0.length (fun kq v14 w' => ∃ (s : ByteArray) (i : Nat), v14 = .int .i64 (i : Int) ∧ Aside0 (i + kq = l0.length) ∧ Aside0 (each_go (listOne k a1) (l0.drop i) s = some r) ∧ Aside0 (Lib.IsBuilder 125 5 w.heap.size g3 (Lib.strCells s) w') ∧ Aside0 (Below w.heap.size w w'))
 case atStart => exact ⟨tn, 0, rfl, ⟨Nat.zero_add _⟩, H', HI, HB⟩
 case round =>
  clear H' HI HB
  obtain ⟨s, i, rfl, HK, HA, HI, HB⟩ := hrel
  cases gk with
  | zero =>
   have e0 := HK.out
   have d1 : decide ((i : Int) < (l0.length : Int)) = false := decide_eq_false (by omega)
   have d2 : decide (i < l0.length) = false := decide_eq_false (by omega)
   have hA := HA.out
   rw [List.drop_of_length_le (by omega)] at hA
   obtain rfl := Option.some.inj hA
   clear hA e0
   go_wp2_with (go_at_call 71; refine (Try.Builder_String_any w.heap.size g3 s.data.toList _ HI.out (below_size HB.out)).mono ?_; rintro e w10 ⟨rfl, hb⟩; rw [str_eta]; replace HB := Aside0.mk (HB.out.trans hb); clear hb)
   go_ret
   exact ⟨rfl, HB.out⟩
  | succ gko =>
   have e0 := HK.out
   have hi : i < l0.length := by omega
   have d1 : decide ((i : Int) < (l0.length : Int)) = true := decide_eq_true (by omega)
   have d2 : decide (i < l0.length) = true := decide_eq_true hi
   have p1 : 0 ≤ (i : Int) := by omega
   have q1 : (i : Int) < (l0.length : Int) := by omega
   obtain ⟨ad1, Ax, cx, e1, hx1, hl1, hi1⟩ := at_L6 (Kd.C_below HR0.out HB.out) (i : Int) p1 q1
   cases e1
   obtain ⟨x, hx⟩ : ∃ x, x = l0[i] := ⟨_, rfl⟩
   have et : rd_L6 l0 (i : Int) = x := by rw [hx]; unfold rd_L6; rw [Int.toNat_natCast, List.getD_eq_getElem?_getD, List.getElem?_eq_getElem hi, Option.getD_some]
   rw [et] at hx1 hl1 hi1
   clear et
   simp only [Int.toNat_natCast] at hx1
   have HX1 := Aside0.mk hi1
   have HX2 := Aside0.mk hl1
   clear hi1 hl1
   have hA := HA.out
   rw [List.drop_eq_getElem_cons hi, ← hx] at hA
   obtain ⟨t, A60, H⟩ := Option.bind_eq_some_iff.mp (show (((listOne k a1) x).bind fun t => if s.size + t.size ≤ 140737488355328 then each_go (listOne k a1) (l0.drop (i + 1)) (s ++ t) else none) = some r from hA)
   by_cases c7 : s.size + t.size ≤ 140737488355328
   rotate_left
   · rw [if_neg c7] at H
     cases H
   rw [if_pos c7] at H
   have HZ7 := Aside0.mk c7
   have A6 := Aside0.mk (show proof_Proof_1.f k x a1 = some t from A60)
   have HA2 := Aside0.mk H
   have e9 : wrap64 ((i : Int) + 1) = ((i + 1 : Nat) : Int) := by have := HL.out; unfold wrap64; omega
   have HK2 := Aside0.mk (show (i + 1) + gko = l0.length by omega)
   clear hA hx HA H A60 c7 hi e0
   replace p1 := eq_true p1
   replace q1 := eq_true q1
   go_wp2_with (first
    | ((with_reducible refine gate_callee (f := 63) rfl ?_); refine goesL_ (some 20) rfl rfl Try.func63 (by kernel_rfl) rfl #[.slice Ax x.length cx, .pointer (some ⟨gl, 0, none⟩)] rfl (by (try simp only [List.map_toArray, List.map_cons, List.map_nil]); first | done | rfl) ?_; (with_reducible refine (proof_Proof_1.calls (gl := gl) (hY := HY0.out.below HB.out) k Ax cx x a1 t _ (by first | exact HX1.out | exact Kd.C_drew HX1.out | exact Kd.C_drewN HX1.out _) HX2.out A6.out).mono ?_); rintro e w8 ⟨rfl, hb⟩; refine ⟨_, rfl, ?_⟩; replace HI := Aside0.mk (bld_bel HI.out hb); replace HB := bh HB hb; clear hb)
    | (go_at_call 63; (with_reducible refine (proof_Proof_1.calls (gl := gl) (hY := HY0.out.below HB.out) k Ax cx x a1 t _ (by first | exact HX1.out | exact Kd.C_drew HX1.out | exact Kd.C_drewN HX1.out _) HX2.out A6.out).mono ?_); rintro e w8 ⟨rfl, hb⟩; replace HI := Aside0.mk (bld_bel HI.out hb); replace HB := bh HB hb; clear hb)
    | (go_at_call 70; refine (Try.Builder_WriteString w.heap.size g3 _ t _ HI.out (by rw [Lib.strCells_length]; exact HZ7.out) (below_size HB.out)).mono ?_; rintro e w9 ⟨rfl, hat, hb⟩; rw [strCells_app] at hat; replace HI := Aside0.mk (show Lib.IsBuilder _ _ _ _ _ _ from .inr hat); replace HB := Aside0.mk (HB.out.trans hb); clear hat hb))
   go_roundg gko
   case measure => exact Nat.lt_succ_self _
   case rel => exact ⟨s ++ t, i + 1, by first | rfl | (simp; done) | (simp [*]; done), HK2, HA2, HI, HB⟩
end Go.Proofs.Ythgiifakcgjlaaa.P
