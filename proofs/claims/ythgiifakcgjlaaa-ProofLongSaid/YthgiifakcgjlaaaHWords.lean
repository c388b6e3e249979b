/- How many there are, and each written (proof.each), over words and columns; proof.Words. Conditions: those that each theorem names. Printed by gen_each.py. -/
import Derived.Test.YthgiifakcgjlaaaHWord
import Derived.Test.YthgiifakcgjlaaaHBld
import Derived.Test.YthgiifakcgjlaaaPx2
import Derived.Test.YthgiifakcgjlaaaPx3a
set_option linter.unusedVariables false
set_option linter.unusedSimpArgs false
set_option maxRecDepth 100000
namespace Go.Proofs.Ythgiifakcgjlaaa.P
open Go.RowKit Go.Proofs.YthgiifakcgjlaaaX Go.Proofs.YthgiifakcgjlaaaW.PrintWords Go.Proofs.YthgiifakcgjlaaaW.PrintLast Go.Proofs.YthgiifakcgjlaaaW.PrintMore
def each_go {α : Type} (one : α → Option ByteArray) : List α → ByteArray → Option ByteArray
  | [], s => some s
  | x :: l, s => (one x).bind fun t => if s.size + t.size ≤ 140737488355328 then each_go one l (s ++ t) else none
def each_f {α : Type} (one : α → Option ByteArray) (l : List α) : Option ByteArray := if l.length < 1000000000 then (octet_Num.f (l.length : Int)).bind fun t => if t.size ≤ 1000 then each_go one l t else none else none
def proof_each_u64.f (l : List (Int)) : Option ByteArray := each_f proof_word.f l
set_option maxHeartbeats 8000000 in
set_option maxRecDepth 100000 in
theorem proof_each_u64.calls (A0 : Option Addr) (c0 : Nat) (l0 : List (Int)) (r : ByteArray) (w : World) (hr0 : Kd.C (Kd.int .u64) w A0 l0.length l0) (hc0 : l0.length ≤ c0) (h : proof_each_u64.f l0 = some r) :
  Calls Try.prog 42 #[.slice A0 l0.length c0, .func (.func 43) #[] #[]] w fun e w' => e = .returned (.string r) ∧ Below w.heap.size w w' := by
 have HR0 := Aside0.mk hr0
 have HC0 := Aside0.mk hc0
 clear hr0 hc0
 have HB := Aside0.mk (Below.refl w.heap.size w)
 replace h : each_f proof_word.f l0 = some r := h
 unfold each_f at h
 by_cases hll : l0.length < 1000000000
 rotate_left
 · rw [if_neg hll] at h
   cases h
 rw [if_pos hll] at h
 obtain ⟨tn, h1, h2⟩ := Option.bind_eq_some_iff.mp h
 by_cases hts : tn.size ≤ 1000
 rotate_left
 · rw [if_neg hts] at h2
   cases h2
 rw [if_pos hts] at h2
 have HL := Aside0.mk hll
 have HN := Aside0.mk h1
 have HS := Aside0.mk (show (⟨#[]⟩ : ByteArray).size + tn.size ≤ 140737488355328 by rw [show (⟨#[]⟩ : ByteArray).size = 0 from rfl]; omega)
 have H' := Aside0.mk h2
 clear h h1 h2 hll hts
 go_enter Try.func42, Try.ntmps42
 go_wp2_with (first
  | ((with_reducible refine gate_dst (N := 5) rfl ?_); refine box_event ?hg (N := 5) ?hd (cs := #[.pointer none, .slice none 0 0]) (t := 125) ?hr ?_; (case hd => rfl); (case hg => rfl); (case hr => first | (go_simp; done) | (go_simp; rfl)); intro g3 hg3 w3 hbox hb; have G3 := ge hg3 HB; have HI := Aside0.mk (bld_new (e := 5) G3.out hbox); replace HB := bh HB hb; clear hb hbox hg3)
  | ((with_reducible refine gate_callee (f := 67) rfl ?_); refine goesL_ (some 10) rfl rfl Try.func67 (by kernel_rfl) rfl #[.int .i64 (l0.length : Int)] rfl (by (try simp only [List.map_toArray, List.map_cons, List.map_nil]); first | done | rfl) ?_; (with_reducible refine (octet_Num.calls (l0.length : Int) tn _ HN.out).mono ?_); rintro e w8 ⟨rfl, hb⟩; refine ⟨_, rfl, ?_⟩; replace HI := Aside0.mk (bld_bel HI.out hb); replace HB := bh HB hb; clear hb)
  | (go_at_call 67; (with_reducible refine (octet_Num.calls (l0.length : Int) tn _ HN.out).mono ?_); rintro e w8 ⟨rfl, hb⟩; replace HI := Aside0.mk (bld_bel HI.out hb); replace HB := bh HB hb; clear hb)
  | (go_at_call 70; refine (Try.Builder_WriteString w.heap.size g3 _ tn _ HI.out (by rw [Lib.strCells_length]; exact HS.out) (below_size HB.out)).mono ?_; rintro e w9 ⟨rfl, hat, hb⟩; rw [strCells_app, nil_app] at hat; replace HI := Aside0.mk (show Lib.IsBuilder _ _ _ _ _ _ from .inr hat); replace HB := Aside0.mk (HB.out.trans hb); clear hat hb))
 go_loopg [14] l0.length (fun kq v14 w' => ∃ (s : ByteArray) (i : Nat), v14 = .int .i64 (i : Int) ∧ Aside0 (i + kq = l0.length) ∧ Aside0 (each_go proof_word.f (l0.drop i) s = some r) ∧ Aside0 (Lib.IsBuilder 125 5 w.heap.size g3 (Lib.strCells s) w') ∧ Aside0 (Below w.heap.size w w'))
 case atStart => exact ⟨tn, 0, rfl, ⟨Nat.zero_add _⟩, H', HI, HB⟩
 case round =>
  clear H' HI HB
  obtain ⟨s, i, rfl, HK, HA, HI, HB⟩ := hrel
  cases gk with
  | zero =>
   have e0 := HK.out
   have d1 : decide ((i : Int) < (l0.length : Int)) = false := decide_eq_false (by omega)
   have d2 : decide (i < l0.length) = false := decide_eq_false (by omega)
   have hA := HA.out
   rw [List.drop_of_length_le (by omega)] at hA
   obtain rfl := Option.some.inj hA
   clear hA e0
   go_wp2_with (go_at_call 71; refine (Try.Builder_String_any w.heap.size g3 s.data.toList _ HI.out (below_size HB.out)).mono ?_; rintro e w10 ⟨rfl, hb⟩; rw [str_eta]; replace HB := Aside0.mk (HB.out.trans hb); clear hb)
   go_ret
   exact ⟨rfl, HB.out⟩
  | succ gko =>
   have e0 := HK.out
   have hi : i < l0.length := by omega
   have d1 : decide ((i : Int) < (l0.length : Int)) = true := decide_eq_true (by omega)
   have d2 : decide (i < l0.length) = true := decide_eq_true hi
   have p1 : 0 ≤ (i : Int) := by omega
   have q1 : (i : Int) < (l0.length : Int) := by omega
   obtain ⟨ad1, e1, hx1⟩ := Kd.at_int (Kd.C_below HR0.out HB.out) (i : Int) p1 q1
   cases e1
   obtain ⟨x, hx⟩ : ∃ x, x = l0[i] := ⟨_, rfl⟩
   have et : rd l0 (i : Int) = x := by rw [hx]; unfold rd; rw [Int.toNat_natCast, List.getD_eq_getElem?_getD, List.getElem?_eq_getElem hi, Option.getD_some]
   rw [et] at hx1
   clear et
   simp only [Int.toNat_natCast] at hx1
   have hA := HA.out
   rw [List.drop_eq_getElem_cons hi, ← hx] at hA
   obtain ⟨t, A60, H⟩ := Option.bind_eq_some_iff.mp (show ((proof_word.f x).bind fun t => if s.size + t.size ≤ 140737488355328 then each_go proof_word.f (l0.drop (i + 1)) (s ++ t) else none) = some r from hA)
   by_cases c7 : s.size + t.size ≤ 140737488355328
   rotate_left
   · rw [if_neg c7] at H
     cases H
   rw [if_pos c7] at H
   have HZ7 := Aside0.mk c7
   have A6 := Aside0.mk A60
   have HA2 := Aside0.mk H
   have e9 : wrap64 ((i : Int) + 1) = ((i + 1 : Nat) : Int) := by have := HL.out; unfold wrap64; omega
   have HK2 := Aside0.mk (show (i + 1) + gko = l0.length by omega)
   clear hA hx HA H A60 c7 hi e0
   replace p1 := eq_true p1
   replace q1 := eq_true q1
   go_wp2_with (first
    | ((with_reducible refine gate_callee (f := 43) rfl ?_); refine goesL_ (some 20) rfl rfl Try.func43 (by kernel_rfl) rfl #[.int .u64 x] rfl (by (try simp only [List.map_toArray, List.map_cons, List.map_nil]); first | done | rfl) ?_; (with_reducible refine (proof_word.calls x t _ A6.out).mono ?_); rintro e w8 ⟨rfl, hb⟩; refine ⟨_, rfl, ?_⟩; replace HI := Aside0.mk (bld_bel HI.out hb); replace HB := bh HB hb; clear hb)
    | (go_at_call 43; (with_reducible refine (proof_word.calls x t _ A6.out).mono ?_); rintro e w8 ⟨rfl, hb⟩; replace HI := Aside0.mk (bld_bel HI.out hb); replace HB := bh HB hb; clear hb)
    | (go_at_call 70; refine (Try.Builder_WriteString w.heap.size g3 _ t _ HI.out (by rw [Lib.strCells_length]; exact HZ7.out) (below_size HB.out)).mono ?_; rintro e w9 ⟨rfl, hat, hb⟩; rw [strCells_app] at hat; replace HI := Aside0.mk (show Lib.IsBuilder _ _ _ _ _ _ from .inr hat); replace HB := Aside0.mk (HB.out.trans hb); clear hat hb))
   go_roundg gko
   case measure => exact Nat.lt_succ_self _
   case rel => exact ⟨s ++ t, i + 1, by first | rfl | (simp; done) | (simp [*]; done), HK2, HA2, HI, HB⟩
def proof_Words_2.f (l : List Int) : Option ByteArray := proof_each_u64.f l
set_option maxHeartbeats 8000000 in
set_option maxRecDepth 100000 in
theorem proof_Words_2.calls (A0 : Option Addr) (c0 : Nat) (l0 : List Int) (r : ByteArray) (w : World) (hr0 : Kd.C (Kd.int .u64) w A0 l0.length l0) (hc0 : l0.length ≤ c0) (h : proof_Words_2.f l0 = some r) :
  Calls Try.prog 41 #[.slice A0 l0.length c0] w fun e w' => e = .returned (.string r) ∧ Below w.heap.size w w' := by
 have HR0 := Aside0.mk hr0
 have HC0 := Aside0.mk hc0
 have H0 := Aside0.mk (show proof_each_u64.f l0 = some r from h)
 clear hr0 hc0 h
 have HB := Aside0.mk (Below.refl w.heap.size w)
 go_enter Try.func41, Try.ntmps41
 go_wp2_with (first
  | ((with_reducible refine gate_callee (f := 42) rfl ?_); refine goesL_ (some 4) rfl rfl Try.func42 (by kernel_rfl) rfl #[.slice A0 l0.length c0, .func (.func 43) #[] #[]] rfl (by (try simp only [List.map_toArray, List.map_cons, List.map_nil]); first | done | rfl) ?_; (with_reducible refine (proof_each_u64.calls A0 c0 l0 r _ (Kd.C_below HR0.out HB.out) HC0.out H0.out).mono ?_); rintro e w8 ⟨rfl, hb⟩; refine ⟨_, rfl, ?_⟩; replace HB := bh HB hb; clear hb)
  | (go_at_call 42; (with_reducible refine (proof_each_u64.calls A0 c0 l0 r _ (Kd.C_below HR0.out HB.out) HC0.out H0.out).mono ?_); rintro e w8 ⟨rfl, hb⟩; replace HB := bh HB hb; clear hb))
 go_ret
 exact ⟨by first | rfl | (simp; done) | (simp [*]; done), HB.out⟩
def proof_each_col.f (l : List (List Int)) : Option ByteArray := each_f proof_Words_2.f l
set_option maxHeartbeats 8000000 in
set_option maxRecDepth 100000 in
theorem proof_each_col.calls (A0 : Option Addr) (c0 : Nat) (l0 : List (List Int)) (r : ByteArray) (w : World) (hr0 : Kd.C (Kd.slice 59 (Kd.int .u64)) w A0 l0.length l0) (hc0 : l0.length ≤ c0) (h : proof_each_col.f l0 = some r) :
  Calls Try.prog 40 #[.slice A0 l0.length c0, .func (.func 41) #[] #[]] w fun e w' => e = .returned (.string r) ∧ Below w.heap.size w w' := by
 have HR0 := Aside0.mk hr0
 have HC0 := Aside0.mk hc0
 clear hr0 hc0
 have HB := Aside0.mk (Below.refl w.heap.size w)
 replace h : each_f proof_Words_2.f l0 = some r := h
 unfold each_f at h
 by_cases hll : l0.length < 1000000000
 rotate_left
 · rw [if_neg hll] at h
   cases h
 rw [if_pos hll] at h
 obtain ⟨tn, h1, h2⟩ := Option.bind_eq_some_iff.mp h
 by_cases hts : tn.size ≤ 1000
 rotate_left
 · rw [if_neg hts] at h2
   cases h2
 rw [if_pos hts] at h2
 have HL := Aside0.mk hll
 have HN := Aside0.mk h1
 have HS := Aside0.mk (show (⟨#[]⟩ : ByteArray).size + tn.size ≤ 140737488355328 by rw [show (⟨#[]⟩ : ByteArray).size = 0 from rfl]; omega)
 have H' := Aside0.mk h2
 clear h h1 h2 hll hts
 go_enter Try.func40, Try.ntmps40
 go_wp2_with (first
  | ((with_reducible refine gate_dst (N := 5) rfl ?_); refine box_event ?hg (N := 5) ?hd (cs := #[.pointer none, .slice none 0 0]) (t := 125) ?hr ?_; (case hd => rfl); (case hg => rfl); (case hr => first | (go_simp; done) | (go_simp; rfl)); intro g3 hg3 w3 hbox hb; have G3 := ge hg3 HB; have HI := Aside0.mk (bld_new (e := 5) G3.out hbox); replace HB := bh HB hb; clear hb hbox hg3)
  | ((with_reducible refine gate_callee (f := 67) rfl ?_); refine goesL_ (some 10) rfl rfl Try.func67 (by kernel_rfl) rfl #[.int .i64 (l0.length : Int)] rfl (by (try simp only [List.map_toArray, List.map_cons, List.map_nil]); first | done | rfl) ?_; (with_reducible refine (octet_Num.calls (l0.length : Int) tn _ HN.out).mono ?_); rintro e w8 ⟨rfl, hb⟩; refine ⟨_, rfl, ?_⟩; replace HI := Aside0.mk (bld_bel HI.out hb); replace HB := bh HB hb; clear hb)
  | (go_at_call 67; (with_reducible refine (octet_Num.calls (l0.length : Int) tn _ HN.out).mono ?_); rintro e w8 ⟨rfl, hb⟩; replace HI := Aside0.mk (bld_bel HI.out hb); replace HB := bh HB hb; clear hb)
  | (go_at_call 70; refine (Try.Builder_WriteString w.heap.size g3 _ tn _ HI.out (by rw [Lib.strCells_length]; exact HS.out) (below_size HB.out)).mono ?_; rintro e w9 ⟨rfl, hat, hb⟩; rw [strCells_app, nil_app] at hat; replace HI := Aside0.mk (show Lib.IsBuilder _ _ _ _ _ _ from .inr hat); replace HB := Aside0.mk (HB.out.trans hb); clear hat hb))
 go_loopg [14] l0.length (fun kq v14 w' => ∃ (s : ByteArray) (i : Nat), v14 = .int .i64 (i : Int) ∧ Aside0 (i + kq = l0.length) ∧ Aside0 (each_go proof_Words_2.f (l0.drop i) s = some r) ∧ Aside0 (Lib.IsBuilder 125 5 w.heap.size g3 (Lib.strCells s) w') ∧ Aside0 (Below w.heap.size w w'))
 case atStart => exact ⟨tn, 0, rfl, ⟨Nat.zero_add _⟩, H', HI, HB⟩
 case round =>
  clear H' HI HB
  obtain ⟨s, i, rfl, HK, HA, HI, HB⟩ := hrel
  cases gk with
  | zero =>
   have e0 := HK.out
   have d1 : decide ((i : Int) < (l0.length : Int)) = false := decide_eq_false (by omega)
   have d2 : decide (i < l0.length) = false := decide_eq_false (by omega)
   have hA := HA.out
   rw [List.drop_of_length_le (by omega)] at hA
   obtain rfl := Option.some.inj hA
   clear hA e0
   go_wp2_with (go_at_call 71; refine (Try.Builder_String_any w.heap.size g3 s.data.toList _ HI.out (below_size HB.out)).mono ?_; rintro e w10 ⟨rfl, hb⟩; rw [str_eta]; replace HB := Aside0.mk (HB.out.trans hb); clear hb)
   go_ret
   exact ⟨rfl, HB.out⟩
  | succ gko =>
   have e0 := HK.out
   have hi : i < l0.length := by omega
   have d1 : decide ((i : Int) < (l0.length : Int)) = true := decide_eq_true (by omega)
   have d2 : decide (i < l0.length) = true := decide_eq_true hi
   have p1 : 0 ≤ (i : Int) := by omega
   have q1 : (i : Int) < (l0.length : Int) := by omega
   obtain ⟨ad1, Ax, cx, e1, hx1, hl1, hi1⟩ := at_L4 (Kd.C_below HR0.out HB.out) (i : Int) p1 q1
   cases e1
   obtain ⟨x, hx⟩ : ∃ x, x = l0[i] := ⟨_, rfl⟩
   have et : rd_L4 l0 (i : Int) = x := by rw [hx]; unfold rd_L4; rw [Int.toNat_natCast, List.getD_eq_getElem?_getD, List.getElem?_eq_getElem hi, Option.getD_some]
   rw [et] at hx1 hl1 hi1
   clear et
   simp only [Int.toNat_natCast] at hx1
   have HX1 := Aside0.mk hi1
   have HX2 := Aside0.mk hl1
   clear hi1 hl1
   have hA := HA.out
   rw [List.drop_eq_getElem_cons hi, ← hx] at hA
   obtain ⟨t, A60, H⟩ := Option.bind_eq_some_iff.mp (show ((proof_Words_2.f x).bind fun t => if s.size + t.size ≤ 140737488355328 then each_go proof_Words_2.f (l0.drop (i + 1)) (s ++ t) else none) = some r from hA)
   by_cases c7 : s.size + t.size ≤ 140737488355328
   rotate_left
   · rw [if_neg c7] at H
     cases H
   rw [if_pos c7] at H
   have HZ7 := Aside0.mk c7
   have A6 := Aside0.mk A60
   have HA2 := Aside0.mk H
   have e9 : wrap64 ((i : Int) + 1) = ((i + 1 : Nat) : Int) := by have := HL.out; unfold wrap64; omega
   have HK2 := Aside0.mk (show (i + 1) + gko = l0.length by omega)
   clear hA hx HA H A60 c7 hi e0
   replace p1 := eq_true p1
   replace q1 := eq_true q1
   go_wp2_with (first
    | ((with_reducible refine gate_callee (f := 41) rfl ?_); refine goesL_ (some 20) rfl rfl Try.func41 (by kernel_rfl) rfl #[.slice Ax x.length cx] rfl (by (try simp only [List.map_toArray, List.map_cons, List.map_nil]); first | done | rfl) ?_; (with_reducible refine (proof_Words_2.calls Ax cx x t _ (by first | exact HX1.out | exact Kd.C_drew HX1.out | exact Kd.C_drewN HX1.out _) HX2.out A6.out).mono ?_); rintro e w8 ⟨rfl, hb⟩; refine ⟨_, rfl, ?_⟩; replace HI := Aside0.mk (bld_bel HI.out hb); replace HB := bh HB hb; clear hb)
    | (go_at_call 41; (with_reducible refine (proof_Words_2.calls Ax cx x t _ (by first | exact HX1.out | exact Kd.C_drew HX1.out | exact Kd.C_drewN HX1.out _) HX2.out A6.out).mono ?_); rintro e w8 ⟨rfl, hb⟩; replace HI := Aside0.mk (bld_bel HI.out hb); replace HB := bh HB hb; clear hb)
    | (go_at_call 70; refine (Try.Builder_WriteString w.heap.size g3 _ t _ HI.out (by rw [Lib.strCells_length]; exact HZ7.out) (below_size HB.out)).mono ?_; rintro e w9 ⟨rfl, hat, hb⟩; rw [strCells_app] at hat; replace HI := Aside0.mk (show Lib.IsBuilder _ _ _ _ _ _ from .inr hat); replace HB := Aside0.mk (HB.out.trans hb); clear hat hb))
   go_roundg gko
   case measure => exact Nat.lt_succ_self _
   case rel => exact ⟨s ++ t, i + 1, by first | rfl | (simp; done) | (simp [*]; done), HK2, HA2, HI, HB⟩
/-- The first column that is too long; below 0: there is none. -/
def longAt : List (List Int) → Int → Int
  | [], _ => -1
  | t :: L, i => if t.length > 4096 then i else longAt L (i + 1)
theorem longAt_nonneg : ∀ (L : List (List Int)) (i : Int), 0 ≤ i → (decide (0 ≤ longAt L i) = (L.any fun t => decide (t.length > 4096)))
  | [], i, h => rfl
  | t :: L, i, h => by
    unfold longAt
    rw [List.any_cons]
    by_cases c : t.length > 4096
    · rw [if_pos c, decide_eq_true c, Bool.true_or, decide_eq_true h]
    · rw [if_neg c, decide_eq_false c, Bool.false_or]
      exact longAt_nonneg L (i + 1) (by omega)
set_option maxHeartbeats 8000000 in
set_option maxRecDepth 100000 in
theorem wix_calls (A0 : Option Addr) (c0 : Nat) (l0 : List (List Int)) (r : Int) (w : World) (hr0 : Kd.C (Kd.slice 59 (Kd.int .u64)) w A0 l0.length l0) (hc0 : l0.length ≤ c0) (hL : l0.length < 1000000000) (h : longAt l0 0 = r) :
  Calls Try.prog 89 #[.slice A0 l0.length c0, .func (.func 39) #[] #[]] w fun e w' => e = .returned (.int .i64 r) ∧ Below w.heap.size w w' := by
 have HR0 := Aside0.mk hr0
 have HC0 := Aside0.mk hc0
 have HL := Aside0.mk hL
 have H0 := Aside0.mk h
 have HB := Aside0.mk (Below.refl w.heap.size w)
 clear hr0 hc0 hL h
 go_enter Try.func89, Try.ntmps89
 go_wp2
 go_loopg [8] l0.length (fun kq v8 w' => ∃ i : Nat, v8 = .int .i64 (i : Int) ∧ Aside0 (i + kq = l0.length) ∧ Aside0 (longAt (l0.drop i) (i : Int) = r) ∧ Aside0 (Below w.heap.size w w'))
 case atStart => exact ⟨0, rfl, ⟨Nat.zero_add _⟩, H0, HB⟩
 case round =>
  clear HB H0
  obtain ⟨i, rfl, HK, HA, HB⟩ := hrel
  cases gk with
  | zero =>
   have e0 := HK.out
   have d1 : decide ((i : Int) < (l0.length : Int)) = false := decide_eq_false (by omega)
   have d2 : decide (i < l0.length) = false := decide_eq_false (by omega)
   have hA := HA.out
   rw [List.drop_of_length_le (by omega)] at hA
   have er : r = -1 := hA.symm
   clear hA e0
   go_wp2
   go_ret
   exact ⟨by rw [er]; rfl, HB.out⟩
  | succ gko =>
   have e0 := HK.out
   have hi : i < l0.length := by omega
   have d1 : decide ((i : Int) < (l0.length : Int)) = true := decide_eq_true (by omega)
   have d2 : decide (i < l0.length) = true := decide_eq_true hi
   have p1 : 0 ≤ (i : Int) := by omega
   have q1 : (i : Int) < (l0.length : Int) := by omega
   obtain ⟨ad1, Ax, cx, e1, hx1, hl1, hi1⟩ := at_L4 (Kd.C_below HR0.out HB.out) (i : Int) p1 q1
   cases e1
   obtain ⟨x, hx⟩ : ∃ x, x = l0[i] := ⟨_, rfl⟩
   have et : rd_L4 l0 (i : Int) = x := by rw [hx]; unfold rd_L4; rw [Int.toNat_natCast, List.getD_eq_getElem?_getD, List.getElem?_eq_getElem hi, Option.getD_some]
   rw [et] at hx1 hl1 hi1
   simp only [Int.toNat_natCast] at hx1
   have HX1 := Aside0.mk hi1
   have HX2 := Aside0.mk hl1
   have hA := HA.out
   rw [List.drop_eq_getElem_cons hi, ← hx] at hA
   have HD : Aside0 (longAt (x :: l0.drop (i + 1)) (i : Int) = r) := ⟨hA⟩
   have e9 : wrap64 ((i : Int) + 1) = ((i + 1 : Nat) : Int) := by have := HL.out; unfold wrap64; omega
   clear hA hx HA et hi1 hl1
   replace p1 := eq_true p1
   replace q1 := eq_true q1
   have HK2 := Aside0.mk (show (i + 1) + gko = l0.length by omega)
   clear hi e0
   by_cases cz : x.length > 4096
   · have HZ : Aside0 (proof_Words_1.f x = some true) := ⟨by unfold proof_Words_1.f; simp; omega⟩
     have er : r = (i : Int) := by have := HD.out; unfold longAt at this; rw [if_pos cz] at this; exact this.symm
     clear cz HD
     go_wp2_with (first
      | ((with_reducible refine gate_callee (f := 39) rfl ?_); refine goesL_ (some 16) rfl rfl Try.func39 (by kernel_rfl) rfl #[.slice Ax x.length cx] rfl (by (try simp only [List.map_toArray, List.map_cons, List.map_nil]); first | done | rfl) ?_; (with_reducible refine (proof_Words_1.calls Ax cx x true _ (by first | exact HX1.out | exact Kd.C_drew HX1.out | exact Kd.C_drewN HX1.out _) HX2.out HZ.out).mono ?_); rintro e w11 ⟨rfl, ⟨nd, rfl⟩⟩; refine ⟨_, rfl, ?_⟩)
      | (go_at_call 39; (with_reducible refine (proof_Words_1.calls Ax cx x true _ (by first | exact HX1.out | exact Kd.C_drew HX1.out | exact Kd.C_drewN HX1.out _) HX2.out HZ.out).mono ?_); rintro e w11 ⟨rfl, ⟨nd, rfl⟩⟩))
     go_ret
     exact ⟨by rw [er]; rfl, by first | exact HB.out | exact bq HB.out⟩
   · have HZ : Aside0 (proof_Words_1.f x = some false) := ⟨by unfold proof_Words_1.f; simp; omega⟩
     have HA2 : Aside0 (longAt (l0.drop (i + 1)) ((i + 1 : Nat) : Int) = r) := ⟨by have := HD.out; unfold longAt at this; rw [if_neg cz] at this; exact this⟩
     clear cz HD
     go_wp2_with (first
      | ((with_reducible refine gate_callee (f := 39) rfl ?_); refine goesL_ (some 16) rfl rfl Try.func39 (by kernel_rfl) rfl #[.slice Ax x.length cx] rfl (by (try simp only [List.map_toArray, List.map_cons, List.map_nil]); first | done | rfl) ?_; (with_reducible refine (proof_Words_1.calls Ax cx x false _ (by first | exact HX1.out | exact Kd.C_drew HX1.out | exact Kd.C_drewN HX1.out _) HX2.out HZ.out).mono ?_); rintro e w11 ⟨rfl, ⟨nd, rfl⟩⟩; refine ⟨_, rfl, ?_⟩)
      | (go_at_call 39; (with_reducible refine (proof_Words_1.calls Ax cx x false _ (by first | exact HX1.out | exact Kd.C_drew HX1.out | exact Kd.C_drewN HX1.out _) HX2.out HZ.out).mono ?_); rintro e w11 ⟨rfl, ⟨nd, rfl⟩⟩))
     go_roundg gko
     case measure => exact Nat.lt_succ_self _
     case rel => exact ⟨i + 1, by first | rfl | (simp; done) | (simp [*]; done), HK2, HA2, by first | exact HB | exact ⟨bq HB.out⟩⟩
set_option maxHeartbeats 8000000 in
set_option maxRecDepth 100000 in
theorem wct_calls (A0 : Option Addr) (c0 : Nat) (l0 : List (List Int)) (b : Bool) (w : World) (hr0 : Kd.C (Kd.slice 59 (Kd.int .u64)) w A0 l0.length l0) (hc0 : l0.length ≤ c0) (hL : l0.length < 1000000000) (hb : decide (0 ≤ longAt l0 0) = b) :
  Calls Try.prog 38 #[.slice A0 l0.length c0, .func (.func 39) #[] #[]] w fun e w' => e = .returned (.bool b) ∧ Below w.heap.size w w' := by
 have HR0 := Aside0.mk hr0
 have HC0 := Aside0.mk hc0
 have HL := Aside0.mk hL
 obtain ⟨r, hr⟩ : ∃ r, r = longAt l0 0 := ⟨_, rfl⟩
 rw [← hr] at hb
 have H0 := Aside0.mk hr.symm
 have HB := Aside0.mk (Below.refl w.heap.size w)
 clear hr0 hc0 hL hr
 go_enter Try.func38, Try.ntmps38
 go_wp2_with (first
  | ((with_reducible refine gate_callee (f := 89) rfl ?_); refine goesL_ (some 7) rfl rfl Try.func89 (by kernel_rfl) rfl #[.slice A0 l0.length c0, .func (.func 39) #[] #[]] rfl (by (try simp only [List.map_toArray, List.map_cons, List.map_nil]); first | done | rfl) ?_; (with_reducible refine (wix_calls A0 c0 l0 r _ (Kd.C_below HR0.out HB.out) HC0.out HL.out H0.out).mono ?_); rintro e w11 ⟨rfl, hbb⟩; refine ⟨_, rfl, ?_⟩; replace HB := bh HB hbb; clear hbb)
  | (go_at_call 89; (with_reducible refine (wix_calls A0 c0 l0 r _ (Kd.C_below HR0.out HB.out) HC0.out HL.out H0.out).mono ?_); rintro e w11 ⟨rfl, hbb⟩; replace HB := bh HB hbb; clear hbb))
 go_ret
 exact ⟨by first | rfl | (simp; done) | (simp [*]; done), HB.out⟩
def proof_Words.f (l : List (List Int)) : Option (ByteArray × Int) := if l.length > 4096 ∨ (l.any fun t => decide (t.length > 4096)) = true then (if l.length < 1000000000 then some (⟨#[]⟩, 2) else none) else (proof_each_col.f l).bind fun t => some (t, 0)
set_option maxHeartbeats 8000000 in
set_option maxRecDepth 100000 in
theorem proof_Words.calls (A0 : Option Addr) (c0 : Nat) (l0 : List (List Int)) (r1 : ByteArray) (r2 : Int) (w : World) (hr0 : Kd.C (Kd.slice 59 (Kd.int .u64)) w A0 l0.length l0) (hc0 : l0.length ≤ c0) (h : proof_Words.f l0 = some (r1, r2)) :
  Calls Try.prog 15 #[.slice A0 l0.length c0] w fun e w' => e = .returned (.tuple #[.string r1, .int .i64 r2]) ∧ Below w.heap.size w w' := by
 have HR0 := Aside0.mk hr0
 have HC0 := Aside0.mk hc0
 have HB := Aside0.mk (Below.refl w.heap.size w)
 clear hr0 hc0
 unfold proof_Words.f at h
 by_cases c1 : l0.length > 4096
 · rw [if_pos (Or.inl c1)] at h
   by_cases c9 : l0.length < 1000000000
   rotate_left
   · rw [if_neg c9] at h
     cases h
   rw [if_pos c9] at h
   obtain ⟨rfl, rfl⟩ : (⟨#[]⟩ : ByteArray) = r1 ∧ (2 : Int) = r2 := by simpa using h
   have d1 : decide ((l0.length : Int) > 4096) = true := decide_eq_true (by omega)
   have d2 : decide (4096 < l0.length) = true := decide_eq_true (by omega)
   have d3 : (4096 < l0.length) = True := eq_true c1
   clear h c1 c9
   go_enter Try.func15, Try.ntmps15
   go_wp2
   go_ret2
   exact ⟨by first | rfl | (simp; done) | (simp [*]; done), HB.out⟩
 · have d1 : decide ((l0.length : Int) > 4096) = false := decide_eq_false (by omega)
   have d2 : decide (4096 < l0.length) = false := decide_eq_false (by omega)
   have d3 : (4096 < l0.length) = False := eq_false (by omega)
   have HL := Aside0.mk (show l0.length < 1000000000 by omega)
   have hn := longAt_nonneg l0 0 (by decide)
   cases hb : (l0.any fun t => decide (t.length > 4096)) with
   | true =>
     rw [if_pos (Or.inr hb), if_pos HL.out] at h
     obtain ⟨rfl, rfl⟩ : (⟨#[]⟩ : ByteArray) = r1 ∧ (2 : Int) = r2 := by simpa using h
     rw [hb] at hn
     have HQ := Aside0.mk hn
     clear h c1 hn hb
     go_enter Try.func15, Try.ntmps15
     go_wp2_with (first
      | ((with_reducible refine gate_callee (f := 38) rfl ?_); refine goesL_ (some 9) rfl rfl Try.func38 (by kernel_rfl) rfl #[.slice A0 l0.length c0, .func (.func 39) #[] #[]] rfl (by (try simp only [List.map_toArray, List.map_cons, List.map_nil]); first | done | rfl) ?_; (with_reducible refine (wct_calls A0 c0 l0 true _ (Kd.C_below HR0.out HB.out) HC0.out HL.out HQ.out).mono ?_); rintro e w11 ⟨rfl, hbb⟩; refine ⟨_, rfl, ?_⟩; replace HB := bh HB hbb; clear hbb)
      | (go_at_call 38; (with_reducible refine (wct_calls A0 c0 l0 true _ (Kd.C_below HR0.out HB.out) HC0.out HL.out HQ.out).mono ?_); rintro e w11 ⟨rfl, hbb⟩; replace HB := bh HB hbb; clear hbb))
     go_ret2
     exact ⟨by first | rfl | (simp; done) | (simp [*]; done), HB.out⟩
   | false =>
     rw [if_neg (by rw [hb]; simp; omega)] at h
     obtain ⟨t, h1, h2⟩ := Option.bind_eq_some_iff.mp h
     obtain ⟨rfl, rfl⟩ : t = r1 ∧ (0 : Int) = r2 := by simpa using h2
     rw [hb] at hn
     have HQ := Aside0.mk hn
     have HE := Aside0.mk h1
     clear h h1 h2 c1 hn hb
     go_enter Try.func15, Try.ntmps15
     go_wp2_with (first
      | ((with_reducible refine gate_callee (f := 38) rfl ?_); refine goesL_ (some 9) rfl rfl Try.func38 (by kernel_rfl) rfl #[.slice A0 l0.length c0, .func (.func 39) #[] #[]] rfl (by (try simp only [List.map_toArray, List.map_cons, List.map_nil]); first | done | rfl) ?_; (with_reducible refine (wct_calls A0 c0 l0 false _ (Kd.C_below HR0.out HB.out) HC0.out HL.out HQ.out).mono ?_); rintro e w11 ⟨rfl, hbb⟩; refine ⟨_, rfl, ?_⟩; replace HB := bh HB hbb; clear hbb)
      | (go_at_call 38; (with_reducible refine (wct_calls A0 c0 l0 false _ (Kd.C_below HR0.out HB.out) HC0.out HL.out HQ.out).mono ?_); rintro e w11 ⟨rfl, hbb⟩; replace HB := bh HB hbb; clear hbb)
      | ((with_reducible refine gate_callee (f := 40) rfl ?_); refine goesL_ (some 12) rfl rfl Try.func40 (by kernel_rfl) rfl #[.slice A0 l0.length c0, .func (.func 41) #[] #[]] rfl (by (try simp only [List.map_toArray, List.map_cons, List.map_nil]); first | done | rfl) ?_; (with_reducible refine (proof_each_col.calls A0 c0 l0 t _ (Kd.C_below HR0.out HB.out) HC0.out HE.out).mono ?_); rintro e w11 ⟨rfl, hbb⟩; refine ⟨_, rfl, ?_⟩; replace HB := bh HB hbb; clear hbb)
      | (go_at_call 40; (with_reducible refine (proof_each_col.calls A0 c0 l0 t _ (Kd.C_below HR0.out HB.out) HC0.out HE.out).mono ?_); rintro e w11 ⟨rfl, hbb⟩; replace HB := bh HB hbb; clear hbb))
     go_ret2
     exact ⟨by first | rfl | (simp; done) | (simp [*]; done), HB.out⟩
end Go.Proofs.Ythgiifakcgjlaaa.P
