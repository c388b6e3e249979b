/- Digests at their borders, of parts, and bytes drawn (sponge.Sum, Parts, Stream) (layer 10). Conditions: those that each theorem names. Printed by gen_st.py. -/
import Derived.Test.YtaffpnnhoagmaaaHSum
import Derived.Test.YtaffpnnhoagmaaaHList
import Derived.Test.YtaffpnnhoagmaaaPx8
set_option linter.unusedVariables false
set_option linter.unusedSimpArgs false
set_option maxRecDepth 100000
namespace Go.Proofs.Ytaffpnnhoagmaaa.P
open Go.RowKit Go.Proofs.Ytaffpnnhoagmaaa.Br Go.Proofs.YtaffpnnhoagmaaaX Go.Proofs.YtaffpnnhoagmaaaW.PrintWords Go.Proofs.YtaffpnnhoagmaaaW.PrintLast Go.Proofs.YtaffpnnhoagmaaaW.PrintMore
set_option maxHeartbeats 8000000 in
set_option maxRecDepth 100000 in
theorem sum_far {w : World} {g : Nat} (s : ByteArray) (hs : 1048576 < s.size) :
  Calls Try.prog 19 #[.pointer (some ⟨g, 0, none⟩), .string s] w fun e w' => e = .returned (.string ⟨#[]⟩) ∧ Below w.heap.size w w' := by
 have HB := Aside0.mk (Below.refl w.heap.size w)
 have z1 : decide (1048576 < (s.size : Int)) = true := decide_eq_true (by omega)
 have z2 : decide (1048576 < s.size) = true := decide_eq_true hs
 clear hs
 go_enter Try.func19, Try.ntmps19
 go_wp2_with (first
  | ((with_reducible refine gate_dst (N := 2) rfl ?_); refine box_event ?hg (N := 2) ?hd (cs := #[.pointer (some ⟨g, 0, none⟩)]) (t := 23) ?hr ?_; (case hd => rfl); (case hg => rfl); (case hr => first | (go_simp; done) | (go_simp; rfl)); intro g2 hg2 w2 hbox hb; have B2 := Aside0.mk hbox; replace HB := bh HB hb; clear hb hbox hg2; have c2 := zc1 B2))
 go_ret
 exact ⟨rfl, HB.out⟩
set_option maxHeartbeats 8000000 in
set_option maxRecDepth 100000 in
theorem sum_nil {w : World} (s : ByteArray) :
  Calls Try.prog 19 #[.pointer none, .string s] w fun e w' => e = .returned (.string ⟨#[]⟩) ∧ Below w.heap.size w w' := by
 have HB := Aside0.mk (Below.refl w.heap.size w)
 go_enter Try.func19, Try.ntmps19
 go_wp2_with (first
  | ((with_reducible refine gate_dst (N := 2) rfl ?_); refine box_event ?hg (N := 2) ?hd (cs := #[.pointer none]) (t := 23) ?hr ?_; (case hd => rfl); (case hg => rfl); (case hr => first | (go_simp; done) | (go_simp; rfl)); intro g2 hg2 w2 hbox hb; have B2 := Aside0.mk hbox; replace HB := bh HB hb; clear hb hbox hg2; have c2 := zc1 B2))
 go_ret
 exact ⟨rfl, HB.out⟩
set_option maxHeartbeats 8000000 in
set_option maxRecDepth 100000 in
theorem parts_calls {w : World} (k : Nat) (A0 : Option Addr) (c0 : Nat) (l0 : List ByteArray) (r : ByteArray) (hr0 : Kd.C Kd.string w A0 l0.length l0) (hc0 : l0.length ≤ c0) (h : octet_List.f k l0 = some r) {g : Nat} (hT : TabAt w g) (hz : r.size ≤ 1048576) :
  Calls Try.prog 21 #[.pointer (some ⟨g, 0, none⟩), .slice A0 l0.length c0] w fun e w' => e = .returned (.string (sumS r)) ∧ Below w.heap.size w w' := by
 have HB := Aside0.mk (Below.refl w.heap.size w)
 have R0 := Aside0.mk hr0
 have C0 := Aside0.mk hc0
 have HL := Aside0.mk h
 clear hr0 hc0 h
 have HT := Aside0.mk hT
 have HZ := Aside0.mk hz
 clear hT hz
 go_enter Try.func21, Try.ntmps21
 go_wp2_with (first
  | ((with_reducible refine gate_callee (f := 44) rfl ?_); refine goesL_ (some 7) rfl rfl Try.func44 (by kernel_rfl) rfl #[.slice A0 l0.length c0] rfl (by (try simp only [List.map_toArray, List.map_cons, List.map_nil]); first | done | rfl) ?_; (with_reducible refine (octet_List.calls k A0 c0 l0 r _ R0.out C0.out HL.out).mono ?_); rintro e w11 ⟨rfl, hb⟩; refine ⟨_, rfl, ?_⟩; replace HT := Aside0.mk (HT.out.below hb); replace HB := bh HB hb; (try clear hb))
  | (go_at_call 44; (with_reducible refine (octet_List.calls k A0 c0 l0 r _ R0.out C0.out HL.out).mono ?_); rintro e w11 ⟨rfl, hb⟩; replace HT := Aside0.mk (HT.out.below hb); replace HB := bh HB hb; (try clear hb))
  | ((with_reducible refine gate_callee (f := 19) rfl ?_); refine goesL_ (some 8) rfl rfl Try.func19 (by kernel_rfl) rfl #[.pointer (some ⟨g, 0, none⟩), .string r] rfl (by (try simp only [List.map_toArray, List.map_cons, List.map_nil]); first | done | rfl) ?_; (with_reducible refine (sum_calls HT.out r HZ.out).mono ?_); rintro e w11 ⟨rfl, hb⟩; refine ⟨_, rfl, ?_⟩; replace HT := Aside0.mk (HT.out.below hb); replace HB := bh HB hb; (try clear hb))
  | (go_at_call 19; (with_reducible refine (sum_calls HT.out r HZ.out).mono ?_); rintro e w11 ⟨rfl, hb⟩; replace HT := Aside0.mk (HT.out.below hb); replace HB := bh HB hb; (try clear hb)))
 go_ret
 exact ⟨rfl, HB.out⟩
set_option maxHeartbeats 8000000 in
set_option maxRecDepth 100000 in
theorem parts_nil {w : World} (k : Nat) (A0 : Option Addr) (c0 : Nat) (l0 : List ByteArray) (r : ByteArray) (hr0 : Kd.C Kd.string w A0 l0.length l0) (hc0 : l0.length ≤ c0) (h : octet_List.f k l0 = some r)  :
  Calls Try.prog 21 #[.pointer none, .slice A0 l0.length c0] w fun e w' => e = .returned (.string (⟨#[]⟩)) ∧ Below w.heap.size w w' := by
 have HB := Aside0.mk (Below.refl w.heap.size w)
 have R0 := Aside0.mk hr0
 have C0 := Aside0.mk hc0
 have HL := Aside0.mk h
 clear hr0 hc0 h
 go_enter Try.func21, Try.ntmps21
 go_wp2_with (first
  | ((with_reducible refine gate_callee (f := 44) rfl ?_); refine goesL_ (some 7) rfl rfl Try.func44 (by kernel_rfl) rfl #[.slice A0 l0.length c0] rfl (by (try simp only [List.map_toArray, List.map_cons, List.map_nil]); first | done | rfl) ?_; (with_reducible refine (octet_List.calls k A0 c0 l0 r _ R0.out C0.out HL.out).mono ?_); rintro e w11 ⟨rfl, hb⟩; refine ⟨_, rfl, ?_⟩; replace HB := bh HB hb; (try clear hb))
  | (go_at_call 44; (with_reducible refine (octet_List.calls k A0 c0 l0 r _ R0.out C0.out HL.out).mono ?_); rintro e w11 ⟨rfl, hb⟩; replace HB := bh HB hb; (try clear hb))
  | ((with_reducible refine gate_callee (f := 19) rfl ?_); refine goesL_ (some 8) rfl rfl Try.func19 (by kernel_rfl) rfl #[.pointer none, .string r] rfl (by (try simp only [List.map_toArray, List.map_cons, List.map_nil]); first | done | rfl) ?_; (with_reducible refine (sum_nil r).mono ?_); rintro e w11 ⟨rfl, hb⟩; refine ⟨_, rfl, ?_⟩; replace HB := bh HB hb; (try clear hb))
  | (go_at_call 19; (with_reducible refine (sum_nil r).mono ?_); rintro e w11 ⟨rfl, hb⟩; replace HB := bh HB hb; (try clear hb)))
 go_ret
 exact ⟨rfl, HB.out⟩
theorem num_f (i : Nat) (h : i < 1000000) : octet_Num.f (i : Int) = some (numS i) := by
  unfold octet_Num.f octet_join.f numS
  rw [if_neg (by omega), if_neg (by omega)]
  rfl
theorem str_any (B b : Nat) (s : ByteArray) (w : World) (h : Lib.IsBuilder 65 5 B b (Lib.strCells s) w) (hBw : B ≤ w.heap.size) : Calls Try.prog 40 #[.pointer (some ⟨b, 0, none⟩)] w fun e w' => e = .returned (.string s) ∧ Below B w w' := Try.Builder_String_any B b s.data.toList w h hBw
theorem strCells_size (s : ByteArray) : (Lib.strCells s).length = s.size := Lib.strCells_length s
set_option maxHeartbeats 8000000 in
set_option maxRecDepth 100000 in
theorem stream_nil {w : World} (seed : ByteArray) (n : Int) :
  Calls Try.prog 23 #[.pointer none, .string seed, .int .i64 n] w fun e w' => e = .returned (.string ⟨#[]⟩) ∧ Below w.heap.size w w' := by
 have HB := Aside0.mk (Below.refl w.heap.size w)
 go_enter Try.func23, Try.ntmps23
 go_wp2
 go_ret
 exact ⟨rfl, HB.out⟩
set_option maxHeartbeats 8000000 in
set_option maxRecDepth 100000 in
theorem stream_neg {w : World} {g : Nat} (seed : ByteArray) (n : Int) (hn : n < 0) :
  Calls Try.prog 23 #[.pointer (some ⟨g, 0, none⟩), .string seed, .int .i64 n] w fun e w' => e = .returned (.string ⟨#[]⟩) ∧ Below w.heap.size w w' := by
 have HB := Aside0.mk (Below.refl w.heap.size w)
 have z1 : decide (n < 0) = true := decide_eq_true hn
 clear hn
 go_enter Try.func23, Try.ntmps23
 go_wp2
 go_ret
 exact ⟨rfl, HB.out⟩
set_option maxHeartbeats 8000000 in
set_option maxRecDepth 100000 in
theorem stream_far {w : World} {g : Nat} (seed : ByteArray) (n : Int) (hn : 1048576 < n) :
  Calls Try.prog 23 #[.pointer (some ⟨g, 0, none⟩), .string seed, .int .i64 n] w fun e w' => e = .returned (.string ⟨#[]⟩) ∧ Below w.heap.size w w' := by
 have HB := Aside0.mk (Below.refl w.heap.size w)
 have z1 : decide (n < 0) = false := decide_eq_false (by omega)
 have z2 : decide (1048576 < n) = true := decide_eq_true hn
 clear hn
 go_enter Try.func23, Try.ntmps23
 go_wp2
 go_ret
 exact ⟨rfl, HB.out⟩
set_option maxHeartbeats 8000000 in
set_option maxRecDepth 100000 in
theorem stream_long {w : World} {g : Nat} (seed : ByteArray) (n : Int) (h0 : 0 ≤ n) (hn : n ≤ 1048576) (hs : 1048572 < seed.size) :
  Calls Try.prog 23 #[.pointer (some ⟨g, 0, none⟩), .string seed, .int .i64 n] w fun e w' => e = .returned (.string ⟨#[]⟩) ∧ Below w.heap.size w w' := by
 have HB := Aside0.mk (Below.refl w.heap.size w)
 have z1 : decide (n < 0) = false := decide_eq_false (by omega)
 have z2 : decide (1048576 < n) = false := decide_eq_false (by omega)
 have z3 : decide (1048572 < (seed.size : Int)) = true := decide_eq_true (by omega)
 have z4 : decide (1048572 < seed.size) = true := decide_eq_true hs
 clear hn h0 hs
 go_enter Try.func23, Try.ntmps23
 go_wp2
 go_ret
 exact ⟨rfl, HB.out⟩
set_option maxHeartbeats 8000000 in
set_option maxRecDepth 100000 in
theorem stream_calls {w : World} {g : Nat} (hT : TabAt w g) (seed : ByteArray) (n : Nat) (hn : n ≤ 1048576) (hs : seed.size ≤ 1048572) :
  Calls Try.prog 23 #[.pointer (some ⟨g, 0, none⟩), .string seed, .int .i64 (n : Int)] w fun e w' => e = .returned (.string ((streamB seed ((n + 31) / 32)).extract 0 n)) ∧ Below w.heap.size w w' := by
 have HB := Aside0.mk (Below.refl w.heap.size w)
 have HT0 := Aside0.mk hT
 have SZ := Aside0.mk hs
 have HN := Aside0.mk hn
 have z0 : decide ((n : Int) < 0) = false := decide_eq_false (by omega)
 have z1 : decide (1048576 < (n : Int)) = false := decide_eq_false (by omega)
 have z2 : decide (1048576 < n) = false := decide_eq_false (by omega)
 have z3 : decide (1048572 < (seed.size : Int)) = false := decide_eq_false (by omega)
 have z4 : decide (1048572 < seed.size) = false := decide_eq_false (by omega)
 obtain ⟨m, em⟩ : ∃ m, m = (n + 31) / 32 := ⟨_, rfl⟩
 have EM := Aside0.mk em
 rw [← em]
 clear hT hs hn em
 go_enter Try.func23, Try.ntmps23
 go_wp2_with (first
  | ((with_reducible refine gate_dst (N := 7) rfl ?_); refine box_event ?hg (N := 7) ?hd (cs := #[.pointer none, .slice none 0 0]) (t := 65) ?hr ?_; (case hd => rfl); (case hg => rfl); (case hr => first | (go_simp; done) | (go_simp; rfl)); intro g3 hg3 w3 hbox hb; have G3 := ge hg3 HB; have HI : Aside0 (Lib.IsBuilder 65 5 w.heap.size g3 (Lib.strCells (streamB seed 0)) w3) := Aside0.mk (bld_new (e := 5) G3.out hbox); replace HB := bh HB hb; clear hb hbox hg3))
 go_loopg [8] m (fun kq v8 w' => ∃ i : Nat, v8 = .int .i64 (i : Int) ∧ Aside0 (i + kq = m) ∧ Aside0 (Lib.IsBuilder 65 5 w.heap.size g3 (Lib.strCells (streamB seed i)) w') ∧ Aside0 (Below w.heap.size w w'))
 case atStart => exact ⟨0, rfl, ⟨Nat.zero_add _⟩, HI, HB⟩
 case round =>
  clear HI HB
  obtain ⟨i, rfl, HK, HI, HB⟩ := hrel
  have hl : (Lib.strCells (streamB seed i)).length = 32 * i := by rw [strCells_size, streamB_size]
  cases gk with
  | zero =>
   obtain rfl : i = m := by have := HK.out; omega
   have z6 : decide (((Lib.strCells (streamB seed i)).length : Int) < (n : Int)) = false := by rw [hl]; exact decide_eq_false (by have := EM.out; omega)
   have z7 : decide ((Lib.strCells (streamB seed i)).length < n) = false := by rw [hl]; exact decide_eq_false (by have := EM.out; omega)
   have z8 : (0 ≤ (n : Int)) = True := eq_true (by omega)
   have z9 : (n : Int) ≤ ((streamB seed i).size : Int) := by rw [streamB_size]; have := EM.out; omega
   have z10 : n ≤ (streamB seed i).size := by rw [streamB_size]; have := EM.out; omega
   clear hl
   go_wp2_with (first
    | ((with_reducible refine gate_callee (f := 47) rfl ?_); refine goesL_ (some 24) rfl rfl Try.func47 (by kernel_rfl) rfl #[.pointer (some ⟨g3, 0, none⟩)] rfl (by (try simp only [List.map_toArray, List.map_cons, List.map_nil]); first | done | rfl) ?_; (with_reducible refine (Try.Builder_Len w.heap.size g3 _ _ HI.out).mono ?_); rintro e w5 ⟨rfl, rfl⟩; refine ⟨_, rfl, ?_⟩; skip)
    | (go_at_call 47; (with_reducible refine (Try.Builder_Len w.heap.size g3 _ _ HI.out).mono ?_); rintro e w5 ⟨rfl, rfl⟩; skip)
    | ((with_reducible refine gate_callee (f := 40) rfl ?_); refine goesL_ (some 36) rfl rfl Try.func40 (by kernel_rfl) rfl #[.pointer (some ⟨g3, 0, none⟩)] rfl (by (try simp only [List.map_toArray, List.map_cons, List.map_nil]); first | done | rfl) ?_; (with_reducible refine (str_any w.heap.size g3 _ _ HI.out (below_size HB.out)).mono ?_); rintro e w11 ⟨rfl, hb⟩; refine ⟨_, rfl, ?_⟩; replace HB := Aside0.mk (HB.out.trans hb); clear hb)
    | (go_at_call 40; (with_reducible refine (str_any w.heap.size g3 _ _ HI.out (below_size HB.out)).mono ?_); rintro e w11 ⟨rfl, hb⟩; replace HB := Aside0.mk (HB.out.trans hb); clear hb))
   go_ret
   exact ⟨by first | rfl | (simp; done), HB.out⟩
  | succ k2 =>
   have hi : i < m := by have := HK.out; omega
   have HI8 := Aside0.mk hi
   have z6 : decide (((Lib.strCells (streamB seed i)).length : Int) < (n : Int)) = true := by rw [hl]; exact decide_eq_true (by have := EM.out; omega)
   have z7 : decide ((Lib.strCells (streamB seed i)).length < n) = true := by rw [hl]; exact decide_eq_true (by have := EM.out; omega)
   have HL := Aside0.mk hl
   have NS := Aside0.mk (num_f i (by have := EM.out; have := HN.out; omega))
   have zs : (seed ++ numS i).size = seed.size + 4 := by rw [ByteArray.size_append, numS_size]
   have ZS := Aside0.mk zs
   have zn : (numS i).size = 4 := numS_size i
   have zt : seed.size + 4 ≤ 9223372036854775807 := by have := SZ.out; omega
   clear hi hl zs
   go_wp2_with (first
    | ((with_reducible refine gate_callee (f := 47) rfl ?_); refine goesL_ (some 24) rfl rfl Try.func47 (by kernel_rfl) rfl #[.pointer (some ⟨g3, 0, none⟩)] rfl (by (try simp only [List.map_toArray, List.map_cons, List.map_nil]); first | done | rfl) ?_; (with_reducible refine (Try.Builder_Len w.heap.size g3 _ _ HI.out).mono ?_); rintro e w5 ⟨rfl, rfl⟩; refine ⟨_, rfl, ?_⟩; skip)
    | (go_at_call 47; (with_reducible refine (Try.Builder_Len w.heap.size g3 _ _ HI.out).mono ?_); rintro e w5 ⟨rfl, rfl⟩; skip)
    | ((with_reducible refine gate_callee (f := 25) rfl ?_); refine goesL_ (some 32) rfl rfl Try.func25 (by kernel_rfl) rfl #[.int .i64 (i : Int)] rfl (by (try simp only [List.map_toArray, List.map_cons, List.map_nil]); first | done | rfl) ?_; (with_reducible refine (octet_Num.calls (i : Int) (numS i) _ NS.out).mono ?_); rintro e w11 ⟨rfl, hb⟩; refine ⟨_, rfl, ?_⟩; replace HI := Aside0.mk (bld_bel HI.out hb); replace HB := bh HB hb; (try clear hb))
    | (go_at_call 25; (with_reducible refine (octet_Num.calls (i : Int) (numS i) _ NS.out).mono ?_); rintro e w11 ⟨rfl, hb⟩; replace HI := Aside0.mk (bld_bel HI.out hb); replace HB := bh HB hb; (try clear hb))
    | ((with_reducible refine gate_callee (f := 19) rfl ?_); refine goesL_ (some 34) rfl rfl Try.func19 (by kernel_rfl) rfl #[.pointer (some ⟨g, 0, none⟩), .string (seed ++ numS i)] rfl (by (try simp only [List.map_toArray, List.map_cons, List.map_nil]); first | done | rfl) ?_; refine (sum_calls (HT0.out.below HB.out) (seed ++ numS i) (by rw [ZS.out]; have := SZ.out; omega)).mono ?_; rintro e w11 ⟨rfl, hb⟩; refine ⟨_, rfl, ?_⟩; replace HI := Aside0.mk (bld_bel HI.out hb); replace HB := bh HB hb; (try clear hb))
    | (go_at_call 19; refine (sum_calls (HT0.out.below HB.out) (seed ++ numS i) (by rw [ZS.out]; have := SZ.out; omega)).mono ?_; rintro e w11 ⟨rfl, hb⟩; replace HI := Aside0.mk (bld_bel HI.out hb); replace HB := bh HB hb; (try clear hb))
    | ((with_reducible refine gate_callee (f := 37) rfl ?_); refine goesL_ (some 35) rfl rfl Try.func37 (by kernel_rfl) rfl #[.pointer (some ⟨g3, 0, none⟩), .string (sumS (seed ++ numS i))] rfl (by (try simp only [List.map_toArray, List.map_cons, List.map_nil]); first | done | rfl) ?_; refine (Try.Builder_WriteString w.heap.size g3 _ (sumS (seed ++ numS i)) _ HI.out (by rw [HL.out, sumS_size]; have := EM.out; have := HN.out; have := HI8.out; omega) (below_size HB.out)).mono ?_; rintro e w5 ⟨rfl, hat, hb⟩; refine ⟨_, rfl, ?_⟩; rw [strCells_app] at hat; have HI2 := Aside0.mk (show Lib.IsBuilder 65 5 w.heap.size g3 (Lib.strCells (streamB seed (i + 1))) _ from .inr hat); replace HB := Aside0.mk (HB.out.trans hb); clear hat hb HI)
    | (go_at_call 37; refine (Try.Builder_WriteString w.heap.size g3 _ (sumS (seed ++ numS i)) _ HI.out (by rw [HL.out, sumS_size]; have := EM.out; have := HN.out; have := HI8.out; omega) (below_size HB.out)).mono ?_; rintro e w5 ⟨rfl, hat, hb⟩; rw [strCells_app] at hat; have HI2 := Aside0.mk (show Lib.IsBuilder 65 5 w.heap.size g3 (Lib.strCells (streamB seed (i + 1))) _ from .inr hat); replace HB := Aside0.mk (HB.out.trans hb); clear hat hb HI))
   go_roundg k2
   case measure => omega
   case rel => exact ⟨i + 1, by rw [show wrap64 ((i : Int) + 1) = ((i + 1 : Nat) : Int) by have := EM.out; have := HN.out; have := HI8.out; unfold wrap64; omega], ⟨by have := HK.out; omega⟩, HI2, HB⟩
end Go.Proofs.Ytaffpnnhoagmaaa.P
