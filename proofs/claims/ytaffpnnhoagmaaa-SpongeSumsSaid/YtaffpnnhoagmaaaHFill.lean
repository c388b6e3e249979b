/- A text filled up, and the first chain value (sponge.Fill, sponge.first) (layer 10). Conditions: those that each theorem names. Printed by gen_st.py. -/
import Derived.Test.YtaffpnnhoagmaaaPmSp
import Derived.Test.YtaffpnnhoagmaaaHBld
import Derived.Test.YtaffpnnhoagmaaaPx2
set_option linter.unusedVariables false
set_option linter.unusedSimpArgs false
set_option maxRecDepth 100000
namespace Go.Proofs.Ytaffpnnhoagmaaa.P
open Go.RowKit Go.Proofs.YtaffpnnhoagmaaaX Go.Proofs.YtaffpnnhoagmaaaW.PrintWords Go.Proofs.YtaffpnnhoagmaaaW.PrintLast Go.Proofs.YtaffpnnhoagmaaaW.PrintMore
open Go.Proofs.Ytaffpnnhoagmaaa.Br
theorem byteCells_app (l m : List UInt8) : Lib.byteCells l ++ Lib.byteCells m = Lib.byteCells (l ++ m) := by
  unfold Lib.byteCells
  rw [List.map_append]
theorem byteCells_str (s : ByteArray) : Lib.strCells s = Lib.byteCells s.data.toList := rfl
theorem byteCells_len (l : List UInt8) : (Lib.byteCells l).length = l.length := by
  unfold Lib.byteCells
  rw [List.length_map]
theorem byteCells_one {c : Int} {n : Nat} (h : c = (n : Int)) (hn : n < 256) : [Value.int .u8 c] = Lib.byteCells [UInt8.ofNat n] := by
  subst h
  unfold Lib.byteCells
  show [Value.int .u8 (n : Int)] = [Value.int .u8 ((UInt8.ofNat n).toNat : Int)]
  rw [UInt8.toNat_ofNat', Nat.mod_eq_of_lt hn]
theorem repeatL_zero : ∀ c : Nat, Lib.repeatL [0] c = List.replicate c 0
  | 0 => rfl
  | c + 1 => by
    show [0] ++ Lib.repeatL [0] c = _
    rw [repeatL_zero c]
    rfl
theorem rep_zeros (c : Nat) (w : World) (hc : c ≤ 140737488355328) : Calls Try.prog 39 #[.string ⟨#[0]⟩, .int .i64 (c : Int)] w fun e w' => e = .returned (.string ⟨(List.replicate c 0).toArray⟩) ∧ Below w.heap.size w w' := by
  have h := Try.strings_Repeat ⟨#[0]⟩ c w (by omega) (by show 1 * c ≤ _; omega)
  rw [show Lib.repeatL (⟨#[0]⟩ : ByteArray).data.toList c = List.replicate c 0 from repeatL_zero c] at h
  exact h
theorem blocks_f (n : Nat) (h : n ≤ 1099511627776) : sponge_blocks.f (n : Int) = some (nB n : Int) := by
  unfold sponge_blocks.f nB
  have e1 : wrap64 ((n : Int) + 9) = (n : Int) + 9 := by unfold wrap64; omega
  have e2 : wrap64 ((n : Int) + 9 + 64) = (n : Int) + 9 + 64 := by unfold wrap64; omega
  have e3 : wrap64 ((n : Int) + 9 + 64 - 1) = (n : Int) + 72 := by unfold wrap64; omega
  rw [e1, e2, e3, Int.tdiv_eq_ediv_of_nonneg (by omega)]
  congr 1
  unfold wrap64
  omega
/-- Bits of a number of blocks, from the top. -/
theorem shr_byte (n k : Nat) : ((n : Int) / 2 ^ (8 * (k : Int)).toNat) % 256 = ((n / 2 ^ (8 * k) % 256 : Nat) : Int) := by
  rw [show (8 * (k : Int)).toNat = 8 * k by omega]
  rw [Int.natCast_emod, Int.natCast_ediv, Int.natCast_pow]
  rfl
set_option maxHeartbeats 8000000 in
set_option maxRecDepth 100000 in
theorem fill_calls (s : ByteArray) (hs : s.size ≤ 1099511627776) (w : World) :
  Calls Try.prog 15 #[.string s] w fun e w' => e = .returned (.string (fillS s)) ∧ Below w.heap.size w w' := by
 have HB := Aside0.mk (Below.refl w.heap.size w)
 have SZ := Aside0.mk hs
 obtain ⟨n, en⟩ : ∃ n, n = nB s.size := ⟨_, rfl⟩
 have EN := Aside0.mk en
 have NB := Aside0.mk (show sponge_blocks.f (s.size : Int) = some (n : Int) from en ▸ blocks_f _ hs)
 obtain ⟨c, ec⟩ : ∃ c, c = 64 * n - s.size - 9 := ⟨_, rfl⟩
 have EC := Aside0.mk ec
 have h1 : s.size + 9 ≤ 64 * n := en ▸ nB_le _
 have h2 : 64 * n ≤ s.size + 72 := en ▸ nB_lt _
 have CM := Aside0.mk (show c ≤ 140737488355328 by omega)
 have ZL := Aside0.mk (show (s.data.toList ++ [UInt8.ofNat 128]).length + (⟨(List.replicate c 0).toArray⟩ : ByteArray).size ≤ 140737488355328 by rw [List.length_append, Array.length_toList]; show s.size + 1 + (List.replicate c (0 : UInt8)).toArray.size ≤ _; rw [List.size_toArray, List.length_replicate]; omega)
 have f1 : wrap64 ((n : Int) * 64) = (n : Int) * 64 := by unfold wrap64; omega
 have f2 : wrap64 ((n : Int) * 64 - (s.size : Int)) = (n : Int) * 64 - (s.size : Int) := by unfold wrap64; omega
 have f3 : wrap64 ((n : Int) * 64 - (s.size : Int) - 9) = (c : Int) := by unfold wrap64; omega
 have f4 : (n : Int) * 64 - (s.size : Int) - 9 = (c : Int) := by omega
 have f5 : wrap64 (c : Int) = (c : Int) := by unfold wrap64; omega
 have N9 := Aside0.mk (show n ≤ 1099511627776 by omega)
 have L1 := Aside0.mk (show s.size + 1 + c = 64 * n - 8 by omega)
 clear hs en ec h1 h2
 go_enter Try.func15, Try.ntmps15
 go_wp2_with (first
  | ((with_reducible refine gate_callee (f := 36) rfl ?_); refine goesL_ (some 8) rfl rfl Try.func36 (by kernel_rfl) rfl #[.int .i64 (s.size : Int)] rfl (by (try simp only [List.map_toArray, List.map_cons, List.map_nil]); first | done | rfl) ?_; (with_reducible refine (sponge_blocks.calls (s.size : Int) (n : Int) _ NB.out).mono ?_); rintro e w11 ⟨rfl, hd⟩; refine ⟨_, rfl, ?_⟩; have hb := hd.below; clear hd; replace HB := bh HB hb; (try clear hb))
  | (go_at_call 36; (with_reducible refine (sponge_blocks.calls (s.size : Int) (n : Int) _ NB.out).mono ?_); rintro e w11 ⟨rfl, hd⟩; have hb := hd.below; clear hd; replace HB := bh HB hb; (try clear hb))
  | ((with_reducible refine gate_dst (N := 4) rfl ?_); refine box_event ?hg (N := 4) ?hd (cs := #[.pointer none, .slice none 0 0]) (t := 65) ?hr ?_; (case hd => rfl); (case hg => rfl); (case hr => first | (go_simp; done) | (go_simp; rfl)); intro g3 hg3 w3 hbox hb; have G3 := ge hg3 HB; have HI : Aside0 (Lib.IsBuilder 65 5 w.heap.size g3 (Lib.byteCells []) w3) := Aside0.mk (bld_new (e := 5) G3.out hbox); replace HB := bh HB hb; clear hb hbox hg3)
  | ((with_reducible refine gate_callee (f := 39) rfl ?_); refine goesL_ (some 18) rfl rfl Try.func39 (by kernel_rfl) rfl #[.string ⟨#[0]⟩, .int .i64 (c : Int)] rfl (by (try simp only [List.map_toArray, List.map_cons, List.map_nil]); first | done | rfl) ?_; (with_reducible refine (rep_zeros c _ CM.out).mono ?_); rintro e w11 ⟨rfl, hb⟩; refine ⟨_, rfl, ?_⟩; replace HI := Aside0.mk (bld_bel HI.out hb); replace HB := bh HB hb; (try clear hb))
  | (go_at_call 39; (with_reducible refine (rep_zeros c _ CM.out).mono ?_); rintro e w11 ⟨rfl, hb⟩; replace HI := Aside0.mk (bld_bel HI.out hb); replace HB := bh HB hb; (try clear hb))
  | ((with_reducible refine gate_callee (f := 37) rfl ?_); refine goesL_ (some 10) rfl rfl Try.func37 (by kernel_rfl) rfl #[.pointer (some ⟨g3, 0, none⟩), .string s] rfl (by (try simp only [List.map_toArray, List.map_cons, List.map_nil]); first | done | rfl) ?_; refine (Try.Builder_WriteString w.heap.size g3 _ s _ HI.out (by rw [byteCells_len]; have := SZ.out; show 0 + s.size ≤ _; omega) (below_size HB.out)).mono ?_; rintro e w5 ⟨rfl, hat, hb⟩; refine ⟨_, rfl, ?_⟩; rw [byteCells_str, byteCells_app, List.nil_append] at hat; replace HI := Aside0.mk (show Lib.IsBuilder _ _ _ _ _ _ from .inr hat); replace HB := Aside0.mk (HB.out.trans hb); clear hat hb)
  | (go_at_call 37; refine (Try.Builder_WriteString w.heap.size g3 _ s _ HI.out (by rw [byteCells_len]; have := SZ.out; show 0 + s.size ≤ _; omega) (below_size HB.out)).mono ?_; rintro e w5 ⟨rfl, hat, hb⟩; rw [byteCells_str, byteCells_app, List.nil_append] at hat; replace HI := Aside0.mk (show Lib.IsBuilder _ _ _ _ _ _ from .inr hat); replace HB := Aside0.mk (HB.out.trans hb); clear hat hb)
  | ((with_reducible refine gate_callee (f := 38) rfl ?_); refine goesL_ (some 11) rfl rfl Try.func38 (by kernel_rfl) rfl #[.pointer (some ⟨g3, 0, none⟩), .int .u8 128] rfl (by (try simp only [List.map_toArray, List.map_cons, List.map_nil]); first | done | rfl) ?_; refine (Try.Builder_WriteByte w.heap.size g3 _ 128 _ HI.out (by rw [byteCells_len, Array.length_toList]; have := SZ.out; show s.size + 1 ≤ _; omega) (below_size HB.out)).mono ?_; rintro e w5 ⟨rfl, hat, hb⟩; refine ⟨_, rfl, ?_⟩; rw [byteCells_one (c := 128) (n := 128) rfl (by decide), byteCells_app] at hat; replace HI := Aside0.mk (show Lib.IsBuilder _ _ _ _ _ _ from .inr hat); replace HB := Aside0.mk (HB.out.trans hb); clear hat hb)
  | (go_at_call 38; refine (Try.Builder_WriteByte w.heap.size g3 _ 128 _ HI.out (by rw [byteCells_len, Array.length_toList]; have := SZ.out; show s.size + 1 ≤ _; omega) (below_size HB.out)).mono ?_; rintro e w5 ⟨rfl, hat, hb⟩; rw [byteCells_one (c := 128) (n := 128) rfl (by decide), byteCells_app] at hat; replace HI := Aside0.mk (show Lib.IsBuilder _ _ _ _ _ _ from .inr hat); replace HB := Aside0.mk (HB.out.trans hb); clear hat hb)
  | ((with_reducible refine gate_callee (f := 37) rfl ?_); refine goesL_ (some 19) rfl rfl Try.func37 (by kernel_rfl) rfl #[.pointer (some ⟨g3, 0, none⟩), .string ⟨(List.replicate c 0).toArray⟩] rfl (by (try simp only [List.map_toArray, List.map_cons, List.map_nil]); first | done | rfl) ?_; refine (Try.Builder_WriteString w.heap.size g3 _ _ _ HI.out (by rw [byteCells_len]; exact ZL.out) (below_size HB.out)).mono ?_; rintro e w5 ⟨rfl, hat, hb⟩; refine ⟨_, rfl, ?_⟩; rw [byteCells_str, byteCells_app] at hat; replace HI := Aside0.mk (show Lib.IsBuilder _ _ _ _ _ _ from .inr hat); replace HB := Aside0.mk (HB.out.trans hb); clear hat hb)
  | (go_at_call 37; refine (Try.Builder_WriteString w.heap.size g3 _ _ _ HI.out (by rw [byteCells_len]; exact ZL.out) (below_size HB.out)).mono ?_; rintro e w5 ⟨rfl, hat, hb⟩; rw [byteCells_str, byteCells_app] at hat; replace HI := Aside0.mk (show Lib.IsBuilder _ _ _ _ _ _ from .inr hat); replace HB := Aside0.mk (HB.out.trans hb); clear hat hb))
 clear f1 f2 f3 f4 f5
 go_loopg [5] 8 (fun kq v5 w' => v5 = .int .i64 ((kq : Int) - 1) ∧ Aside0 (kq ≤ 8) ∧ Aside0 (Lib.IsBuilder 65 5 w.heap.size g3 (Lib.byteCells (s.data.toList ++ [UInt8.ofNat 128] ++ List.replicate c 0 ++ tailB n (8 - kq))) w') ∧ Aside0 (Below w.heap.size w w'))
 case atStart =>
  refine ⟨rfl, ⟨Nat.le_refl _⟩, ⟨?_⟩, HB⟩
  have t := HI.out
  show Lib.IsBuilder _ _ _ _ (Lib.byteCells (s.data.toList ++ [UInt8.ofNat 128] ++ List.replicate c 0 ++ [])) _
  rw [List.append_nil]
  exact t
 case round =>
  clear HI HB
  obtain ⟨rfl, HK, HI, HB⟩ := hrel
  cases gk with
  | zero =>
   go_wp2_with (first
    | ((with_reducible refine gate_callee (f := 40) rfl ?_); refine goesL_ (some 30) rfl rfl Try.func40 (by kernel_rfl) rfl #[.pointer (some ⟨g3, 0, none⟩)] rfl (by (try simp only [List.map_toArray, List.map_cons, List.map_nil]); first | done | rfl) ?_; (with_reducible refine (Try.Builder_String_any w.heap.size g3 _ _ HI.out (below_size HB.out)).mono ?_); rintro e w11 ⟨rfl, hb⟩; refine ⟨_, rfl, ?_⟩; replace HB := Aside0.mk (HB.out.trans hb); clear hb)
    | (go_at_call 40; (with_reducible refine (Try.Builder_String_any w.heap.size g3 _ _ HI.out (below_size HB.out)).mono ?_); rintro e w11 ⟨rfl, hb⟩; replace HB := Aside0.mk (HB.out.trans hb); clear hb))
   go_ret
   refine ⟨?_, HB.out⟩
   unfold fillS fillL headL
   rw [← EN.out, ← EC.out, show s.data.toList ++ [128] ++ List.replicate c 0 ++ tailB n 8 = s.data.toList ++ 128 :: (List.replicate c 0 ++ tailB n 8) by simp]
   rfl
  | succ k2 =>
   have hk : k2 < 8 := by have := HK.out; omega
   have HK8 := Aside0.mk hk
   have e0 : (((k2 + 1 : Nat) : Int) - 1) = (k2 : Int) := by omega
   rw [e0]
   have z1 : (0 ≤ 8 * (k2 : Int)) = True := eq_true (by omega)
   have z2 : (8 * (k2 : Int) ≤ 64) = True := eq_true (by omega)
   have z3 : (0 ≤ (k2 : Int)) = True := eq_true (by omega)
   have q0 : wrap64 (8 * (k2 : Int)) = 8 * (k2 : Int) := by unfold wrap64; omega
   have q1 := shr_byte n k2
   clear hk e0
   go_wp2_with (first
    | ((with_reducible refine gate_callee (f := 38) rfl ?_); refine goesL_ (some 29) rfl rfl Try.func38 (by kernel_rfl) rfl #[.pointer (some ⟨g3, 0, none⟩), .int .u8 ((n / 2 ^ (8 * k2) % 256 : Nat) : Int)] rfl (by (try simp only [List.map_toArray, List.map_cons, List.map_nil]); first | done | rfl) ?_; refine (Try.Builder_WriteByte w.heap.size g3 _ _ _ HI.out (by rw [byteCells_len, List.length_append, List.length_append, List.length_append, Array.length_toList, List.length_replicate, tailB_len]; have := L1.out; have := N9.out; show s.size + 1 + c + _ + 1 ≤ _; omega) (below_size HB.out)).mono ?_; rintro e w5 ⟨rfl, hat, hb⟩; refine ⟨_, rfl, ?_⟩; rw [byteCells_one (n := n / 2 ^ (8 * k2) % 256) rfl (Nat.mod_lt _ (by decide)), byteCells_app] at hat; replace HI := Aside0.mk (show Lib.IsBuilder _ _ _ _ _ _ from .inr hat); replace HB := Aside0.mk (HB.out.trans hb); clear hat hb)
    | (go_at_call 38; refine (Try.Builder_WriteByte w.heap.size g3 _ _ _ HI.out (by rw [byteCells_len, List.length_append, List.length_append, List.length_append, Array.length_toList, List.length_replicate, tailB_len]; have := L1.out; have := N9.out; show s.size + 1 + c + _ + 1 ≤ _; omega) (below_size HB.out)).mono ?_; rintro e w5 ⟨rfl, hat, hb⟩; rw [byteCells_one (n := n / 2 ^ (8 * k2) % 256) rfl (Nat.mod_lt _ (by decide)), byteCells_app] at hat; replace HI := Aside0.mk (show Lib.IsBuilder _ _ _ _ _ _ from .inr hat); replace HB := Aside0.mk (HB.out.trans hb); clear hat hb))
   go_roundg k2
   case measure => omega
   case rel =>
    have hk := HK8.out
    refine ⟨by rw [show wrap64 ((k2 : Int) - 1) = (k2 : Int) - 1 by unfold wrap64; omega], ⟨by omega⟩, ⟨?_⟩, HB⟩
    have t := HI.out
    rw [List.append_assoc _ (tailB n (8 - (k2 + 1))), show n / 2 ^ (8 * k2) % 256 = n / 2 ^ (8 * (7 - (8 - (k2 + 1)))) % 256 by rw [show 7 - (8 - (k2 + 1)) = k2 by omega], tailB_succ, show 8 - (k2 + 1) + 1 = 8 - k2 by omega] at t
    exact t
end Go.Proofs.Ytaffpnnhoagmaaa.P
