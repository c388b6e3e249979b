/- The bytes of an element of a level (octet.Elem). Conditions: none. -/
import Derived.Test.YthgiifakcgjlaaaHByt
import Derived.Test.YthgiifakcgjlaaaPx8
import Derived.Test.YthgiifakcgjlaaaPx9
set_option linter.unusedVariables false
set_option linter.unusedSimpArgs false
namespace Go.Proofs.Ythgiifakcgjlaaa.P
open Go.RowKit Go.Proofs.YthgiifakcgjlaaaX Go.Proofs.YthgiifakcgjlaaaW.PrintWords Go.Proofs.YthgiifakcgjlaaaW.PrintLast Go.Proofs.YthgiifakcgjlaaaW.PrintMore
def eList (hi lo : Int) (n : Nat) : List Int := (List.range n).map (eByte hi lo)
theorem eList_reads {w : World} {g : Nat} {t : TypeId} {hi lo : Int} (h : w.heap[g]? = some (.cells (eArr hi lo 8) t (0, 0))) {n : Nat} (hn : n ≤ 16) : ReadsInt w .u8 (some ⟨g, 0, none⟩) n (eList hi lo n) := by
  refine ⟨by rw [eList, List.length_map, List.length_range], by omega, fun _ => ⟨_, rfl, fun j hj => ?_⟩⟩
  have hadd : (⟨g, 0, none⟩ : Addr).add j = ⟨g, j, none⟩ := by unfold Addr.add; split <;> simp_all
  rw [hadd, blk_cell h, eArr_at hi lo 8 (by omega), if_pos (by omega), eList, List.getD_eq_getElem?_getD, List.getElem?_map, List.getElem?_range hj]
  rfl
theorem arr_slice (g : Nat) {n : Nat} (hn : n ≤ 16) (W : World) : (Instr.sliceAt 172 (.pointer (some ⟨g, 0, none⟩)) none (some (.int .i64 (n : Int))) none).run Try.prog W = .ok (.slice (some ⟨g, 0, none⟩) n 16) W := by
  have ha : Try.prog.arrayLen 172 = 16 := by kernel_rfl
  have he : Try.prog.elem 172 = 5 := by kernel_rfl
  rw [run_sliceAt_array_h W 172 ⟨g, 0, none⟩ (by rw [ha, he]; exact Try.underlying172) .i64 (n : Int) (by omega) (by rw [ha]; omega), he, Try.sizeOf5, ha, Int.toNat_natCast]
  rfl
def octet_Elem.f (k : Nat) (a0 a1_0 a1_1 : Int) : Option ByteArray := (octet_Of.f k a0 a1_0 a1_1).bind fun t => if t = true then ((octet_Wide.f k a0).bind fun n => (if 0 ≤ n then (if n ≤ 16 then some (strOfNums (eList a1_0 a1_1 n.toNat)) else none) else none)) else some (⟨#[]⟩ : ByteArray)
set_option maxHeartbeats 8000000 in
set_option maxRecDepth 100000 in
theorem octet_Elem.calls (k : Nat) (a0 a1_0 a1_1 : Int) (r : ByteArray) (w : World) (h : octet_Elem.f k a0 a1_0 a1_1 = some r) :
  Calls Try.prog 105 #[.int .i64 a0, .agg #[.int .u64 a1_0, .int .u64 a1_1]] w fun e w' => e = .returned (.string r) ∧ Below w.heap.size w w' := by
 have hu33 := Try.underlying61
 have HB := Aside0.mk (Below.refl w.heap.size w)
 unfold octet_Elem.f at h
 obtain ⟨t0, h0, h⟩ := Option.bind_eq_some_iff.mp h
 have A2 := Aside0.mk h0
 clear h0
 cases t0 with
 | false =>
  rw [if_neg (by decide)] at h
  obtain rfl := Option.some.inj h
  clear h
  go_enter Try.func105, Try.ntmps105
  go_wp2_with (first
   | ((with_reducible refine gate_dst (N := 3) rfl ?_); refine box_event ?hg (N := 3) ?hd (cs := #[.int .u64 a1_0, .int .u64 a1_1]) (t := 61) ?hr ?_; (case hd => rfl); (case hg => rfl); (case hr => first | (go_simp; done) | (go_simp; rfl)); intro g3 hg3 w3 hbox hb; have B3 := Aside0.mk hbox; replace HB := bh HB hb; clear hb hbox hg3; obtain ⟨hc30, hc31⟩ := zc2 B3)
   | (go_at_call 91; refine (octet_Of.calls k a0 a1_0 a1_1 _ _ A2.out).mono ?_; rintro e w4 ⟨rfl, hb⟩; clear hc30 hc31; replace HB := bh HB hb; clear hb))
  go_ret
  exact ⟨rfl, HB.out⟩
 | true =>
  rw [if_pos rfl] at h
  obtain ⟨n0, h1, h⟩ := Option.bind_eq_some_iff.mp h
  by_cases z0 : 0 ≤ n0
  rotate_left
  · rw [if_neg z0] at h
    cases h
  rw [if_pos z0] at h
  by_cases z1 : n0 ≤ 16
  rotate_left
  · rw [if_neg z1] at h
    cases h
  rw [if_pos z1] at h
  obtain rfl := Option.some.inj h
  clear h
  obtain ⟨n, rfl⟩ := Int.eq_ofNat_of_zero_le z0
  have A3 := Aside0.mk h1
  have hn : n ≤ 16 := by omega
  have HN := Aside0.mk hn
  clear h1 z0 z1 hn
  have hi74 : (Try.prog.info? 172).map (·.size) = some (eArr a1_0 a1_1 8).size := by rw [eArr_size]; exact eArr_info
  have hone := eArr_one a1_0 a1_1 8
  go_enter Try.func105, Try.ntmps105
  go_wp2_with (first
   | ((with_reducible refine gate_dst (N := 3) rfl ?_); refine box_event ?hg (N := 3) ?hd (cs := #[.int .u64 a1_0, .int .u64 a1_1]) (t := 61) ?hr ?_; (case hd => rfl); (case hg => rfl); (case hr => first | (go_simp; done) | (go_simp; rfl)); intro g3 hg3 w3 hbox hb; have B3 := Aside0.mk hbox; replace HB := bh HB hb; clear hb hbox hg3; obtain ⟨hc30, hc31⟩ := zc2 B3)
   | (go_at_call 91; refine (octet_Of.calls k a0 a1_0 a1_1 _ _ A2.out).mono ?_; rintro e w4 ⟨rfl, hb⟩; clear hc30 hc31; replace B3 := bb B3 hb; replace HB := bh HB hb; clear hb; obtain ⟨hc30, hc31⟩ := zc2 B3)
   | (go_at_call 113; refine (octet_bytes.calls a1_0 a1_1 _).mono ?_; rintro e w5 ⟨rfl, hb⟩; clear hc30 hc31; replace HB := bh HB hb; clear hb)
   | ((with_reducible refine gate_dst (N := 5) rfl ?_); refine box_event ?hg (N := 5) ?hd (cs := eArr a1_0 a1_1 0) (t := 172) ?hr ?_; (case hd => rfl); (case hg => rfl); (case hr => first | (go_simp; done) | (go_simp; rfl)); intro g5 hg5 w6 hbox hb; have B5 := Aside0.mk hbox; have G5 := ge hg5 HB; replace HB := bh HB hb; clear hb hbox hg5)
   | ((with_reducible refine gate_store (t := 172) (p := 5) rfl ?_); refine wpList_store_row rfl 172 (.tmp 5) (.tmp 11) rfl g5 (eArr a1_0 a1_1 8) (by rfl) (by rfl) 172 _ B5.out hi74 (by rw [eArr_size, eArr_size]) hone ?_)
   | (go_at_call 90; refine (octet_Wide.calls k a0 n _ A3.out).mono ?_; rintro e w7 ⟨rfl, ⟨nd, rfl⟩⟩; have hsl := arr_slice g5 HN.out ((w6.setRow g5 (eArr a1_0 a1_1 8)).drewN nd); have hcv := string_of_reads (c := 16) Try.underlying84 Try.underlying5 Try.underlying9 (ReadsInt.drewN (eList_reads (setRow_heap w6 g5 _ (eArr a1_0 a1_1 8) 172 (0, 0) B5.out) HN.out) nd)))
  go_ret
  refine ⟨?_, pw_below_drewN (below_setRow HB.out G5.out _) nd⟩
  rfl
end Go.Proofs.Ythgiifakcgjlaaa.P
