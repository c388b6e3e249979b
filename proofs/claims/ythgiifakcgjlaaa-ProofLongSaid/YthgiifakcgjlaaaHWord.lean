/- The bytes of a word, the lowest first (proof.word). Conditions: none. -/
import Derived.Test.YthgiifakcgjlaaaPx0
import Derived.Laws.CopyOwn
set_option linter.unusedVariables false
set_option linter.unusedSimpArgs false
namespace Go.Proofs.Ythgiifakcgjlaaa.P
open Go.RowKit Go.Proofs.YthgiifakcgjlaaaX Go.Proofs.YthgiifakcgjlaaaW.PrintWords Go.Proofs.YthgiifakcgjlaaaW.PrintLast Go.Proofs.YthgiifakcgjlaaaW.PrintMore
/-- Byte j. -/
def wByte (a : Int) (j : Nat) : Int := IntKind.u8.wrap (a / 2 ^ (8 * (j : Int)).toNat)
/-- The array behind m rounds. -/
def wArr (a : Int) (m : Nat) : Array Value := ((List.range 8).map fun j => Value.int .u8 (if j < m then wByte a j else 0)).toArray
def wList (a : Int) : List Int := (List.range 8).map (wByte a)
theorem wArr_at (a : Int) (m : Nat) {j : Nat} (h : j < 8) : (wArr a m)[j]? = some (.int .u8 (if j < m then wByte a j else 0)) := by
  unfold wArr
  rw [List.getElem?_toArray, List.getElem?_map, List.getElem?_range h]
  rfl
theorem wArr_size (a : Int) (m : Nat) : (wArr a m).size = 8 := by
  unfold wArr
  rw [List.size_toArray, List.length_map, List.length_range]
theorem wArr_succ (a : Int) {m : Nat} (h : m < 8) : (wArr a m).setIfInBounds m (.int .u8 (wByte a m)) = wArr a (m + 1) := by
  apply Array.ext_getElem?
  intro j
  by_cases hj : j < 8
  · rw [wArr_at a (m + 1) hj, Array.getElem?_setIfInBounds, wArr_size, wArr_at a m hj]
    by_cases h2 : m = j
    · subst h2
      rw [if_pos rfl, if_pos (by omega), if_pos (by omega)]
    · rw [if_neg h2]
      by_cases h3 : j < m
      · rw [if_pos h3, if_pos (by omega)]
      · rw [if_neg h3, if_neg (by omega)]
  · rw [Array.getElem?_eq_none (by rw [Array.size_setIfInBounds, wArr_size]; omega), Array.getElem?_eq_none (by rw [wArr_size]; omega)]
theorem wList_reads {w : World} {g : Nat} {t : TypeId} {a : Int} (h : w.heap[g]? = some (.cells (wArr a 8) t (0, 0))) : ReadsInt w .u8 (some ⟨g, 0, none⟩) 8 (wList a) := by
  refine ⟨by rw [wList, List.length_map, List.length_range], by omega, fun _ => ⟨_, rfl, fun j hj => ?_⟩⟩
  have hadd : (⟨g, 0, none⟩ : Addr).add j = ⟨g, j, none⟩ := by unfold Addr.add; split <;> simp_all
  rw [hadd, blk_cell h, wArr_at a 8 (by omega), if_pos (by omega), wList, List.getD_eq_getElem?_getD, List.getElem?_map, List.getElem?_range hj]
  rfl
theorem word_slice (g : Nat) (W : World) : (Instr.sliceAt 151 (.pointer (some ⟨g, 0, none⟩)) none none none).run Try.prog W = .ok (.slice (some ⟨g, 0, none⟩) 8 8) W := by
  have ha : Try.prog.arrayLen 151 = 8 := by kernel_rfl
  have he : Try.prog.elem 151 = 5 := by kernel_rfl
  rw [run_sliceAt_array_all W 151 ⟨g, 0, none⟩ (by rw [ha, he]; exact Try.underlying151), ha, he, Try.sizeOf5]
  rfl
def proof_word.f (a0 : Int) : Option ByteArray := some (strOfNums (wList a0))
set_option maxHeartbeats 8000000 in
set_option maxRecDepth 100000 in
theorem proof_word.calls (a0 : Int) (r : ByteArray) (w : World) (h : proof_word.f a0 = some r) :
  Calls Try.prog 43 #[.int .u64 a0] w fun e w' => e = .returned (.string r) ∧ Below w.heap.size w w' := by
 have HB := Aside0.mk (Below.refl w.heap.size w)
 obtain rfl := Option.some.inj h
 clear h
 go_enter Try.func43, Try.ntmps43
 go_wp2_with (first
  | ((with_reducible refine gate_dst (N := 3) rfl ?_); refine box_event ?hg (N := 3) ?hd (cs := wArr a0 0) (t := 151) ?hr ?_; (case hd => rfl); (case hg => rfl); (case hr => first | (go_simp; done) | (go_simp; rfl)); intro g3 hg3 w3 hbox hb; have B3 := Aside0.mk hbox; have G3 := ge hg3 HB; replace HB := bh HB hb; clear hb hbox hg3))
 go_loopg [4, 5] 8 (fun kq v4 v5 w' => ∃ m : Nat, v5 = .int .i64 (m : Int) ∧ Aside0 (m + kq = 8) ∧ Aside0 (w'.heap[g3]? = some (.cells (wArr a0 m) 151 (0, 0))) ∧ Aside0 (Below w.heap.size w w'))
 case atStart => exact ⟨0, rfl, ⟨rfl⟩, B3, HB⟩
 case round =>
  clear B3 HB
  obtain ⟨m, rfl, HM, B3, HB⟩ := hrel
  cases gk with
  | zero =>
   obtain rfl : m = 8 := by have := HM.out; omega
   clear HM
   have hsl := word_slice g3 wr
   have hcv := string_of_reads (c := 8) Try.underlying84 Try.underlying5 Try.underlying9 (wList_reads B3.out)
   go_wp2
   go_ret
   exact ⟨rfl, HB.out⟩
  | succ k2 =>
   have hm : m < 8 := by have := HM.out; omega
   have HM8 := Aside0.mk hm
   have d0 : decide ((m : Int) < 8) = true := decide_eq_true (by omega)
   have hd1 : decide (m < 8) = true := decide_eq_true hm
   have e8 : IntKind.i64.wrap (8 * (m : Int)) = ((8 * m : Nat) : Int) := by rw [i64_w]; unfold wrap64; omega
   have f8 : wrap64 (8 * (m : Int)) = ((8 * m : Nat) : Int) := by unfold wrap64; omega
   have z1 : (0 ≤ 8 * (m : Int)) = True := eq_true (by omega)
   have z2 : (8 * (m : Int) ≤ 64) = True := eq_true (by omega)
   have b1 : ((m : Int) < 8) = True := eq_true (by omega)
   have hc := (blk_cell B3.out m).trans (wArr_at a0 m hm)
   have hf := blk_frozen B3.out m
   clear hm
   go_wp2
   go_roundg k2
   case measure => omega
   case rel =>
    have hm : m < 8 := HM8.out
    refine ⟨m + 1, by rw [show wrap64 ((m : Int) + 1) = ((m + 1 : Nat) : Int) by unfold wrap64; omega], ⟨by have := HM.out; omega⟩, ⟨blk_put B3.out m _ ?_⟩, ⟨below_set HB.out G3.out⟩⟩
    rw [← wArr_succ a0 hm]
    rfl
end Go.Proofs.Ythgiifakcgjlaaa.P
