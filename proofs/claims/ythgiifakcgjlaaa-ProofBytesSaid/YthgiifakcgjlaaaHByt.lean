/- The bytes of an element, the lowest first (octet.bytes). Conditions: none. -/
import Derived.Test.YthgiifakcgjlaaaPx0
import Derived.Laws.CopyOwn
set_option linter.unusedVariables false
set_option linter.unusedSimpArgs false
namespace Go.Proofs.Ythgiifakcgjlaaa.P
open Go.RowKit Go.Proofs.YthgiifakcgjlaaaX Go.Proofs.YthgiifakcgjlaaaW.PrintWords Go.Proofs.YthgiifakcgjlaaaW.PrintLast Go.Proofs.YthgiifakcgjlaaaW.PrintMore
/-- Byte j. -/
def eByte (hi lo : Int) (j : Nat) : Int := IntKind.u8.wrap ((if j < 8 then lo else hi) / 2 ^ (8 * ((j % 8 : Nat) : Int)).toNat)
/-- The array behind m rounds. -/
def eArr (hi lo : Int) (m : Nat) : Array Value := ((List.range 16).map fun j => Value.int .u8 (if j % 8 < m then eByte hi lo j else 0)).toArray
theorem eByte_lo (hi lo : Int) {m : Nat} (h : m < 8) : eByte hi lo m = IntKind.u8.wrap (lo / 2 ^ (8 * (m : Int)).toNat) := by
  unfold eByte
  rw [if_pos h, Nat.mod_eq_of_lt h]
theorem eByte_hi (hi lo : Int) {m : Nat} (h : m < 8) : eByte hi lo (8 + m) = IntKind.u8.wrap (hi / 2 ^ (8 * (m : Int)).toNat) := by
  unfold eByte
  rw [if_neg (by omega), show (8 + m) % 8 = m by omega]
theorem eArr_at (hi lo : Int) (m : Nat) {j : Nat} (h : j < 16) : (eArr hi lo m)[j]? = some (.int .u8 (if j % 8 < m then eByte hi lo j else 0)) := by
  unfold eArr
  rw [List.getElem?_toArray, List.getElem?_map, List.getElem?_range h]
  rfl
theorem eArr_size (hi lo : Int) (m : Nat) : (eArr hi lo m).size = 16 := by
  unfold eArr
  rw [List.size_toArray, List.length_map, List.length_range]
theorem eByte_hi2 (hi lo : Int) {m : Nat} (h : m < 8) : eByte hi lo (8 + m) = hi / 2 ^ (8 * m) % 256 := by
  rw [eByte_hi hi lo h, show (8 * (m : Int)).toNat = 8 * m by omega]
  unfold IntKind.wrap
  simp [IntKind.bits, IntKind.signed]
theorem eArr_one (hi lo : Int) (m : Nat) : (eArr hi lo m).all (·.oneCell') = true := by
  rw [Array.all_eq_true']
  intro v hv
  unfold eArr at hv
  rw [List.mem_toArray, List.mem_map] at hv
  obtain ⟨j, _, rfl⟩ := hv
  rfl
theorem eArr_info : (Try.prog.info? 172).map (·.size) = some 16 := by kernel_rfl
theorem eArr_succ (hi lo : Int) {m : Nat} (h : m < 8) : ((eArr hi lo m).setIfInBounds m (.int .u8 (eByte hi lo m))).setIfInBounds (8 + m) (.int .u8 (eByte hi lo (8 + m))) = eArr hi lo (m + 1) := by
  apply Array.ext_getElem?
  intro j
  by_cases hj : j < 16
  · rw [eArr_at hi lo (m + 1) hj, Array.getElem?_setIfInBounds, Array.size_setIfInBounds, eArr_size, Array.getElem?_setIfInBounds, eArr_size, eArr_at hi lo m hj]
    by_cases h1 : 8 + m = j
    · subst h1
      rw [if_pos rfl, if_pos (by omega), if_pos (by omega)]
    · rw [if_neg h1]
      by_cases h2 : m = j
      · subst h2
        rw [if_pos rfl, if_pos (by omega), if_pos (by omega)]
      · rw [if_neg h2]
        by_cases h3 : j % 8 < m
        · rw [if_pos h3, if_pos (by omega)]
        · rw [if_neg h3, if_neg (by omega)]
  · rw [Array.getElem?_eq_none (by rw [Array.size_setIfInBounds, Array.size_setIfInBounds, eArr_size]; omega), Array.getElem?_eq_none (by rw [eArr_size]; omega)]
def octT : Bool × List (List Nat × List Nat) := (true, [([], []), ([], []), ([1], [1]), ([], []), ([3], [3]), ([], []), ([5], [5]), ([4, 6], [4, 6]), ([7], [7]), ([], []), ([9], [9]), ([], []), ([11], [11]), ([10, 12], [10, 12]), ([13], [13]), ([0, 0, 3, 4, 5, 6, 7, 8], [0]), ([15, 8, 0, 3, 4, 5, 6, 7, 8], [8, 15]), ([2, 0, 1, 2, 3, 4, 5, 6, 7, 8, 9, 10, 11, 12, 13, 14, 15, 16], [2]), ([17, 14, 16, 0, 1, 2, 3, 4, 5, 6, 7, 8, 9, 10, 11, 12, 13, 14, 15, 16], [14, 17])])
def octB : List Nat := [0, 0, 2, 0, 8, 0, 32, 120, 248, 0, 512, 0, 2048, 7680, 15872, 505, 33273, 131071, 262143]
theorem octtab : rtab .any (opsOf Try.f113 5) = octT := by kernel_rfl
theorem octbits : waitsOk octT.2 octB = true := by kernel_rfl
set_option maxHeartbeats 8000000 in
set_option maxRecDepth 100000 in
theorem octet_bytes.calls (hi lo : Int) (w : World) :
  Calls Try.prog 113 #[.agg #[.int .u64 hi, .int .u64 lo]] w fun e w' => e = .returned (.agg (eArr hi lo 8)) ∧ Below w.heap.size w w' := by
 have hu := Try.underlying61
 have HB := Aside0.mk (Below.refl w.heap.size w)
 go_enter Try.func113, Try.ntmps113
 go_wp2_with (first
  | ((with_reducible refine gate_dst (N := 1) rfl ?_); refine box_event ?hg (N := 1) ?hd (cs := #[.int .u64 hi, .int .u64 lo]) (t := 61) ?hr ?_; (case hd => rfl); (case hg => rfl); (case hr => first | (go_simp; done) | (go_simp; rfl)); intro g1 hg1 w1 hbox hb; have B1 := Aside0.mk hbox; replace HB := bh HB hb; clear hb hbox hg1)
  | ((with_reducible refine gate_dst (N := 2) rfl ?_); refine box_event ?hg (N := 2) ?hd (cs := eArr hi lo 0) (t := 172) ?hr ?_; (case hd => rfl); (case hg => rfl); (case hr => first | (go_simp; done) | (go_simp; rfl)); intro g2 hg2 w2 hbox hb; have B2 := Aside0.mk hbox; have G2 := ge hg2 HB; replace B1 := bb B1 hb; replace HB := bh HB hb; clear hb hbox hg2)
  | ((with_reducible refine gate_dst (N := 3) rfl ?_); refine box_event ?hg (N := 3) ?hd (cs := eArr hi lo 0) (t := 172) ?hr ?_; (case hd => rfl); (case hg => rfl); (case hr => first | (go_simp; done) | (go_simp; rfl)); intro g3 hg3 w3 hbox hb; have B3 := Aside0.mk hbox; have G3 := ge hg3 HB; have N13 := nl hg3 B1; have N23 := nl hg3 B2; replace B1 := bb B1 hb; replace B2 := bb B2 hb; replace HB := bh HB hb; clear hb hbox hg3))
 go_loopg [5] 8 (fun kq v5 w' => ∃ m : Nat, v5 = .int .i64 (m : Int) ∧ Aside0 (m + kq = 8) ∧ Aside0 (w'.heap[g3]? = some (.cells (eArr hi lo m) 172 (0, 0))) ∧ Aside0 (w'.heap[g1]? = some (.cells #[.int .u64 hi, .int .u64 lo] 61 (0, 0))) ∧ Aside0 (w'.heap[g2]? = some (.cells (eArr hi lo 0) 172 (0, 0))) ∧ Aside0 (Below w.heap.size w w'))
 case atStart => exact ⟨0, rfl, ⟨rfl⟩, B3, B1, B2, HB⟩
 case round =>
  clear B3 B1 B2 HB
  obtain ⟨m, rfl, HM, B3, B1, B2, HB⟩ := hrel
  cases gk with
  | zero =>
   obtain rfl : m = 8 := by have := HM.out; omega
   clear HM
   have hi74 : (Try.prog.info? 172).map (·.size) = some (eArr hi lo 8).size := by rw [eArr_size]; exact eArr_info
   have hone := eArr_one hi lo 8
   go_wp2_with (first
    | ((with_reducible refine gate_dst (N := 26) rfl ?_); refine wpList_load_row rfl 172 (.tmp 3) rfl g3 (by rfl) 172 (eArr hi lo 8) (0, 0) _ B3.out Try.underlying172 rfl hi74 ?_)
    | ((with_reducible refine gate_store (t := 172) (p := 2) rfl ?_); refine wpList_store_row rfl 172 (.tmp 2) (.tmp 26) rfl g2 (eArr hi lo 8) (by rfl) (by rfl) 172 _ B2.out hi74 (by rw [eArr_size, eArr_size]) hone ?_))
   refine bodyPost_ret (results_cell_row rfl _ _ g2 172 (eArr hi lo 8) (0, 0) _ rfl (setRow_heap _ g2 _ _ 172 (0, 0) B2.out) Try.underlying172 rfl hi74) rfl ?_
   exact ⟨rfl, below_setRow HB.out G2.out _⟩
  | succ k2 =>
   have hm : m < 8 := by have := HM.out; omega
   have HM8 := Aside0.mk hm
   have d0 : decide ((m : Int) < 8) = true := decide_eq_true (by omega)
   have e8 : IntKind.i64.wrap (8 * (m : Int)) = ((8 * m : Nat) : Int) := by rw [i64_w]; unfold wrap64; omega
   have e9 : IntKind.i64.wrap (8 + (m : Int)) = ((8 + m : Nat) : Int) := by rw [i64_w]; unfold wrap64; omega
   have f8 : wrap64 (8 * (m : Int)) = ((8 * m : Nat) : Int) := by unfold wrap64; omega
   have f9 : wrap64 (8 + (m : Int)) = ((8 + m : Nat) : Int) := by unfold wrap64; omega
   have hd1 : decide (m < 8) = true := decide_eq_true hm
   have z1 : (0 ≤ 8 * (m : Int)) = True := eq_true (by omega)
   have z2 : (8 * (m : Int) ≤ 64) = True := eq_true (by omega)
   have b1 : ((m : Int) < 16) = True := eq_true (by omega)
   have b2 : (8 + (m : Int) < 16) = True := eq_true (by omega)
   have b3 : (0 ≤ 8 + (m : Int)) = True := eq_true (by omega)
   clear hm
   go_wp2
   replace B1 := Aside0.mk (blk_drew B1.out)
   replace B2 := Aside0.mk (blk_drew B2.out)
   replace B3 := Aside0.mk (blk_drew B3.out)
   replace HB := Aside0.mk (below_drew1 HB.out)
   refine start_ (n := 19) (S := fun w' => w'.cell? ⟨g1, 0, none⟩ = some (.int .u64 hi) ∧ w'.cell? ⟨g1, 1, none⟩ = some (.int .u64 lo)) (ds := [18]) #[false, false, false, false, false, false, false, false, false, false, false, false, false, false, false, false, false, false, false] (by kernel_rfl) rfl rfl ⟨(blk_cell B1.out 0).trans rfl, (blk_cell B1.out 1).trans rfl⟩ (fun hHeld => ?_); refine with_tabW octtab octbits (fun HT_ HW_ => ?_)
   generalize wr.drew = w4 at B1 B2 B3 HB hHeld ⊢
   refine pure_ (i := 0) (N := some 8) (v := ?_) (a' := ?_) #[true, false, false, false, false, false, false, false, false, false, false, false, false, false, false, false, false, false, false] rfl rfl (any_of HT_.out (by kernel_rfl)) (fun _ _ _ h => h) (Or.inl ⟨by rfl, ?_⟩) ?_ ?_
   rotate_left
   · intro w'
     go_simp
     with_reducible rfl
   rotate_left
   · simp only [Act.put, List.setIfInBounds_toArray, List.set_cons_zero, List.set_cons_succ, i64_w, i32_w]
     rfl
   refine pure_ (i := 1) (N := some 9) (v := ?_) (a' := ?_) #[true, true, false, false, false, false, false, false, false, false, false, false, false, false, false, false, false, false, false] rfl rfl (any_of HT_.out (by kernel_rfl)) (fun _ _ _ h => h) (Or.inl ⟨by rfl, ?_⟩) ?_ ?_
   rotate_left
   · intro w'
     go_simp
     with_reducible rfl
   rotate_left
   · simp only [Act.put, List.setIfInBounds_toArray, List.set_cons_zero, List.set_cons_succ, i64_w, i32_w]
     rfl
   refine pure_ (i := 2) (N := some 10) (v := ?_) (a' := ?_) #[true, true, true, false, false, false, false, false, false, false, false, false, false, false, false, false, false, false, false] rfl rfl (any_of HT_.out (by kernel_rfl)) (fun _ _ _ h => h) (Or.inl ⟨by rfl, ?_⟩) ?_ ?_
   rotate_left
   · intro w'
     go_simp
     with_reducible rfl
   rotate_left
   · simp only [Act.put, List.setIfInBounds_toArray, List.set_cons_zero, List.set_cons_succ, i64_w, i32_w]
     rfl
   refine pure_ (i := 3) (N := some 11) (v := ?_) (a' := ?_) #[true, true, true, true, false, false, false, false, false, false, false, false, false, false, false, false, false, false, false] rfl rfl (any_of HT_.out (by kernel_rfl)) (fun _ _ _ h => h) (Or.inl ⟨by rfl, ?_⟩) ?_ ?_
   rotate_left
   · intro w'
     go_simp
     with_reducible rfl
   rotate_left
   · simp only [Act.put, List.setIfInBounds_toArray, List.set_cons_zero, List.set_cons_succ, i64_w, i32_w]
     rfl
   refine take_ (i := 4) (N := some 12) (v := ?_) (a' := ?_) #[true, true, true, true, true, false, false, false, false, false, false, false, false, false, false, false, false, false, false] rfl rfl (take_ofW HT_.out HW_.out (by kernel_rfl)) (fun _ _ _ h => h) (Or.inl ⟨by rfl, ?_⟩) hHeld ?_ ?_
   rotate_left
   · rintro w' ⟨s0, s1⟩
     go_simp
     with_reducible rfl
   rotate_left
   · simp only [Act.put, List.setIfInBounds_toArray, List.set_cons_zero, List.set_cons_succ, i64_w, i32_w]
     rfl
   refine pure_ (i := 5) (N := some 13) (v := ?_) (a' := ?_) #[true, true, true, true, true, true, false, false, false, false, false, false, false, false, false, false, false, false, false] rfl rfl (any_of HT_.out (by kernel_rfl)) (fun _ _ _ h => h) (Or.inl ⟨by rfl, ?_⟩) ?_ ?_
   rotate_left
   · intro w'
     go_simp
     with_reducible rfl
   rotate_left
   · simp only [Act.put, List.setIfInBounds_toArray, List.set_cons_zero, List.set_cons_succ, i64_w, i32_w]
     rfl
   refine pure_ (i := 6) (N := some 14) (v := ?_) (a' := ?_) #[true, true, true, true, true, true, true, false, false, false, false, false, false, false, false, false, false, false, false] rfl rfl (any_of HT_.out (by kernel_rfl)) (fun _ _ _ h => h) (Or.inl ⟨by rfl, ?_⟩) ?_ ?_
   rotate_left
   · intro w'
     go_simp
     with_reducible rfl
   rotate_left
   · simp only [Act.put, List.setIfInBounds_toArray, List.set_cons_zero, List.set_cons_succ, i64_w, i32_w]
     rfl
   refine pure_ (i := 7) (N := some 15) (v := ?_) (a' := ?_) #[true, true, true, true, true, true, true, true, false, false, false, false, false, false, false, false, false, false, false] rfl rfl (any_of HT_.out (by kernel_rfl)) (fun _ _ _ h => h) (Or.inl ⟨by rfl, ?_⟩) ?_ ?_
   rotate_left
   · intro w'
     go_simp
     with_reducible rfl
   rotate_left
   · simp only [Act.put, List.setIfInBounds_toArray, List.set_cons_zero, List.set_cons_succ, i64_w, i32_w]
     rfl
   refine pure_ (i := 8) (N := some 16) (v := ?_) (a' := ?_) #[true, true, true, true, true, true, true, true, true, false, false, false, false, false, false, false, false, false, false] rfl rfl (any_of HT_.out (by kernel_rfl)) (fun _ _ _ h => h) (Or.inl ⟨by rfl, ?_⟩) ?_ ?_
   rotate_left
   · intro w'
     go_simp
     with_reducible rfl
   rotate_left
   · simp only [Act.put, List.setIfInBounds_toArray, List.set_cons_zero, List.set_cons_succ, i64_w, i32_w]
     rfl
   refine pure_ (i := 9) (N := some 17) (v := ?_) (a' := ?_) #[true, true, true, true, true, true, true, true, true, true, false, false, false, false, false, false, false, false, false] rfl rfl (any_of HT_.out (by kernel_rfl)) (fun _ _ _ h => h) (Or.inl ⟨by rfl, ?_⟩) ?_ ?_
   rotate_left
   · intro w'
     go_simp
     with_reducible rfl
   rotate_left
   · simp only [Act.put, List.setIfInBounds_toArray, List.set_cons_zero, List.set_cons_succ, i64_w, i32_w]
     rfl
   refine take_ (i := 10) (N := some 18) (v := ?_) (a' := ?_) #[true, true, true, true, true, true, true, true, true, true, true, false, false, false, false, false, false, false, false] rfl rfl (take_ofW HT_.out HW_.out (by kernel_rfl)) (fun _ _ _ h => h) (Or.inl ⟨by rfl, ?_⟩) hHeld ?_ ?_
   rotate_left
   · rintro w' ⟨s0, s1⟩
     go_simp
     with_reducible rfl
   rotate_left
   · simp only [Act.put, List.setIfInBounds_toArray, List.set_cons_zero, List.set_cons_succ, i64_w, i32_w]
     rfl
   refine pure_ (i := 11) (N := some 19) (v := ?_) (a' := ?_) #[true, true, true, true, true, true, true, true, true, true, true, true, false, false, false, false, false, false, false] rfl rfl (any_of HT_.out (by kernel_rfl)) (fun _ _ _ h => h) (Or.inl ⟨by rfl, ?_⟩) ?_ ?_
   rotate_left
   · intro w'
     go_simp
     with_reducible rfl
   rotate_left
   · simp only [Act.put, List.setIfInBounds_toArray, List.set_cons_zero, List.set_cons_succ, i64_w, i32_w]
     rfl
   refine pure_ (i := 12) (N := some 20) (v := ?_) (a' := ?_) #[true, true, true, true, true, true, true, true, true, true, true, true, true, false, false, false, false, false, false] rfl rfl (any_of HT_.out (by kernel_rfl)) (fun _ _ _ h => h) (Or.inl ⟨by rfl, ?_⟩) ?_ ?_
   rotate_left
   · intro w'
     go_simp
     with_reducible rfl
   rotate_left
   · simp only [Act.put, List.setIfInBounds_toArray, List.set_cons_zero, List.set_cons_succ, i64_w, i32_w]
     rfl
   refine pure_ (i := 13) (N := some 21) (v := ?_) (a' := ?_) #[true, true, true, true, true, true, true, true, true, true, true, true, true, true, false, false, false, false, false] rfl rfl (any_of HT_.out (by kernel_rfl)) (fun _ _ _ h => h) (Or.inl ⟨by rfl, ?_⟩) ?_ ?_
   rotate_left
   · intro w'
     go_simp
     with_reducible rfl
   rotate_left
   · simp only [Act.put, List.setIfInBounds_toArray, List.set_cons_zero, List.set_cons_succ, i64_w, i32_w]
     rfl
   refine pure_ (i := 14) (N := some 22) (v := ?_) (a' := ?_) #[true, true, true, true, true, true, true, true, true, true, true, true, true, true, true, false, false, false, false] rfl rfl (any_of HT_.out (by kernel_rfl)) (fun _ _ _ h => h) (Or.inl ⟨by rfl, ?_⟩) ?_ ?_
   rotate_left
   · intro w'
     go_simp
     with_reducible rfl
   rotate_left
   · simp only [Act.put, List.setIfInBounds_toArray, List.set_cons_zero, List.set_cons_succ, i64_w, i32_w]
     rfl
   refine pure_ (i := 15) (N := some 23) (v := ?_) (a' := ?_) #[true, true, true, true, true, true, true, true, true, true, true, true, true, true, true, true, false, false, false] rfl rfl (any_of HT_.out (by kernel_rfl)) (fun _ _ _ h => h) (Or.inl ⟨by rfl, ?_⟩) ?_ ?_
   rotate_left
   · intro w'
     go_simp
     with_reducible rfl
   rotate_left
   · simp only [Act.put, List.setIfInBounds_toArray, List.set_cons_zero, List.set_cons_succ, i64_w, i32_w]
     rfl
   refine one_ (i := 16) (N := none) #[true, true, true, true, true, true, true, true, true, true, true, true, true, true, true, true, true, false, false] rfl rfl (one_of HT_.out (by kernel_rfl)) (by decide) (fun K hK => ?_)
   have hc := (blk_cell B3.out m).trans (eArr_at hi lo m (by have := HM8.out; omega))
   have hf := blk_frozen B3.out m
   refine skip_ (w1 := ?_) (by rfl) rfl ?_ ?_
   rotate_left
   · go_simp
     rfl
   clear hc hf
   have C3 := Aside0.mk (blk_put B3.out m (.int .u8 (IntKind.u8.wrap (lo / 2 ^ (8 * (m : Int)).toNat))) rfl)
   have C1 := Aside0.mk (blk_far (p := ⟨g3, m, none⟩) B1.out N13.out (.int .u8 (IntKind.u8.wrap (lo / 2 ^ (8 * (m : Int)).toNat))))
   have C2 := Aside0.mk (blk_far (p := ⟨g3, m, none⟩) B2.out N23.out (.int .u8 (IntKind.u8.wrap (lo / 2 ^ (8 * (m : Int)).toNat))))
   have CB := Aside0.mk (below_set (j := m) (v := .int .u8 (IntKind.u8.wrap (lo / 2 ^ (8 * (m : Int)).toNat))) HB.out G3.out)
   refine hK.out _ _ ⟨(blk_cell C1.out 0).trans rfl, (blk_cell C1.out 1).trans rfl⟩ (fun hHeld => ?_)
   clear hK K B1 B2 B3 HB
   generalize w4.setCell ⟨g3, m, none⟩ (.int .u8 (IntKind.u8.wrap (lo / 2 ^ (8 * (m : Int)).toNat))) = w5 at C1 C2 C3 CB hHeld ⊢
   refine pure_ (i := 17) (N := some 24) (v := ?_) (a' := ?_) #[true, true, true, true, true, true, true, true, true, true, true, true, true, true, true, true, true, true, false] rfl rfl (any_of HT_.out (by kernel_rfl)) (fun _ _ _ h => h) (Or.inl ⟨by rfl, ?_⟩) ?_ ?_
   rotate_left
   · intro w'
     go_simp
     with_reducible rfl
   rotate_left
   · simp only [Act.put, List.setIfInBounds_toArray, List.set_cons_zero, List.set_cons_succ, i64_w, i32_w]
     rfl
   refine last_ (i := 18) (N := none) #[true, true, true, true, true, true, true, true, true, true, true, true, true, true, true, true, true, true, true] rfl rfl (one_of HT_.out (by kernel_rfl)) (by decide) (fun K hK => ?_)
   have ht : (8 + (m : Int)).toNat = 8 + m := by omega
   have hc : w5.cell? ⟨g3, (8 + (m : Int)).toNat, none⟩ = some (.int .u8 (if (8 + m) % 8 < m then eByte hi lo (8 + m) else 0)) := by
     rw [ht, blk_cell C3.out (8 + m), Array.getElem?_setIfInBounds_ne (by omega), eArr_at hi lo m (by have := HM8.out; omega)]
   have hf : w5.frozen? ⟨g3, (8 + (m : Int)).toNat, none⟩ = false := blk_frozen C3.out _
   have HT := Aside0.mk ht
   clear ht
   refine skip_ (w1 := ?_) (by rfl) rfl ?_ ?_
   rotate_left
   · go_simp
     rfl
   refine hK.out _ _ ?_
   clear hK K hc hf
   refine done_ (done_of HT_.out (by kernel_rfl)) ?_
   go_wp2
   go_roundg k2
   case measure => omega
   case rel =>
    have hm : m < 8 := HM8.out
    refine ⟨m + 1, by rw [show wrap64 ((m : Int) + 1) = ((m + 1 : Nat) : Int) by unfold wrap64; omega], ⟨by have := HM.out; omega⟩, ⟨blk_put C3.out (8 + m) _ ?_⟩, ⟨blk_far C1.out N13.out _⟩, ⟨blk_far C2.out N23.out _⟩, ⟨below_set CB.out G3.out⟩⟩
    rw [← eArr_succ hi lo hm, eByte_lo hi lo hm, eByte_hi2 hi lo hm]
end Go.Proofs.Ythgiifakcgjlaaa.P
