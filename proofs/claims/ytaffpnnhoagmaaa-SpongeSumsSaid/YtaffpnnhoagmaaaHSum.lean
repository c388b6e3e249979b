/- A text's digest (sponge.Sum) (layer 10). Conditions: those that each theorem names. Printed by gen_st.py. -/
import Derived.Test.YtaffpnnhoagmaaaHCut
import Derived.Test.YtaffpnnhoagmaaaHPress
import Derived.Test.YtaffpnnhoagmaaaHFill
set_option linter.unusedVariables false
set_option linter.unusedSimpArgs false
set_option maxRecDepth 100000
namespace Go.Proofs.Ytaffpnnhoagmaaa.P
open Go.RowKit Go.Shelf Go.Rc Go.Proofs.Ytaffpnnhoagmaaa.Br Go.Proofs.YtaffpnnhoagmaaaX Go.Proofs.YtaffpnnhoagmaaaW.PrintWords Go.Proofs.YtaffpnnhoagmaaaW.PrintLast Go.Proofs.YtaffpnnhoagmaaaW.PrintMore
attribute [local go_sem] Oper.semAt_some
theorem first_app : (⟨(List.replicate 62 (0 : UInt8)).toArray⟩ : ByteArray) ++ ⟨#[1, 0]⟩ = firstS := by
  apply ByteArray.ext
  rw [ByteArray.data_append]
  rfl
set_option maxHeartbeats 8000000 in
set_option maxRecDepth 100000 in
theorem first_calls (w : World) : Calls Try.prog 42 #[] w fun e w' => e = .returned (.string firstS) ∧ Below w.heap.size w w' := by
 have HB := Aside0.mk (Below.refl w.heap.size w)
 have fa := first_app
 obtain ⟨z, ez⟩ : ∃ z : ByteArray, z = ⟨(List.replicate 62 (0 : UInt8)).toArray⟩ := ⟨_, rfl⟩
 have EZ := Aside0.mk ez
 have hz : z.size = 62 := by rw [ez]; show (List.replicate 62 (0 : UInt8)).toArray.size = 62; rw [List.size_toArray, List.length_replicate]
 rw [← ez] at fa
 clear ez
 go_enter Try.func42, Try.ntmps42
 go_wp2_with (first
  | ((with_reducible refine gate_callee (f := 39) rfl ?_); refine goesL_ (some 1) rfl rfl Try.func39 (by kernel_rfl) rfl #[.string ⟨#[0]⟩, .int .i64 62] rfl (by (try simp only [List.map_toArray, List.map_cons, List.map_nil]); first | done | rfl) ?_; refine ((EZ.out ▸ rep_zeros 62 _ (by decide))).mono ?_; rintro e w11 ⟨rfl, hb⟩; refine ⟨_, rfl, ?_⟩; replace HB := bh HB hb; (try clear hb))
  | (go_at_call 39; refine ((EZ.out ▸ rep_zeros 62 _ (by decide))).mono ?_; rintro e w11 ⟨rfl, hb⟩; replace HB := bh HB hb; (try clear hb)))
 go_ret
 exact ⟨rfl, HB.out⟩
theorem str_eq3 {P : Program} {f : FuncId} {args : Array Value} {w : World} {a b : ByteArray} {n : Int} (h : a = b) (hc : Calls P f args w fun e w' => e = .returned (.tuple #[.string a, .int .i64 n]) ∧ Below w.heap.size w w') : Calls P f args w fun e w' => e = .returned (.tuple #[.string b, .int .i64 n]) ∧ Below w.heap.size w w' := h ▸ hc
/-- Between two rounds: what has come, and the chain value so far. -/
def sumI (xs : List ByteArray) (r : ByteArray) (ct : Array Value) (g g2 g5 z : Nat) (w : World) (pre : List ByteArray) (W : World) : Prop :=
  ∃ (rest : List ByteArray) (h : ByteArray), xs = pre ++ rest ∧ closeS (rest.foldl pressS h) = r ∧ h.size = 64 ∧ W.heap[g5]? = some (.cells #[.string h] 9 (0, 0)) ∧ W.heap[g2]? = some (.cells #[.pointer (some ⟨g, 0, none⟩)] 23 (0, 0)) ∧ W.heap[g]? = some (.cells ct 54 (0, 0)) ∧ z ≤ W.heap.size ∧ Below w.heap.size w W
set_option maxHeartbeats 8000000 in
set_option maxRecDepth 100000 in
theorem sum_calls {w : World} {g : Nat} (hT : TabAt w g) (s : ByteArray) (hs : s.size ≤ 1048576) :
    Calls Try.prog 19 #[.pointer (some ⟨g, 0, none⟩), .string s] w fun e w' => e = .returned (.string (sumS s)) ∧ Below w.heap.size w w' := by
  obtain ⟨ct, hT, hTab⟩ := hT
  have HB := Aside0.mk (Below.refl w.heap.size w)
  have HT := Aside0.mk hT
  have TB := Aside0.mk hTab
  have SZ := Aside0.mk hs
  have z1 : decide (1048576 < (s.size : Int)) = false := decide_eq_false (by omega)
  have z2 : decide (1048576 < s.size) = false := decide_eq_false (by omega)
  clear hT hTab hs
  refine (callsIn_wide (n := 6)).1 ?_
  refine callsIn_of_wp_marks Try.func19 rfl trivial ?_ rfl
  simp only [Try.ntmps19, List.size_toArray, List.length_cons, List.length_nil, Nat.reduceAdd, Nat.reduceSub, Array.replicate_succ, Array.replicate_zero, List.push_toArray, List.append_toArray, List.nil_append, List.cons_append]
  refine wpIn_wide.2 ?_
  go_wp2_with (first
    | ((with_reducible refine gate_dst (N := 2) rfl ?_); refine box_event ?hg (N := 2) ?hd (cs := #[.pointer (some ⟨g, 0, none⟩)]) (t := 23) ?hr ?_; (case hd => rfl); (case hg => rfl); (case hr => first | (go_simp; done) | (go_simp; rfl)); intro g2 hg2 w2 hbox hb; have B2 := Aside0.mk hbox; have G2 := ge hg2 HB; replace HT := bb HT hb; replace HB := bh HB hb; clear hb hbox hg2; have c2 := zc1 B2)
    | ((with_reducible refine gate_callee (f := 42) rfl ?_); refine goesL_ (some 16) rfl rfl Try.func42 (by kernel_rfl) rfl #[] rfl (by (try simp only [List.map_toArray, List.map_cons, List.map_nil]); first | done | rfl) ?_; (with_reducible refine (first_calls _).mono ?_); rintro e w11 ⟨rfl, hb⟩; refine ⟨_, rfl, ?_⟩; replace B2 := bb B2 hb; replace HT := bb HT hb; replace HB := bh HB hb; (try clear hb))
    | (go_at_call 42; (with_reducible refine (first_calls _).mono ?_); rintro e w11 ⟨rfl, hb⟩; replace B2 := bb B2 hb; replace HT := bb HT hb; replace HB := bh HB hb; (try clear hb))
    | ((with_reducible refine gate_dst (N := 5) rfl ?_); refine box_event ?hg (N := 5) ?hd (cs := #[.string ⟨#[]⟩]) (t := 9) ?hr ?_; (case hd => rfl); (case hg => rfl); (case hr => first | (go_simp; done) | (go_simp; rfl)); intro g5 hg5 w5 hbox hb; have B5 := Aside0.mk hbox; have G5 := ge hg5 HB; have N25 := nl hg5 B2; have NT5 := nl hg5 HT; replace B2 := bb B2 hb; replace HT := bb HT hb; replace HB := bh HB hb; clear hb hbox hg5; have cz5 := blk_frozen B5.out 0; have c5 := zc1 B5)
    | (go_at_call 15; replace B5 := Aside0.mk (blk_put B5.out 0 (.string firstS) rfl); replace B2 := Aside0.mk (blk_far (p := ⟨g5, 0, none⟩) B2.out N25.out (.string firstS)); replace HT := Aside0.mk (blk_far (p := ⟨g5, 0, none⟩) HT.out NT5.out (.string firstS)); replace HB := Aside0.mk (below_set (j := 0) (v := .string firstS) HB.out G5.out); clear cz5 c5 c2; (generalize World.setCell _ ⟨g5, 0, none⟩ (.string firstS) = w6 at B5 B2 HT HB ⊢); (with_reducible refine (fill_calls s (Nat.le_trans SZ.out (by decide)) _).mono ?_); rintro e w11 ⟨rfl, hb⟩; replace B2 := bb B2 hb; replace B5 := bb B5 hb; replace HT := bb HT hb; replace HB := bh HB hb; (try clear hb))
    | ((with_reducible refine gate_callee (f := 43) rfl ?_); refine goesL_ (some 19) rfl rfl Try.func43 (by kernel_rfl) rfl #[.string (fillS s)] rfl (by (try simp only [List.map_toArray, List.map_cons, List.map_nil]); first | done | rfl) ?_; (with_reducible refine (cut_calls (fillS s) _).mono ?_); rintro e w9 ⟨gs, rfl, hgs, hbs, hb⟩; refine ⟨_, rfl, ?_⟩; have N2 := Aside0.mk (Nat.ne_of_lt (Nat.lt_of_lt_of_le (blk_lt B2.out) hgs)); have N5 := Aside0.mk (Nat.ne_of_lt (Nat.lt_of_lt_of_le (blk_lt B5.out) hgs)); have NT := Aside0.mk (Nat.ne_of_lt (Nat.lt_of_lt_of_le (blk_lt HT.out) hgs)); have GS := Aside0.mk (Nat.le_trans (below_size HB.out) hgs); have BS := Aside0.mk hbs; replace B2 := bb B2 hb; replace B5 := bb B5 hb; replace HT := bb HT hb; replace HB := bh HB hb; (try clear hb hbs hgs))
    | (go_at_call 43; (with_reducible refine (cut_calls (fillS s) _).mono ?_); rintro e w9 ⟨gs, rfl, hgs, hbs, hb⟩; have N2 := Aside0.mk (Nat.ne_of_lt (Nat.lt_of_lt_of_le (blk_lt B2.out) hgs)); have N5 := Aside0.mk (Nat.ne_of_lt (Nat.lt_of_lt_of_le (blk_lt B5.out) hgs)); have NT := Aside0.mk (Nat.ne_of_lt (Nat.lt_of_lt_of_le (blk_lt HT.out) hgs)); have GS := Aside0.mk (Nat.le_trans (below_size HB.out) hgs); have BS := Aside0.mk hbs; replace B2 := bb B2 hb; replace B5 := bb B5 hb; replace HT := bb HT hb; replace HB := bh HB hb; (try clear hb hbs hgs)))
  have hsz : g5 < w9.heap.size := blk_lt B5.out
  have hsz2 : g2 < w9.heap.size := blk_lt B2.out
  have hszg : g < w9.heap.size := blk_lt HT.out
  have hszs : gs < w9.heap.size := blk_lt BS.out
  refine (wpIn_wide (n := 6)).1 ?_
  refine range_on (F := Fence.wide) (α := ByteArray) rfl (by omega) (gf := 62) rfl trivial (enters_of Try.func62 (by kernel_rfl) rfl)
    (cut_gives 5 (by omega) (nB s.size) (by have := SZ.out; unfold nB; omega) (fillS s) (fillS_size s) gs w9 BS.out)
    (fun _ => rfl) (fun h1 h2 => Eq.trans h2 h1)
    (fun W l o o' hl hW hc => World.putObj_heap_other (by omega))
    (fun A B k o hs hk hA hc => (hs.block k (blk_lt hA) (by omega)).trans hA)
    (sumI (cutL (nB s.size) (fillS s)) (sumS s) ct g g2 g5 w9.heap.size w)
    (fun pre x b W => ∃ (rest : List ByteArray) (h : ByteArray), cutL (nB s.size) (fillS s) = pre ++ rest ∧ closeS (rest.foldl pressS h) = sumS s ∧ h.size = 64 ∧ W.heap[g5]? = some (.cells #[.string h] 9 (0, 0)) ∧ W.heap[g2]? = some (.cells #[.pointer (some ⟨g, 0, none⟩)] 23 (0, 0)) ∧ W.heap[g]? = some (.cells ct 54 (0, 0)) ∧ w9.heap.size ≤ W.heap.size ∧ Below w.heap.size w W ∧
      b = { tmps := #[.pointer (some ⟨g, 0, none⟩), .string s, .pointer (some ⟨g2, 0, none⟩), undef, .string ⟨#[]⟩, .pointer (some ⟨g5, 0, none⟩), .string x, undef, undef, .pointer (some ⟨g, 0, none⟩), .bool false, .bool false, .string s, .int .i64 (s.size : Int), .bool false, .bool false, .string firstS, .string s, .string (fillS s), .func (.func 62) #[] #[.pointer (some ⟨gs, 0, none⟩)], .string x, undef, undef, undef, undef, undef, undef, undef, undef, undef, undef, undef, undef, undef, undef], defers := [] })
    ?is ?ip ?ia ?ap ?h0 ?assign ?body ?done
  case is =>
    rintro s' A B ⟨rest, h, hx, ha, hh, h5, h2, hg, hz, hb⟩ hk
    exact ⟨rest, h, hx, ha, hh, (hk.block g5 (blk_lt h5) N5.out).trans h5, (hk.block g2 (blk_lt h2) N2.out).trans h2, (hk.block g (blk_lt hg) NT.out).trans hg, Nat.le_trans hz hk.size, Ks1.later hb hk GS.out (Nat.le_refl _)⟩
  case ip =>
    rintro s' W l o o' ⟨rest, h, hx, ha, hh, h5, h2, hg, hz, hb⟩ hl hW hc
    exact ⟨rest, h, hx, ha, hh, (World.putObj_heap_other (by omega)).trans h5, (World.putObj_heap_other (by omega)).trans h2, (World.putObj_heap_other (by omega)).trans hg, by simpa [World.putObj] using hz, below_putObj hb l o' (by have := below_size HB.out; omega)⟩
  case ia =>
    rintro s' W o ⟨rest, h, hx, ha, hh, h5, h2, hg, hz, hb⟩
    exact ⟨rest, h, hx, ha, hh, blk_alloc h5 _, blk_alloc h2 _, blk_alloc hg _, by rw [World.size_alloc]; omega, below_alloc hb _⟩
  case ap =>
    rintro s' x b W l o o' ⟨rest, h, hx, ha, hh, h5, h2, hg, hz, hb, he⟩ hl hW hc
    exact ⟨rest, h, hx, ha, hh, (World.putObj_heap_other (by omega)).trans h5, (World.putObj_heap_other (by omega)).trans h2, (World.putObj_heap_other (by omega)).trans hg, by simpa [World.putObj] using hz, below_putObj hb l o' (by have := below_size HB.out; omega), he⟩
  case h0 => exact ⟨_, firstS, rfl, rfl, firstS_size, B5.out, B2.out, HT.out, Nat.le_refl _, HB.out⟩
  case assign =>
    rintro l pre x W K ⟨rest, h, hx, ha, hh, h5, h2, hg, hz, hb⟩ hpx hK
    dsimp only [encS]
    gi_wp2
    exact hK _ _ (KeepsOthers.refl _) rfl ⟨rest, h, hx, ha, hh, h5, h2, hg, hz, hb, rfl⟩
  case body =>
    rintro l pre x b W ⟨rest, h, hx, ha, hh, h5, h2, hg, hz, hb, rfl⟩ ⟨s', hs⟩
    have er : rest = x :: s' := by
      have := hs.trans hx
      rw [List.append_assoc, List.append_cancel_left_eq] at this
      exact this.symm
    subst er
    have hx2 : cutL (nB s.size) (fillS s) = pre ++ [x] ++ s' := by rw [hx, List.append_assoc, List.singleton_append]
    have hx64 : x.size = 64 := cutL_size _ _ (fillS_size s) x (by rw [hx]; exact List.mem_append_right _ (List.mem_cons_self))
    have HA2 := Aside0.mk (show closeS (s'.foldl pressS (pressS h x)) = sumS s from ha)
    have B5' := Aside0.mk h5
    have B2' := Aside0.mk h2
    have BG' := Aside0.mk hg
    have HZ := Aside0.mk hz
    have HBW := Aside0.mk hb
    have HH := Aside0.mk hh
    have HX := Aside0.mk hx64
    have HX2 := Aside0.mk hx2
    clear h5 h2 hg hz hb hh hx64 hx2 ha hs hx
    have c5 := zc1 B5'
    have c2 := zc1 B2'
    gi_wp2
    refine ⟨trivial, (CallsIn.inRound l (callsIn_wide.2 (press_calls ⟨ct, BG'.out, TB.out⟩ h x HH.out HX.out))).mono ?_⟩
    rintro e w2 ⟨rfl, hb2⟩
    clear c5 c2
    have C5 := Aside0.mk (blk_below B5'.out hb2)
    have C2 := Aside0.mk (blk_below B2'.out hb2)
    have CG := Aside0.mk (blk_below BG'.out hb2)
    have HB2 := Aside0.mk hb2
    clear hb2
    have c5 := zc1 C5
    have f5 := blk_frozen C5.out 0
    gi_wp2
    refine ⟨KeepsOthers.trans ⟨HB2.out.size, fun k o hk _ => (HB2.out.block k (blk_lt hk)).trans hk⟩ (KeepsOthers.setCell _ _ _), ?_, s', pressS h x, HX2.out, HA2.out, pressS_size _ _, blk_put C5.out 0 _ rfl, blk_far C2.out N25.out _, blk_far CG.out NT5.out _, ?_, below_set (below_step HBW.out HB2.out) G5.out⟩
    · have e2 : gs < W.heap.size := by have := HZ.out; omega
      exact (Below.heap_setCell _ _ _ gs (Ne.symm N5.out)).trans (HB2.out.block gs e2)
    · have h1 := (Below.refl 0 w2).setCell (p := ⟨g5, 0, none⟩) (Nat.zero_le _) (.string (pressS h x))
      exact Nat.le_trans HZ.out (Nat.le_trans HB2.out.size h1.size)
  case done =>
    rintro D W hD ⟨rest, h, hx, ha, hh, h5, h2, hg, hz, hb⟩ hK
    have er : rest = [] := by
      have h2 := congrArg List.length hx
      rw [List.length_append] at h2
      exact List.eq_nil_of_length_eq_zero (by omega)
    subst er
    have HA2 := Aside0.mk (show closeS h = sumS s from ha)
    have B5' := Aside0.mk h5
    have B2' := Aside0.mk h2
    have BG' := Aside0.mk hg
    have HBW := Aside0.mk hb
    have HH := Aside0.mk hh
    have HK := Aside0.mk hK
    clear h5 h2 hg hb hx hh ha hK
    have c5 := zc1 B5'
    have c2 := zc1 B2'
    gi_wp2
    go_wp2_with (first
      | ((with_reducible refine gate_callee (f := 11) rfl ?_); refine goesL_ (some 31) rfl rfl Try.func11 (by kernel_rfl) rfl #[.pointer (some ⟨g, 0, none⟩), .string h] rfl (by (try simp only [List.map_toArray, List.map_cons, List.map_nil]); first | done | rfl) ?_; (with_reducible refine (str_eq3 HA2.out (close_calls (TabAt.of BG'.out TB.out) h HH.out)).mono ?_); rintro e w3 ⟨rfl, hb⟩; refine ⟨_, rfl, ?_⟩; replace HBW := Aside0.mk (below_step HBW.out hb); replace HK := Aside0.mk ((hb.block D (blk_lt HK.out)).trans HK.out); clear hb c5 c2)
      | (go_at_call 11; (with_reducible refine (str_eq3 HA2.out (close_calls (TabAt.of BG'.out TB.out) h HH.out)).mono ?_); rintro e w3 ⟨rfl, hb⟩; replace HBW := Aside0.mk (below_step HBW.out hb); replace HK := Aside0.mk ((hb.block D (blk_lt HK.out)).trans HK.out); clear hb c5 c2))
    trace_state
    refine ⟨by simp, .inl ⟨_, _, rfl, run_takeDeferred HK.out, ?_⟩⟩
    exact ⟨_, results_tmp rfl _ _ _, rfl, below_putObj HBW.out D _ (by have := below_size HB.out; omega)⟩
end Go.Proofs.Ytaffpnnhoagmaaa.P
