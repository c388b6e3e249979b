/- The product of the conjugates that come (frob.Norm), over any squaring. Conditions: those that each theorem names. -/
import Derived.Test.YtlegcabfgkccmaaHFtr
import Derived.Test.YtlegcabfgkccmaaPx3
import Derived.Test.YtlegcabfgkccmaaPx4
set_option linter.unusedVariables false
set_option linter.unusedSimpArgs false
namespace Go.Proofs.Ytlegcabfgkccmaa.P
open Go.RowKit Go.Shelf Go.Rc Go.Proofs.YtlegcabfgkccmaaX Go.Proofs.YtlegcabfgkccmaaW.PrintWords Go.Proofs.YtlegcabfgkccmaaW.PrintLast Go.Proofs.YtlegcabfgkccmaaW.PrintMore
attribute [local go_sem] Oper.semAt_some
def mull (k : Nat) (a0 : Int) : Int × Int → List (Int × Int) → Option (Int × Int)
  | o, [] => some o
  | o, x :: l => (tower_Mul.f k a0 o.1 o.2 x.1 x.2).bind fun o => mull k a0 o l
theorem mull_mono (k : Nat) (a0 : Int) : ∀ l o, LeO (mull k a0 o l) (mull (k + 1) a0 o l)
  | [], _ => LeO.refl _
  | x :: l, o => LeO.bind (tower_Mul.mono _ _ _ _ _ _) (fun o => mull_mono k a0 l o)
def frob_nm (sq : Int → Int → Int → Option (Int × Int)) (k : Nat) (a0 a1 a2_0 a2_1 : Int) : Option (Int × Int) :=
  (frob_fits.f k a0 a1 a2_0 a2_1).bind fun t => if t = true then (if 0 ≤ a1 ∧ a1 ≤ a0 ∧ a0 ≤ 7 then (cj sq a0 (2 ^ a1.toNat) (2 ^ (a0 - a1).toNat) (a2_0, a2_1)).bind fun l => tower_One.f.bind fun o => mull k a0 o l else none) else some (0, 0)
/-- Between two rounds: what has come, and the sum so far. -/
def nmI (k : Nat) (a0 : Int) (g3 : Nat) (xs : List (Int × Int)) (g6 g7 z : Nat) (w : World) (r : Int × Int) (pre : List (Int × Int)) (W : World) : Prop :=
  ∃ (rest : List (Int × Int)) (o : Int × Int), xs = pre ++ rest ∧ mull k a0 o rest = some r ∧ W.heap[g3]? = some (.cells #[.int .i64 a0] 3 (0, 0)) ∧ W.heap[g7]? = some (.cells #[.int .u64 o.1, .int .u64 o.2] 24 (0, 0)) ∧ W.heap[g6]? = some (.cells #[.int .u64 0, .int .u64 0] 24 (0, 0)) ∧ z ≤ W.heap.size ∧ Below w.heap.size w W
set_option maxHeartbeats 4000000 in
set_option maxRecDepth 100000 in
theorem frob_nm.calls {sq : Int → Int → Int → Option (Int × Int)} (hsq : ∀ l a0 a1 r0 r1 w, sq l a0 a1 = some (r0, r1) → Calls Try.prog 45 #[.int .i64 l, .agg #[.int .u64 a0, .int .u64 a1]] w fun e w' => e = .returned (.agg #[.int .u64 r0, .int .u64 r1]) ∧ Below w.heap.size w w')
    (k : Nat) (a0 a1 a2_0 a2_1 r1 r2 : Int) (w : World) (h : frob_nm sq k a0 a1 a2_0 a2_1 = some (r1, r2)) :
    Calls Try.prog 15 #[.int .i64 a0, .int .i64 a1, .agg #[.int .u64 a2_0, .int .u64 a2_1]] w fun e w' => e = .returned (.agg #[.int .u64 r1, .int .u64 r2]) ∧ Below w.heap.size w w' := by
  have hu24 := Try.underlying24
  have HB := Aside0.mk (Below.refl w.heap.size w)
  unfold frob_nm at h
  obtain ⟨tf, hf, h⟩ := Option.bind_eq_some_iff.mp h
  have HF := Aside0.mk hf
  clear hf
  have H := Aside0.mk h
  clear h
  cases tf
  · have h1 := H.out
    rw [if_neg (by decide)] at h1
    simp only [Option.some.injEq, Prod.mk.injEq] at h1
    obtain ⟨rfl, rfl⟩ := h1
    refine (callsIn_wide (n := 6)).1 ?_
    refine callsIn_of_wp_marks Try.func15 rfl trivial ?_ rfl
    simp only [Try.ntmps15, List.size_toArray, List.length_cons, List.length_nil, Nat.reduceAdd, Nat.reduceSub, Array.replicate_succ, Array.replicate_zero, List.push_toArray, List.append_toArray, List.nil_append, List.cons_append]
    refine wpIn_wide.2 ?_
    go_wp2_with (first
      | ((with_reducible refine gate_dst (N := 3) rfl ?_); refine box_event ?hg (N := 3) ?hd (cs := #[.int .i64 a0]) (t := 3) ?hr ?_; (case hd => rfl); (case hg => rfl); (case hr => first | (go_simp; done) | (go_simp; rfl)); intro g3 hg3 w3 hbox hb; have B3 := Aside0.mk hbox;  replace HB := bh HB hb; clear hb hbox hg3)
      | ((with_reducible refine gate_dst (N := 5) rfl ?_); refine box_event ?hg (N := 5) ?hd (cs := #[.int .u64 a2_0, .int .u64 a2_1]) (t := 24) ?hr ?_; (case hd => rfl); (case hg => rfl); (case hr => first | (go_simp; done) | (go_simp; rfl)); intro g5 hg5 w5 hbox hb; have B5 := Aside0.mk hbox; replace B3 := bb B3 hb; replace HB := bh HB hb; clear hb hbox hg5)
      | ((with_reducible refine gate_dst (N := 6) rfl ?_); refine box_event ?hg (N := 6) ?hd (cs := #[.int .u64 0, .int .u64 0]) (t := 24) ?hr ?_; (case hd => rfl); (case hg => rfl); (case hr => first | (go_simp; done) | (go_simp; rfl)); intro g6 hg6 w6 hbox hb; have B6 := Aside0.mk hbox; have G6 := ge hg6 HB; replace B3 := bb B3 hb; replace B5 := bb B5 hb; replace HB := bh HB hb; clear hb hbox hg6; have hc3 := zc1 B3; have hcz := zc2 B5)
      | (go_at_call 36; refine (frob_fits.calls k a0 a1 a2_0 a2_1 _ _ HF.out).mono ?_; rintro e w8 ⟨rfl, hb⟩; clear hc3 hcz; replace B3 := bb B3 hb; replace B5 := bb B5 hb; replace B6 := bb B6 hb; replace HB := bh HB hb; clear hb; clear HF; obtain ⟨hc60, hc61⟩ := zc2 B6; obtain ⟨hf60, hf61⟩ := zf2 B6))
    exact ⟨_, results_cell_row rfl _ _ g6 24 #[.int .u64 0, .int .u64 0] (0, 0) _ rfl (blk_put (blk_put B6.out 0 _ rfl) 1 _ rfl) hu24 rfl (by kernel_rfl), rfl, below_set (below_set HB.out G6.out) G6.out⟩
  · have h1 := H.out
    rw [if_pos rfl] at h1
    clear H h
    by_cases hb3 : 0 ≤ a1 ∧ a1 ≤ a0 ∧ a0 ≤ 7
    · rw [if_pos hb3] at h1
      obtain ⟨t, rfl⟩ := Int.eq_ofNat_of_zero_le hb3.1
      obtain ⟨m, hm⟩ := Int.eq_ofNat_of_zero_le (show 0 ≤ a0 - (t : Int) by omega)
      rw [hm, Int.toNat_natCast, Int.toNat_natCast] at h1
      obtain ⟨xs, hxs, h1⟩ := Option.bind_eq_some_iff.mp h1
      obtain ⟨⟨u0, u1⟩, ho, h1⟩ := Option.bind_eq_some_iff.mp h1
      have HO := Aside0.mk ho
      have HX := Aside0.mk hxs
      have H1 := Aside0.mk h1
      have HB3 := Aside0.mk hb3
      have HM := Aside0.mk hm
      clear ho hxs h1 hb3 hm
      refine (callsIn_wide (n := 6)).1 ?_
      refine callsIn_of_wp_marks Try.func15 rfl trivial ?_ rfl
      simp only [Try.ntmps15, List.size_toArray, List.length_cons, List.length_nil, Nat.reduceAdd, Nat.reduceSub, Array.replicate_succ, Array.replicate_zero, List.push_toArray, List.append_toArray, List.nil_append, List.cons_append]
      refine wpIn_wide.2 ?_
      go_wp2_with (first
        | ((with_reducible refine gate_dst (N := 3) rfl ?_); refine box_event ?hg (N := 3) ?hd (cs := #[.int .i64 a0]) (t := 3) ?hr ?_; (case hd => rfl); (case hg => rfl); (case hr => first | (go_simp; done) | (go_simp; rfl)); intro g3 hg3 w3 hbox hb; have B3 := Aside0.mk hbox;  replace HB := bh HB hb; clear hb hbox hg3)
        | ((with_reducible refine gate_dst (N := 5) rfl ?_); refine box_event ?hg (N := 5) ?hd (cs := #[.int .u64 a2_0, .int .u64 a2_1]) (t := 24) ?hr ?_; (case hd => rfl); (case hg => rfl); (case hr => first | (go_simp; done) | (go_simp; rfl)); intro g5 hg5 w5 hbox hb; have B5 := Aside0.mk hbox; replace B3 := bb B3 hb; replace HB := bh HB hb; clear hb hbox hg5)
        | ((with_reducible refine gate_dst (N := 6) rfl ?_); refine box_event ?hg (N := 6) ?hd (cs := #[.int .u64 0, .int .u64 0]) (t := 24) ?hr ?_; (case hd => rfl); (case hg => rfl); (case hr => first | (go_simp; done) | (go_simp; rfl)); intro g6 hg6 w6 hbox hb; have B6 := Aside0.mk hbox; have G6 := ge hg6 HB; replace B3 := bb B3 hb; replace B5 := bb B5 hb; replace HB := bh HB hb; clear hb hbox hg6; have hc3 := zc1 B3; have hcz := zc2 B5)
        | (go_at_call 36; refine (frob_fits.calls k a0 (t : Int) a2_0 a2_1 _ _ HF.out).mono ?_; rintro e w8 ⟨rfl, hb⟩; clear hc3 hcz; replace B3 := bb B3 hb; replace B5 := bb B5 hb; replace B6 := bb B6 hb; replace HB := bh HB hb; clear hb; clear HF; obtain ⟨hc60, hc61⟩ := zc2 B6; obtain ⟨hf60, hf61⟩ := zf2 B6)
        | (go_at_call 40; refine (tower_One.calls u0 u1 _ HO.out).mono ?_; rintro e w10 ⟨rfl, hb⟩; clear hc60 hc61 hf60 hf61; replace B3 := bb B3 hb; replace B5 := bb B5 hb; replace B6 := bb B6 hb; replace HB := bh HB hb; clear hb)
        | ((with_reducible refine gate_dst (N := 7) rfl ?_); refine box_event ?hg (N := 7) ?hd (cs := #[.int .u64 0, .int .u64 0]) (t := 24) ?hr ?_; (case hd => rfl); (case hg => rfl); (case hr => first | (go_simp; done) | (go_simp; rfl)); intro g7 hg7 w7 hbox hb; have B7 := Aside0.mk hbox; have G7 := ge hg7 HB; have N67 := nl hg7 B6; have N37 := nl hg7 B3; have N57 := nl hg7 B5; have N73 := ng hg7 B3; have N75 := ng hg7 B5; replace B3 := bb B3 hb; replace B5 := bb B5 hb; replace B6 := bb B6 hb; replace HB := bh HB hb; clear hb hbox hg7; have n1 := N37.out; have n2 := N57.out; have n3 := N73.out; have n4 := N75.out; have hc3 := zc1 B3; obtain ⟨hc50, hc51⟩ := zc2 B5; obtain ⟨hc70, hc71⟩ := zc2 B7; obtain ⟨hf70, hf71⟩ := zf2 B7)
        | (go_at_call 37; refine (frob_conj.calls a0 (t : Int) a2_0 a2_1 _).mono ?_; rintro e w9 ⟨gl, gt, ga, rfl, hga, hlg, htg, hbl, hbt, hba, hb⟩; clear n1 n2 n3 n4 hc3 hc50 hc51 hc70 hc71 hf70 hf71; have P7 := blk_put (blk_put B7.out 0 (.int .u64 u0) rfl) 1 (.int .u64 u1) rfl; have P3 := blk_far (p := ⟨g7, 1, none⟩) (blk_far (p := ⟨g7, 0, none⟩) B3.out N37.out (.int .u64 u0)) N37.out (.int .u64 u1); have P6 := blk_far (p := ⟨g7, 1, none⟩) (blk_far (p := ⟨g7, 0, none⟩) B6.out N67.out (.int .u64 u0)) N67.out (.int .u64 u1); have N7a := Nat.ne_of_lt (Nat.lt_of_lt_of_le (blk_lt P7) hga); have N6a := Nat.ne_of_lt (Nat.lt_of_lt_of_le (blk_lt P6) hga); have N3a := Nat.ne_of_lt (Nat.lt_of_lt_of_le (blk_lt P3) hga); have GA := Aside0.mk (Nat.le_trans (below_size (below_set (j := 1) (v := .int .u64 u1) (below_set (j := 0) (v := .int .u64 u0) HB.out G7.out) G7.out)) hga); replace B3 := Aside0.mk (blk_below P3 hb); replace B6 := Aside0.mk (blk_below P6 hb); replace B7 := Aside0.mk (blk_below P7 hb); have BL := Aside0.mk hbl; have BT := Aside0.mk hbt; have BA := Aside0.mk hba; replace HB := bh HB hb; clear hb hbl hbt hba P7 P3 P6))
      have hb3 := HB3.out
      have hm := HM.out
      have hxs := HX.out
      have h1 := H1.out
      refine (wpIn_wide (n := 6)).1 ?_
      refine range_on (F := Fence.wide) (α := Int × Int) rfl (by omega) (gf := 52) rfl trivial (enters_of Try.func52 (by kernel_rfl) rfl)
        (frob_conj.gives hsq 5 (by omega) m t a0 (by omega) (by omega) (a2_0, a2_1) xs gl gt ga w9 hlg htg BL.out BT.out BA.out hxs)
        (fun _ => rfl) (fun h1 h2 k hk => (h2 k hk).trans (h1 k hk))
        (fun W l o o' hl hW hc k hk => World.putObj_heap_other (by have := blk_lt BL.out; have := blk_lt BT.out; have := blk_lt BA.out; omega))
        (fun A B k o hs hk hA hc => (hs.block k (blk_lt hA) (by have := blk_lt BA.out; omega)).trans hA)
        (nmI k a0 g3 xs g6 g7 w9.heap.size w (r1, r2))
        (fun pre x b W => ∃ (g8 : Nat) (rest : List (Int × Int)) (o : Int × Int), w9.heap.size ≤ g8 ∧ xs = pre ++ rest ∧ mull k a0 o rest = some (r1, r2) ∧ W.heap[g3]? = some (.cells #[.int .i64 a0] 3 (0, 0)) ∧ W.heap[g7]? = some (.cells #[.int .u64 o.1, .int .u64 o.2] 24 (0, 0)) ∧ W.heap[g6]? = some (.cells #[.int .u64 0, .int .u64 0] 24 (0, 0)) ∧ W.heap[g8]? = some (.cells #[.int .u64 x.1, .int .u64 x.2] 24 (0, 0)) ∧ w9.heap.size ≤ W.heap.size ∧ Below w.heap.size w W ∧
          b = { tmps := #[.int .i64 a0, .int .i64 (t : Int), .agg #[.int .u64 a2_0, .int .u64 a2_1], .pointer (some ⟨g3, 0, none⟩), undef, .pointer (some ⟨g5, 0, none⟩), .pointer (some ⟨g6, 0, none⟩), .pointer (some ⟨g7, 0, none⟩), .pointer (some ⟨g8, 0, none⟩), .int .i64 a0, .int .i64 (t : Int), .agg #[.int .u64 a2_0, .int .u64 a2_1], .bool true, .bool false, undef, .agg #[.int .u64 u0, .int .u64 u1], .int .i64 a0, .int .i64 (t : Int), .agg #[.int .u64 a2_0, .int .u64 a2_1], .func (.func 52) #[] #[.pointer (some ⟨gl, 0, none⟩), .pointer (some ⟨gt, 0, none⟩), .pointer (some ⟨ga, 0, none⟩)], .agg #[.int .u64 x.1, .int .u64 x.2], undef, undef, undef, undef, undef], defers := [] })
        ?is ?ip ?ia ?ap ?h0 ?assign ?body ?done
      case is =>
        rintro s A B ⟨rest, o, hx, ha, h3, h7, h6, hz, hb⟩ hk
        exact ⟨rest, o, hx, ha, (hk.block g3 (blk_lt h3) N3a).trans h3, (hk.block g7 (blk_lt h7) N7a).trans h7, (hk.block g6 (blk_lt h6) N6a).trans h6, Nat.le_trans hz hk.size, Ks1.later hb hk GA.out (Nat.le_refl _)⟩
      case ip =>
        rintro s W l o o' ⟨rest, o2, hx, ha, h3, h7, h6, hz, hb⟩ hl hW hc
        have h69 := blk_lt B6.out
        have h39 := blk_lt B3.out
        have h79 := blk_lt B7.out
        exact ⟨rest, o2, hx, ha, (World.putObj_heap_other (by omega)).trans h3, (World.putObj_heap_other (by omega)).trans h7, (World.putObj_heap_other (by omega)).trans h6, by simpa [World.putObj] using hz, below_putObj hb l o' (by have := below_size HB.out; omega)⟩
      case ia =>
        rintro s W o ⟨rest, o2, hx, ha, h3, h7, h6, hz, hb⟩
        exact ⟨rest, o2, hx, ha, blk_alloc h3 _, blk_alloc h7 _, blk_alloc h6 _, by rw [World.size_alloc]; omega, below_alloc hb _⟩
      case ap =>
        rintro s x b W l o o' ⟨g8, rest, o2, hg8, hx, ha, h3, h7, h6, h8, hz, hb, he⟩ hl hW hc
        have h69 := blk_lt B6.out
        have h39 := blk_lt B3.out
        have h79 := blk_lt B7.out
        have h8l : g8 ≠ l := fun e => by subst e; rw [h8] at hW; cases hW; cases hc
        exact ⟨g8, rest, o2, hg8, hx, ha, (World.putObj_heap_other (by omega)).trans h3, (World.putObj_heap_other (by omega)).trans h7, (World.putObj_heap_other (by omega)).trans h6, (World.putObj_heap_other h8l).trans h8, by simpa [World.putObj] using hz, below_putObj hb l o' (by have := below_size HB.out; omega), he⟩
      case h0 => exact ⟨xs, (u0, u1), rfl, h1, B3.out, B7.out, B6.out, Nat.le_refl _, HB.out⟩
      case assign =>
        rintro l pre x W K ⟨rest, o, hx, ha, h3, h7, h6, hz, hb⟩ hpx hK
        dsimp only [encE]
        gi_wp2
        have bl := blk_lt BL.out
        have bt := blk_lt BT.out
        have ba := blk_lt BA.out
        exact hK _ _ (KeepsOthers.alloc _ _) (fun k hk => Below.heap_alloc W _ k (by omega)) ⟨W.heap.size, rest, o, hz, hx, ha, blk_alloc h3 _, blk_alloc h7 _, blk_alloc h6 _, blk_new _ _, by rw [World.size_alloc]; omega, below_alloc hb _, rfl⟩
      case body =>
        rintro l pre x b W ⟨g8, rest, o, hg8, hx, ha, h3, h7, h6, h8, hz, hb, rfl⟩ ⟨s, hs⟩
        have er : rest = x :: s := by
          have := hs.trans hx
          rw [List.append_assoc, List.append_cancel_left_eq] at this
          exact this.symm
        subst er
        obtain ⟨⟨p0, p1⟩, hp, ha2⟩ := Option.bind_eq_some_iff.mp ha
        have hx2 : xs = pre ++ [x] ++ s := by rw [hx, List.append_assoc, List.singleton_append]
        have HA2 := Aside0.mk ha2
        clear ha ha2 hs hx
        have B3' := Aside0.mk h3
        have B7' := Aside0.mk h7
        have B6' := Aside0.mk h6
        have B8' := Aside0.mk h8
        have HP := Aside0.mk hp
        have HZ := Aside0.mk hz
        have HBW := Aside0.mk hb
        clear h3 h7 h6 h8 hp hz hb
        have hc3 := zc1 B3'
        obtain ⟨hc70, hc71⟩ := zc2 B7'
        obtain ⟨hc80, hc81⟩ := zc2 B8'
        gi_wp2
        refine ⟨trivial, (CallsIn.inRound l (callsIn_wide.2 (tower_Mul.calls _ _ _ _ _ _ _ _ _ HP.out))).mono ?_⟩
        rintro e w2 ⟨rfl, hb2⟩
        clear hc3 hc70 hc71 hc80 hc81
        have C3 := Aside0.mk (blk_below B3'.out hb2)
        have C7 := Aside0.mk (blk_below B7'.out hb2)
        have C6 := Aside0.mk (blk_below B6'.out hb2)
        have HB2 := Aside0.mk hb2
        clear hb2
        obtain ⟨hc70, hc71⟩ := zc2 C7
        obtain ⟨hf70, hf71⟩ := zf2 C7
        gi_wp2
        have n7l : gl ≠ g7 := blk_ne BL.out B7.out (by decide)
        have n7t : gt ≠ g7 := blk_ne BT.out B7.out (by decide)
        refine ⟨(KeepsOthers.trans ⟨HB2.out.size, fun k o hk _ => (HB2.out.block k (blk_lt hk)).trans hk⟩ ((KeepsOthers.setCell _ _ _).trans (KeepsOthers.setCell _ _ _))), ?_, s, (p0, p1), ?_, HA2.out, blk_far (blk_far C3.out N37.out _) N37.out _, blk_put (blk_put C7.out 0 _ rfl) 1 _ rfl, blk_far (blk_far C6.out N67.out _) N67.out _, ?_, below_set (below_set (below_step HBW.out HB2.out) G7.out) G7.out⟩
        · rintro k hk
          have e1 : k ≠ g7 := by rcases hk with rfl | rfl | rfl; exact n7l; exact n7t; exact Ne.symm N7a
          have e2 : k < W.heap.size := by
            have := HZ.out
            have := blk_lt BL.out
            have := blk_lt BT.out
            have := blk_lt BA.out
            rcases hk with rfl | rfl | rfl <;> omega
          exact (Below.heap_setCell _ _ _ k e1).trans ((Below.heap_setCell _ _ _ k e1).trans (HB2.out.block k e2))
        · first | exact hx2 | (rw [List.append_assoc, List.singleton_append])
        · have h1 := (Below.refl 0 w2).setCell (p := ⟨g7, 0, none⟩) (Nat.zero_le _) (.int .u64 p0)
          have h2 := h1.setCell (p := ⟨g7, 1, none⟩) (Nat.zero_le _) (.int .u64 p1)
          exact Nat.le_trans HZ.out (Nat.le_trans HB2.out.size h2.size)
      case done =>
        rintro D W hD ⟨rest, o, hx, ha, h3, h7, h6, hz, hb⟩ hK
        have er : rest = [] := by
          have h2 := congrArg List.length hx
          rw [List.length_append] at h2
          exact List.eq_nil_of_length_eq_zero (by omega)
        subst er
        obtain rfl := Option.some.inj ha
        have B7' := Aside0.mk h7
        have B6' := Aside0.mk h6
        have HBW := Aside0.mk hb
        clear h3 h7 h6 hb hx
        obtain ⟨hc70, hc71⟩ := zc2 B7'
        obtain ⟨hf60, hf61⟩ := zf2 B6'
        obtain ⟨hc60, hc61⟩ := zc2 B6'
        gi_wp2
        go_wp2
        have hg6 := blk_lt B6.out
        have hnD : g6 ≠ D := by omega
        have hKD := ((KeepsOthers.setCell (W.setCell ⟨g6, 0, none⟩ (.int .u64 r1)) ⟨g6, 1, none⟩ (.int .u64 r2)).same D _ ((KeepsOthers.setCell W ⟨g6, 0, none⟩ (.int .u64 r1)).same D _ hK rfl) rfl)
        refine ⟨by simp, .inl ⟨_, _, rfl, run_takeDeferred hKD, ?_⟩⟩
        exact ⟨_, results_cell_row rfl _ _ g6 24 #[.int .u64 r1, .int .u64 r2] (0, 0) _ rfl ((World.putObj_heap_other hnD).trans (blk_put (blk_put B6'.out 0 _ rfl) 1 _ rfl)) hu24 rfl (by kernel_rfl), rfl, below_putObj (below_set (below_set HBW.out G6.out) G6.out) D _ (by have := below_size HB.out; omega)⟩
    · rw [if_neg hb3] at h1
      cases h1
end Go.Proofs.Ytlegcabfgkccmaa.P
