/- The sum of the conjugates that come (frob.Trace), over any squaring. Conditions: those that each theorem names. -/
import Derived.Test.YtlegcabfgkccmaaHFcj
import Derived.Test.YtlegcabfgkccmaaPx3
set_option linter.unusedVariables false
set_option linter.unusedSimpArgs false
namespace Go.Proofs.Ytlegcabfgkccmaa.P
open Go.RowKit Go.Shelf Go.Rc Go.Proofs.YtlegcabfgkccmaaX Go.Proofs.YtlegcabfgkccmaaW.PrintWords Go.Proofs.YtlegcabfgkccmaaW.PrintLast Go.Proofs.YtlegcabfgkccmaaW.PrintMore
attribute [local go_sem] Oper.semAt_some
theorem sqs_mono {sq sq' : Int → Int → Int → Option (Int × Int)} (h : ∀ l a b, LeO (sq l a b) (sq' l a b)) (lv : Int) : ∀ m a, LeO (sqs sq lv m a) (sqs sq' lv m a)
  | 0, _ => LeO.refl _
  | m + 1, a => LeO.bind (h _ _ _) (fun b => sqs_mono h lv m b)
theorem cj_mono {sq sq' : Int → Int → Int → Option (Int × Int)} (h : ∀ l a b, LeO (sq l a b) (sq' l a b)) (lv : Int) (t : Nat) : ∀ n a, LeO (cj sq lv t n a) (cj sq' lv t n a)
  | 0, _ => LeO.refl _
  | n + 1, a => LeO.bind (sqs_mono h lv t a) (fun b => LeO.bind (cj_mono h lv t n b) (fun _ => LeO.refl _))
theorem below_putObj {n₀ : Nat} {w W : World} (hb : Below n₀ w W) (l : Nat) (o' : Obj) (hn : n₀ ≤ l) : Below n₀ w (W.putObj l o') :=
  ⟨hb.os, hb.tape, hb.output, by simpa [World.putObj] using hb.size, fun k hk => (World.putObj_heap_other (by omega)).trans (hb.block k hk)⟩
theorem Ks1.later {g n₀ : Nat} {w A B : World} (hb : Below n₀ w A) (hk : Ks1 g A B) (hg : n₀ ≤ g) (hw : n₀ ≤ w.heap.size) : Below n₀ w B :=
  ⟨hk.os.trans hb.os, hk.tape.trans hb.tape, hk.output.trans hb.output, Nat.le_trans hb.size hk.size, fun k h => (hk.block k (by have := hb.size; omega) (by omega)).trans (hb.block k h)⟩
def addl : Int × Int → List (Int × Int) → Option (Int × Int)
  | o, [] => some o
  | o, x :: l => (tower_Add.f o.1 o.2 x.1 x.2).bind fun o => addl o l
def frob_tr (sq : Int → Int → Int → Option (Int × Int)) (k : Nat) (a0 a1 a2_0 a2_1 : Int) : Option (Int × Int) :=
  (frob_fits.f k a0 a1 a2_0 a2_1).bind fun t => if t = true then (if 0 ≤ a1 ∧ a1 ≤ a0 ∧ a0 ≤ 7 then (cj sq a0 (2 ^ a1.toNat) (2 ^ (a0 - a1).toNat) (a2_0, a2_1)).bind fun l => addl (0, 0) l else none) else some (0, 0)
/-- Between two rounds: what has come, and the sum so far. -/
def trI (xs : List (Int × Int)) (g6 g7 z : Nat) (w : World) (r : Int × Int) (pre : List (Int × Int)) (W : World) : Prop :=
  ∃ (rest : List (Int × Int)) (o : Int × Int), xs = pre ++ rest ∧ addl o rest = some r ∧ W.heap[g7]? = some (.cells #[.int .u64 o.1, .int .u64 o.2] 24 (0, 0)) ∧ W.heap[g6]? = some (.cells #[.int .u64 0, .int .u64 0] 24 (0, 0)) ∧ z ≤ W.heap.size ∧ Below w.heap.size w W
set_option maxHeartbeats 4000000 in
set_option maxRecDepth 100000 in
theorem frob_tr.calls {sq : Int → Int → Int → Option (Int × Int)} (hsq : ∀ l a0 a1 r0 r1 w, sq l a0 a1 = some (r0, r1) → Calls Try.prog 45 #[.int .i64 l, .agg #[.int .u64 a0, .int .u64 a1]] w fun e w' => e = .returned (.agg #[.int .u64 r0, .int .u64 r1]) ∧ Below w.heap.size w w')
    (k : Nat) (a0 a1 a2_0 a2_1 r1 r2 : Int) (w : World) (h : frob_tr sq k a0 a1 a2_0 a2_1 = some (r1, r2)) :
    Calls Try.prog 11 #[.int .i64 a0, .int .i64 a1, .agg #[.int .u64 a2_0, .int .u64 a2_1]] w fun e w' => e = .returned (.agg #[.int .u64 r1, .int .u64 r2]) ∧ Below w.heap.size w w' := by
  have hu24 := Try.underlying24
  have HB := Aside0.mk (Below.refl w.heap.size w)
  unfold frob_tr at h
  obtain ⟨tf, hf, h⟩ := Option.bind_eq_some_iff.mp h
  have HF := Aside0.mk hf
  clear hf
  have H := Aside0.mk h
  clear h
  cases tf
  all_goals refine (callsIn_wide (n := 6)).1 ?_
  all_goals refine callsIn_of_wp_marks Try.func11 rfl trivial ?_ rfl
  all_goals simp only [Try.ntmps11, List.size_toArray, List.length_cons, List.length_nil, Nat.reduceAdd, Nat.reduceSub, Array.replicate_succ, Array.replicate_zero, List.push_toArray, List.append_toArray, List.nil_append, List.cons_append]
  all_goals refine wpIn_wide.2 ?_
  all_goals go_wp2_with (first
    | ((with_reducible refine gate_dst (N := 5) rfl ?_); refine box_event ?hg (N := 5) ?hd (cs := #[.int .u64 a2_0, .int .u64 a2_1]) (t := 24) ?hr ?_; (case hd => rfl); (case hg => rfl); (case hr => first | (go_simp; done) | (go_simp; rfl)); intro g5 hg5 w5 hbox hb; have B5 := Aside0.mk hbox; replace HB := bh HB hb; clear hb hbox hg5)
    | ((with_reducible refine gate_dst (N := 6) rfl ?_); refine box_event ?hg (N := 6) ?hd (cs := #[.int .u64 0, .int .u64 0]) (t := 24) ?hr ?_; (case hd => rfl); (case hg => rfl); (case hr => first | (go_simp; done) | (go_simp; rfl)); intro g6 hg6 w6 hbox hb; have B6 := Aside0.mk hbox; have G6 := ge hg6 HB; replace B5 := bb B5 hb; replace HB := bh HB hb; clear hb hbox hg6)
    | ((with_reducible refine gate_dst (N := 7) rfl ?_); refine box_event ?hg (N := 7) ?hd (cs := #[.int .u64 0, .int .u64 0]) (t := 24) ?hr ?_; (case hd => rfl); (case hg => rfl); (case hr => first | (go_simp; done) | (go_simp; rfl)); intro g7 hg7 w7 hbox hb; have B7 := Aside0.mk hbox; have G7 := ge hg7 HB; have N76 := ng hg7 B6; have N67 := nl hg7 B6; replace B5 := bb B5 hb; replace B6 := bb B6 hb; replace HB := bh HB hb; clear hb hbox hg7; have hcz := zc2 B5)
    | (go_at_call 36; refine (frob_fits.calls k a0 a1 a2_0 a2_1 _ _ HF.out).mono ?_; rintro e w8 ⟨rfl, hb⟩; replace B5 := bb B5 hb; replace B6 := bb B6 hb; replace B7 := bb B7 hb; replace HB := bh HB hb; clear hb; clear HF; obtain ⟨hc50, hc51⟩ := zc2 B5; obtain ⟨hc70, hc71⟩ := zc2 B7; obtain ⟨hc60, hc61⟩ := zc2 B6; obtain ⟨hf60, hf61⟩ := zf2 B6)
    | (go_at_call 37; refine (frob_conj.calls a0 a1 a2_0 a2_1 _).mono ?_; rintro e w9 ⟨gl, gt, ga, rfl, hga, hlg, htg, hbl, hbt, hba, hb⟩; have N7a := Nat.ne_of_lt (Nat.lt_of_lt_of_le (blk_lt B7.out) hga); have N6a := Nat.ne_of_lt (Nat.lt_of_lt_of_le (blk_lt B6.out) hga); replace B6 := bb B6 hb; replace B7 := bb B7 hb; have GA := Aside0.mk (Nat.le_trans (below_size HB.out) hga); have BL := Aside0.mk hbl; have BT := Aside0.mk hbt; have BA := Aside0.mk hba; replace HB := bh HB hb; clear hb hbl hbt hba hc50 hc51 hc70 hc71 hc60 hc61 hf60 hf61))
  · have h1 := H.out
    rw [if_neg (by decide)] at h1
    simp only [Option.some.injEq, Prod.mk.injEq] at h1
    obtain ⟨rfl, rfl⟩ := h1
    exact ⟨_, results_cell_row rfl _ _ g6 24 #[.int .u64 0, .int .u64 0] (0, 0) _ rfl (blk_put (blk_put B6.out 0 _ rfl) 1 _ rfl) hu24 rfl (by kernel_rfl), rfl, below_set (below_set HB.out G6.out) G6.out⟩
  · have h1 := H.out
    rw [if_pos trivial] at h1
    by_cases hb3 : 0 ≤ a1 ∧ a1 ≤ a0 ∧ a0 ≤ 7
    · rw [if_pos hb3] at h1
      obtain ⟨t, rfl⟩ := Int.eq_ofNat_of_zero_le hb3.1
      obtain ⟨m, hm⟩ := Int.eq_ofNat_of_zero_le (show 0 ≤ a0 - (t : Int) by omega)
      rw [hm, Int.toNat_natCast, Int.toNat_natCast] at h1
      obtain ⟨xs, hxs, h1⟩ := Option.bind_eq_some_iff.mp h1
      have hsz : g7 < w9.heap.size := blk_lt B7.out
      refine (wpIn_wide (n := 6)).1 ?_
      refine range_on (F := Fence.wide) (α := Int × Int) rfl (by omega) (gf := 52) rfl trivial (enters_of Try.func52 (by kernel_rfl) rfl)
        (frob_conj.gives hsq 5 (by omega) m t a0 (by omega) (by omega) (a2_0, a2_1) xs gl gt ga w9 hlg htg BL.out BT.out BA.out hxs)
        (fun _ => rfl) (fun h1 h2 k hk => (h2 k hk).trans (h1 k hk))
        (fun W l o o' hl hW hc k hk => World.putObj_heap_other (by have := blk_lt BL.out; have := blk_lt BT.out; have := blk_lt BA.out; omega))
        (fun A B k o hs hk hA hc => (hs.block k (blk_lt hA) (by have := blk_lt BA.out; omega)).trans hA)
        (trI xs g6 g7 w9.heap.size w (r1, r2))
        (fun pre x b W => ∃ (g8 : Nat) (rest : List (Int × Int)) (o : Int × Int), w9.heap.size ≤ g8 ∧ xs = pre ++ rest ∧ addl o rest = some (r1, r2) ∧ W.heap[g7]? = some (.cells #[.int .u64 o.1, .int .u64 o.2] 24 (0, 0)) ∧ W.heap[g6]? = some (.cells #[.int .u64 0, .int .u64 0] 24 (0, 0)) ∧ W.heap[g8]? = some (.cells #[.int .u64 x.1, .int .u64 x.2] 24 (0, 0)) ∧ w9.heap.size ≤ W.heap.size ∧ Below w.heap.size w W ∧
          b = { tmps := #[.int .i64 a0, .int .i64 (t : Int), .agg #[.int .u64 a2_0, .int .u64 a2_1], undef, undef, .pointer (some ⟨g5, 0, none⟩), .pointer (some ⟨g6, 0, none⟩), .pointer (some ⟨g7, 0, none⟩), .pointer (some ⟨g8, 0, none⟩), .int .i64 a0, .int .i64 (t : Int), .agg #[.int .u64 a2_0, .int .u64 a2_1], .bool true, .bool false, undef, .int .i64 a0, .int .i64 (t : Int), .agg #[.int .u64 a2_0, .int .u64 a2_1], .func (.func 52) #[] #[.pointer (some ⟨gl, 0, none⟩), .pointer (some ⟨gt, 0, none⟩), .pointer (some ⟨ga, 0, none⟩)], .agg #[.int .u64 x.1, .int .u64 x.2], undef, undef, undef, undef], defers := [] })
        ?is ?ip ?ia ?ap ?h0 ?assign ?body ?done
      case is =>
        rintro s A B ⟨rest, o, hx, ha, h7, h6, hz, hb⟩ hk
        exact ⟨rest, o, hx, ha, (hk.block g7 (blk_lt h7) N7a).trans h7, (hk.block g6 (blk_lt h6) N6a).trans h6, Nat.le_trans hz hk.size, Ks1.later hb hk GA.out (Nat.le_refl _)⟩
      case ip =>
        rintro s W l o o' ⟨rest, o2, hx, ha, h7, h6, hz, hb⟩ hl hW hc
        have h69 := blk_lt B6.out
        exact ⟨rest, o2, hx, ha, (World.putObj_heap_other (by omega)).trans h7, (World.putObj_heap_other (by omega)).trans h6, by simpa [World.putObj] using hz, below_putObj hb l o' (by have := below_size HB.out; omega)⟩
      case ia =>
        rintro s W o ⟨rest, o2, hx, ha, h7, h6, hz, hb⟩
        exact ⟨rest, o2, hx, ha, blk_alloc h7 _, blk_alloc h6 _, by rw [World.size_alloc]; omega, below_alloc hb _⟩
      case ap =>
        rintro s x b W l o o' ⟨g8, rest, o2, hg8, hx, ha, h7, h6, h8, hz, hb, he⟩ hl hW hc
        have h69 := blk_lt B6.out
        have h8l : g8 ≠ l := fun e => by subst e; rw [h8] at hW; cases hW; cases hc
        exact ⟨g8, rest, o2, hg8, hx, ha, (World.putObj_heap_other (by omega)).trans h7, (World.putObj_heap_other (by omega)).trans h6, (World.putObj_heap_other h8l).trans h8, by simpa [World.putObj] using hz, below_putObj hb l o' (by have := below_size HB.out; omega), he⟩
      case h0 => exact ⟨xs, (0, 0), rfl, h1, B7.out, B6.out, Nat.le_refl _, HB.out⟩
      case assign =>
        rintro l pre x W K ⟨rest, o, hx, ha, h7, h6, hz, hb⟩ hpx hK
        dsimp only [encE]
        gi_wp2
        have bl := blk_lt BL.out
        have bt := blk_lt BT.out
        have ba := blk_lt BA.out
        exact hK _ _ (KeepsOthers.alloc _ _) (fun k hk => Below.heap_alloc W _ k (by omega)) ⟨W.heap.size, rest, o, hz, hx, ha, blk_alloc h7 _, blk_alloc h6 _, blk_new _ _, by rw [World.size_alloc]; omega, below_alloc hb _, rfl⟩
      case body =>
        rintro l pre x b W ⟨g8, rest, o, hg8, hx, ha, h7, h6, h8, hz, hb, rfl⟩ ⟨s, hs⟩
        have er : rest = x :: s := by
          have := hs.trans hx
          rw [List.append_assoc, List.append_cancel_left_eq] at this
          exact this.symm
        subst er
        obtain ⟨⟨p0, p1⟩, hp, ha2⟩ := Option.bind_eq_some_iff.mp ha
        have hx2 : xs = pre ++ [x] ++ s := by rw [hx, List.append_assoc, List.singleton_append]
        have HA2 := Aside0.mk ha2
        clear ha ha2 hs hx
        have B7' := Aside0.mk h7
        have B6' := Aside0.mk h6
        have B8' := Aside0.mk h8
        have HP := Aside0.mk hp
        have HZ := Aside0.mk hz
        have HBW := Aside0.mk hb
        clear h7 h6 h8 hp hz hb
        obtain ⟨hc70, hc71⟩ := zc2 B7'
        obtain ⟨hc80, hc81⟩ := zc2 B8'
        gi_wp2
        refine ⟨trivial, (CallsIn.inRound l (callsIn_wide.2 (tower_Add.calls _ _ _ _ _ _ _ HP.out))).mono ?_⟩
        rintro e w2 ⟨rfl, hb2⟩
        clear hc70 hc71 hc80 hc81
        have C7 := Aside0.mk (blk_below B7'.out hb2)
        have C6 := Aside0.mk (blk_below B6'.out hb2)
        have HB2 := Aside0.mk hb2
        clear hb2
        obtain ⟨hc70, hc71⟩ := zc2 C7
        obtain ⟨hf70, hf71⟩ := zf2 C7
        gi_wp2
        have n7l : gl ≠ g7 := blk_ne BL.out B7.out (by decide)
        have n7t : gt ≠ g7 := blk_ne BT.out B7.out (by decide)
        refine ⟨(KeepsOthers.trans ⟨HB2.out.size, fun k o hk _ => (HB2.out.block k (blk_lt hk)).trans hk⟩ ((KeepsOthers.setCell _ _ _).trans (KeepsOthers.setCell _ _ _))), ?_, s, (p0, p1), ?_, HA2.out, blk_put (blk_put C7.out 0 _ rfl) 1 _ rfl, blk_far (blk_far C6.out N67.out _) N67.out _, ?_, below_set (below_set (below_step HBW.out HB2.out) G7.out) G7.out⟩
        · rintro k hk
          have e1 : k ≠ g7 := by rcases hk with rfl | rfl | rfl; exact n7l; exact n7t; exact Ne.symm N7a
          have e2 : k < W.heap.size := by
            have := HZ.out
            have := blk_lt BL.out
            have := blk_lt BT.out
            have := blk_lt BA.out
            rcases hk with rfl | rfl | rfl <;> omega
          exact (Below.heap_setCell _ _ _ k e1).trans ((Below.heap_setCell _ _ _ k e1).trans (HB2.out.block k e2))
        · first | exact hx2 | (rw [List.append_assoc, List.singleton_append])
        · have h1 := (Below.refl 0 w2).setCell (p := ⟨g7, 0, none⟩) (Nat.zero_le _) (.int .u64 p0)
          have h2 := h1.setCell (p := ⟨g7, 1, none⟩) (Nat.zero_le _) (.int .u64 p1)
          exact Nat.le_trans HZ.out (Nat.le_trans HB2.out.size h2.size)
      case done =>
        rintro D W hD ⟨rest, o, hx, ha, h7, h6, hz, hb⟩ hK
        have er : rest = [] := by
          have h2 := congrArg List.length hx
          rw [List.length_append] at h2
          exact List.eq_nil_of_length_eq_zero (by omega)
        subst er
        obtain rfl := Option.some.inj ha
        have B7' := Aside0.mk h7
        have B6' := Aside0.mk h6
        have HBW := Aside0.mk hb
        clear h7 h6 hb hx
        obtain ⟨hc70, hc71⟩ := zc2 B7'
        obtain ⟨hf60, hf61⟩ := zf2 B6'
        obtain ⟨hc60, hc61⟩ := zc2 B6'
        gi_wp2
        go_wp2
        have hg6 := blk_lt B6.out
        have hnD : g6 ≠ D := by omega
        have hKD := ((KeepsOthers.setCell (W.setCell ⟨g6, 0, none⟩ (.int .u64 r1)) ⟨g6, 1, none⟩ (.int .u64 r2)).same D _ ((KeepsOthers.setCell W ⟨g6, 0, none⟩ (.int .u64 r1)).same D _ hK rfl) rfl)
        refine ⟨by simp, .inl ⟨_, _, rfl, run_takeDeferred hKD, ?_⟩⟩
        exact ⟨_, results_cell_row rfl _ _ g6 24 #[.int .u64 r1, .int .u64 r2] (0, 0) _ rfl ((World.putObj_heap_other hnD).trans (blk_put (blk_put B6'.out 0 _ rfl) 1 _ rfl)) hu24 rfl (by kernel_rfl), rfl, below_putObj (below_set (below_set HBW.out G6.out) G6.out) D _ (by have := below_size HB.out; omega)⟩
    · rw [if_neg hb3] at h1
      cases h1
end Go.Proofs.Ytlegcabfgkccmaa.P
