/- The list of the conjugates (frob.Conjugates, slices.Collect, slices.AppendSeq), over any squaring. Conditions: those that each theorem names. -/
import Derived.Test.YtlegcabfgkccmaaHFls
import Derived.Test.YtlegcabfgkccmaaPx3
set_option linter.unusedVariables false
set_option linter.unusedSimpArgs false
namespace Go.Proofs.Ytlegcabfgkccmaa.P
open Go.RowKit Go.Shelf Go.Rc Go.Proofs.YtlegcabfgkccmaaX Go.Proofs.YtlegcabfgkccmaaW.PrintWords Go.Proofs.YtlegcabfgkccmaaW.PrintLast Go.Proofs.YtlegcabfgkccmaaW.PrintMore
attribute [local go_sem] Oper.semAt_some
def cS (x : Int × Int) : S24 := ⟨x.1, x.2⟩
/-- Between two rounds: the list so far. -/
def coI (g2 gl gt ga z : Nat) (lv t : Int) (w0 : World) (pre : List (Int × Int)) (W : World) : Prop :=
  ∃ v : Value, W.heap[g2]? = some (.cells #[v] 48 (0, 0)) ∧ Kd.R k24 24 W w0.heap.size (fun k_ => k_ ≠ ga) v (pre.map cS) ∧ W.heap[gl]? = some (.cells #[.int .i64 lv] 3 (0, 0)) ∧ W.heap[gt]? = some (.cells #[.int .i64 t] 3 (0, 0)) ∧ z ≤ W.heap.size ∧ Below w0.heap.size w0 W
set_option maxHeartbeats 4000000 in
set_option maxRecDepth 100000 in
theorem co_seq {sq : Int → Int → Int → Option (Int × Int)} (hsq : ∀ l a0 a1 r0 r1 w, sq l a0 a1 = some (r0, r1) → Calls Try.prog 45 #[.int .i64 l, .agg #[.int .u64 a0, .int .u64 a1]] w fun e w' => e = .returned (.agg #[.int .u64 r0, .int .u64 r1]) ∧ Below w.heap.size w w')
    (m t : Nat) (lv : Int) (hlv : lv = ((m + t : Nat) : Int)) (hm : m + t ≤ 7) (a : Int × Int) (xs : List (Int × Int)) (gl gt ga : Nat) (w0 w : World) (hlg : gl ≠ ga) (htg : gt ≠ ga)
    (hl : w.heap[gl]? = some (.cells #[.int .i64 lv] 3 (0, 0))) (ht : w.heap[gt]? = some (.cells #[.int .i64 (t : Int)] 3 (0, 0))) (ha : w.heap[ga]? = some (.cells #[.int .u64 a.1, .int .u64 a.2] 24 (0, 0)))
    (h : cj sq lv (2 ^ t) (2 ^ m) a = some xs) (hb0 : Below w0.heap.size w0 w) (hga : w0.heap.size ≤ ga) :
    Calls Try.prog 57 #[.slice none 0 0, .func (.func 52) #[] #[.pointer (some ⟨gl, 0, none⟩), .pointer (some ⟨gt, 0, none⟩), .pointer (some ⟨ga, 0, none⟩)]] w fun e w' => ∃ v : Value, e = .returned v ∧ Kd.R k24 24 w' w0.heap.size (fun _ => True) v (xs.map cS) ∧ Below w0.heap.size w0 w' := by
  have hu24 := Try.underlying24
  have HB := Aside0.mk hb0
  have BL := Aside0.mk hl
  have BT := Aside0.mk ht
  have BA := Aside0.mk ha
  have HX := Aside0.mk h
  have HLV := Aside0.mk hlv
  clear hb0 hl ht ha h hlv
  refine (callsIn_wide (n := 6)).1 ?_
  refine callsIn_of_wp_marks Try.func57 rfl trivial ?_ rfl
  simp only [Try.ntmps57, List.size_toArray, List.length_cons, List.length_nil, Nat.reduceAdd, Nat.reduceSub, Array.replicate_succ, Array.replicate_zero, List.push_toArray, List.append_toArray, List.nil_append, List.cons_append]
  refine wpIn_wide.2 ?_
  go_wp2_with ((with_reducible refine gate_dst (N := 2) rfl ?_); refine box_event ?hg (N := 2) ?hd (cs := #[.slice none 0 0]) (t := 48) ?hr ?_; (case hd => rfl); (case hg => rfl); (case hr => first | (go_simp; done) | (go_simp; rfl)); intro g2 hg2 w2 hbox hb; have B2 := Aside0.mk hbox; have G2 := ge hg2 HB; replace BL := bb BL hb; replace BT := bb BT hb; replace BA := bb BA hb; replace HB := bh HB hb; clear hb hbox hg2)
  have hlg2 : gl ≠ g2 := blk_ne BL.out B2.out (by decide)
  have htg2 : gt ≠ g2 := blk_ne BT.out B2.out (by decide)
  have hag2 : ga ≠ g2 := blk_ne BA.out B2.out (by decide)
  have hxl : xs.length ≤ 128 := by
    rw [cj_len _ _ _ HX.out]
    exact Nat.pow_le_pow_right (by decide) (show m ≤ 7 by omega)
  refine (wpIn_wide (n := 6)).1 ?_
  refine range_on (F := Fence.wide) (α := Int × Int) rfl (by omega) (gf := 52) rfl trivial (enters_of Try.func52 (by kernel_rfl) rfl)
    (frob_conj.gives hsq 5 (by omega) m t lv HLV.out hm a xs gl gt ga w2 hlg htg BL.out BT.out BA.out HX.out)
    (fun _ => rfl) (fun h1 h2 k hk => (h2 k hk).trans (h1 k hk))
    (fun W l o o' hl hW hc k hk => World.putObj_heap_other (by have := blk_lt BL.out; have := blk_lt BT.out; have := blk_lt BA.out; omega))
    (fun A B k o hs hk hA hc => (hs.block k (blk_lt hA) (by have := blk_lt BA.out; omega)).trans hA)
    (coI g2 gl gt ga w2.heap.size lv (t : Int) w0)
    (fun pre x b W => ∃ (g5 : Nat) (v : Value), w2.heap.size ≤ g5 ∧ W.heap[g2]? = some (.cells #[v] 48 (0, 0)) ∧ Kd.R k24 24 W w0.heap.size (fun k_ => k_ ≠ ga) v (pre.map cS) ∧ W.heap[gl]? = some (.cells #[.int .i64 lv] 3 (0, 0)) ∧ W.heap[gt]? = some (.cells #[.int .i64 (t : Int)] 3 (0, 0)) ∧ W.heap[g5]? = some (.cells #[.int .u64 x.1, .int .u64 x.2] 24 (0, 0)) ∧ w2.heap.size ≤ W.heap.size ∧ Below w0.heap.size w0 W ∧
      b = { tmps := #[.slice none 0 0, .func (.func 52) #[] #[.pointer (some ⟨gl, 0, none⟩), .pointer (some ⟨gt, 0, none⟩), .pointer (some ⟨ga, 0, none⟩)], .pointer (some ⟨g2, 0, none⟩), undef, .slice none 0 0, .pointer (some ⟨g5, 0, none⟩), .func (.func 52) #[] #[.pointer (some ⟨gl, 0, none⟩), .pointer (some ⟨gt, 0, none⟩), .pointer (some ⟨ga, 0, none⟩)], .agg #[.int .u64 x.1, .int .u64 x.2], undef, undef, undef, undef, undef], defers := [] })
    ?is ?ip ?ia ?ap ?h0 ?assign ?body ?done
  case is =>
    rintro s A B ⟨v, h2, hR, h3, h4, hz, hb⟩ hk
    exact ⟨v, (hk.block g2 (blk_lt h2) (Ne.symm hag2)).trans h2, Kd.R_step hR (fun k_ ho hlt => hk.block k_ hlt ho), (hk.block gl (blk_lt h3) hlg).trans h3, (hk.block gt (blk_lt h4) htg).trans h4, Nat.le_trans hz hk.size, Ks1.later hb hk hga (Nat.le_refl _)⟩
  case ip =>
    rintro s W l o o' ⟨v, h2, hR, h3, h4, hz, hb⟩ hl hW hc
    have h29 := blk_lt B2.out
    have hl9 := blk_lt BL.out
    have ht9 := blk_lt BT.out
    have hR2 := Kd.R_mono (Kd.R_bound hR) (ok' := fun k_ => k_ ≠ ga ∧ k_ ≠ l) (fun k_ hk => ⟨hk.1, fun e => by
      obtain ⟨q', _, cells, hcl⟩ := hk.2.2.2
      rw [e, hW] at hcl
      cases hcl
      cases hc⟩)
    exact ⟨v, (World.putObj_heap_other (by omega)).trans h2, Kd.R_mono (Kd.R_step hR2 (fun k_ ho hlt => World.putObj_heap_other ho.2)) (fun k_ hk => hk.1), (World.putObj_heap_other (by omega)).trans h3, (World.putObj_heap_other (by omega)).trans h4, by simpa [World.putObj] using hz, below_putObj hb l o' (by have := below_size HB.out; omega)⟩
  case ia =>
    rintro s W o ⟨v, h2, hR, h3, h4, hz, hb⟩
    exact ⟨v, blk_alloc h2 _, Kd.R_alloc hR _, blk_alloc h3 _, blk_alloc h4 _, by rw [World.size_alloc]; omega, below_alloc hb _⟩
  case ap =>
    rintro s x b W l o o' ⟨g5, v, hg5, h2, hR, h3, h4, h5, hz, hb, he⟩ hl hW hc
    have h29 := blk_lt B2.out
    have hl9 := blk_lt BL.out
    have ht9 := blk_lt BT.out
    have h5l : g5 ≠ l := fun e => by subst e; rw [h5] at hW; cases hW; cases hc
    have hR2 := Kd.R_mono (Kd.R_bound hR) (ok' := fun k_ => k_ ≠ ga ∧ k_ ≠ l) (fun k_ hk => ⟨hk.1, fun e => by
      obtain ⟨q', _, cells, hcl⟩ := hk.2.2.2
      rw [e, hW] at hcl
      cases hcl
      cases hc⟩)
    exact ⟨g5, v, hg5, (World.putObj_heap_other (by omega)).trans h2, Kd.R_mono (Kd.R_step hR2 (fun k_ ho hlt => World.putObj_heap_other ho.2)) (fun k_ hk => hk.1), (World.putObj_heap_other (by omega)).trans h3, (World.putObj_heap_other (by omega)).trans h4, (World.putObj_heap_other h5l).trans h5, by simpa [World.putObj] using hz, below_putObj hb l o' (by have := below_size HB.out; omega), he⟩
  case h0 => exact ⟨_, B2.out, Kd.R_nil _ _ _ _ _, BL.out, BT.out, Nat.le_refl _, HB.out⟩
  case assign =>
    rintro l pre x W K ⟨v, h2, hR, h3, h4, hz, hb⟩ hpx hK
    dsimp only [encE]
    gi_wp2
    have bl := blk_lt BL.out
    have bt := blk_lt BT.out
    have ba := blk_lt BA.out
    exact hK _ _ (KeepsOthers.alloc _ _) (fun k hk => Below.heap_alloc W _ k (by omega)) ⟨W.heap.size, v, hz, blk_alloc h2 _, Kd.R_alloc hR _, blk_alloc h3 _, blk_alloc h4 _, blk_new _ _, by rw [World.size_alloc]; omega, below_alloc hb _, rfl⟩
  case body =>
    rintro l pre ⟨c0, c1⟩ b W ⟨g5, v, hg5, h2, hR, h3, h4, h5, hz, hb, rfl⟩ hpx
    have hpl : pre.length ≤ 200 := by
      have := hpx.length_le
      rw [List.length_append, List.length_singleton] at this
      omega
    dsimp only at h5 ⊢
    obtain ⟨A9, c9, e9⟩ := Kd.R_slice hR
    rw [List.length_map] at e9
    subst e9
    have hpm : (pre.map cS).length ≤ 200 := by rw [List.length_map]; exact hpl
    have HPL := Aside0.mk hpm
    have B2' := Aside0.mk h2
    have HR := Aside0.mk hR
    have B5' := Aside0.mk h5
    have BL' := Aside0.mk h3
    have BT' := Aside0.mk h4
    have HBW := Aside0.mk hb
    have HZ := Aside0.mk hz
    clear h2 hR h5 h3 h4 hb hz hpx hpl hpm hxl
    have hc2 := zc1 B2'
    obtain ⟨hc50, hc51⟩ := zc2 B5'
    refine wpIn_block ?_
    refine region_round (by rintro ⟨_, _, h, _⟩; cases h) rfl ?_
    go_wp2_with ((with_reducible refine gate_builtin (b := .append) (xs := #[.tmp 8, .tmp 10]) rfl ?_); at_builtin; refine Kd.R_append k24 (w0 := w0) w0.heap.size rfl (.tmp 8) (.tmp 10) 48 24 (.agg #[(.int .u64 0), (.int .u64 0)]) 16 rfl Try.underlying48 info24 rfl (by decide) (by omega) (.slice A9 pre.length c9) (pre.map cS) (⟨c0, c1⟩ : S24) [.int .u64 c0, .int .u64 c1] (fun k_ => k_ ≠ ga) (fun _ => False) rfl rfl ?aP (fun _ hk => hk.elim) ?aF ?aO ?aB ?aS ?aL ?_; (case aP => exact k24_mkM _ _ _ (⟨c0, c1⟩ : S24)); (case aB => exact HBW.out); (case aF => exact (fun k_ hk => by have := blk_lt BA.out; have := HZ.out; omega)); (case aO => exact HR.out); (case aS => exact (below_size HBW.out)); (case aL => have := HPL.out; omega); intro v9 w9 ho hb hg hat; obtain ⟨A10, c10, e10⟩ := Kd.R_slice ho; subst e10; have HO9 := Aside0.mk ho; have HB9 := Aside0.mk hb; have HG9 := Aside0.mk hg; clear ho hb hg hat; clear hc2 hc50 hc51; have C2 := Aside0.mk (blk_grown B2'.out HG9.out (Kd.R_ne HR.out B2'.out (by decide))); have hc2 := zc1 C2; have hf2 := blk_frozen C2.out 0)
    have bl := blk_lt BL.out
    have bt := blk_lt BT.out
    have ba := blk_lt BA.out
    have hz := HZ.out
    have CL := blk_grown BL'.out HG9.out (Kd.R_ne HR.out BL'.out (by decide))
    have CT := blk_grown BT'.out HG9.out (Kd.R_ne HR.out BT'.out (by decide))
    have kA : w9.heap[ga]? = W.heap[ga]? := HG9.out.block ga (by omega) (Kd.R_away HR.out (fun _ hk => hk))
    have e3 : pre.map cS ++ [(⟨c0, c1⟩ : S24)] = (pre ++ [(c0, c1)]).map cS := by rw [List.map_append]; rfl
    have HO := HO9.out
    have e4 : (pre.map cS ++ [(⟨c0, c1⟩ : S24)]).length = pre.length + 1 := by rw [List.length_append, List.length_map, List.length_singleton]
    rw [e4, e3] at HO
    refine ⟨trivial, (KeepsOthers.of_grownBy HG9.out (fun j o hj ho => ?_)).trans (KeepsOthers.setCell _ _ _), ?_, _, blk_put C2.out 0 _ rfl, Kd.R_set HO C2.out (by decide) 0 _, blk_far CL hlg2 _, blk_far CT htg2 _, ?_, below_set HB9.out G2.out⟩
    · obtain ⟨cells, hcl⟩ := Kd.R_typed HR.out j hj
      rw [ho] at hcl
      cases hcl
      rfl
    · rintro j hj
      rcases hj with rfl | rfl | rfl
      · exact (Below.heap_setCell _ _ _ _ hlg2).trans (CL.trans BL'.out.symm)
      · exact (Below.heap_setCell _ _ _ _ htg2).trans (CT.trans BT'.out.symm)
      · exact (Below.heap_setCell _ _ _ _ hag2).trans kA
    · have h1 := (Below.refl 0 w9).setCell (p := ⟨g2, 0, none⟩) (Nat.zero_le _) (.slice A10 (pre.length + 1) c10)
      exact Nat.le_trans hz (Nat.le_trans HG9.out.size h1.size)
  case done =>
    rintro D W hD ⟨v, h2, hR, h3, h4, hz, hb⟩ hK
    have B2' := Aside0.mk h2
    have HR := Aside0.mk hR
    have HBW := Aside0.mk hb
    have HK := Aside0.mk hK
    have HD := Aside0.mk hD
    have HSZ := Aside0.mk (below_size HB.out)
    clear h2 hR h3 h4 hz hb hK hD hxl
    have hc2 := zc1 B2'
    gi_wp2
    go_wp2
    refine ⟨by simp, .inl ⟨_, _, rfl, run_takeDeferred HK.out, ?_⟩⟩
    have hK := HK.out
    have hR2 := Kd.R_mono (Kd.R_bound HR.out) (ok' := fun k_ => k_ ≠ D) (fun k_ hk => fun e => by
      obtain ⟨q', _, cells, hcl⟩ := hk.2.2.2
      rw [e, hK] at hcl
      cases hcl)
    exact ⟨_, results_tmp rfl _ _ _, _, rfl, Kd.R_mono (Kd.R_step hR2 (fun k_ ho _ => World.putObj_heap_other ho)) (fun _ _ => trivial), below_putObj HBW.out D _ (by have := HD.out; have := HSZ.out; omega)⟩
def frob_co (sq : Int → Int → Int → Option (Int × Int)) (k : Nat) (a0 a1 a2_0 a2_1 : Int) : Option (List S24) :=
  (frob_fits.f k a0 a1 a2_0 a2_1).bind fun t => if t = true then (if 0 ≤ a1 ∧ a1 ≤ a0 ∧ a0 ≤ 7 then (cj sq a0 (2 ^ a1.toNat) (2 ^ (a0 - a1).toNat) (a2_0, a2_1)).bind fun l => some (l.map cS) else none) else some []
set_option maxHeartbeats 4000000 in
theorem co_collect {sq : Int → Int → Int → Option (Int × Int)} (hsq : ∀ l a0 a1 r0 r1 w, sq l a0 a1 = some (r0, r1) → Calls Try.prog 45 #[.int .i64 l, .agg #[.int .u64 a0, .int .u64 a1]] w fun e w' => e = .returned (.agg #[.int .u64 r0, .int .u64 r1]) ∧ Below w.heap.size w w')
    (m t : Nat) (lv : Int) (hlv : lv = ((m + t : Nat) : Int)) (hm : m + t ≤ 7) (a : Int × Int) (xs : List (Int × Int)) (gl gt ga : Nat) (w0 w : World) (hlg : gl ≠ ga) (htg : gt ≠ ga)
    (hl : w.heap[gl]? = some (.cells #[.int .i64 lv] 3 (0, 0))) (ht : w.heap[gt]? = some (.cells #[.int .i64 (t : Int)] 3 (0, 0))) (ha : w.heap[ga]? = some (.cells #[.int .u64 a.1, .int .u64 a.2] 24 (0, 0)))
    (h : cj sq lv (2 ^ t) (2 ^ m) a = some xs) (hb0 : Below w0.heap.size w0 w) (hga : w0.heap.size ≤ ga) :
    Calls Try.prog 46 #[.func (.func 52) #[] #[.pointer (some ⟨gl, 0, none⟩), .pointer (some ⟨gt, 0, none⟩), .pointer (some ⟨ga, 0, none⟩)]] w fun e w' => ∃ v : Value, e = .returned v ∧ Kd.R k24 24 w' w0.heap.size (fun _ => True) v (xs.map cS) ∧ Below w0.heap.size w0 w' := by
  have HC := Aside0.mk (co_seq hsq m t lv hlv hm a xs gl gt ga w0 w hlg htg hl ht ha h hb0 hga)
  clear hlv hl ht ha h hb0
  go_enter Try.func46, Try.ntmps46
  go_wp2_with (go_at_call 57; refine HC.out.mono ?_; rintro e w' ⟨v, rfl, hR, hb⟩; have HR := Aside0.mk hR; have HB := Aside0.mk hb; clear hR hb)
  go_ret
  exact ⟨_, rfl, HR.out, HB.out⟩
set_option maxHeartbeats 4000000 in
theorem frob_co.calls {sq : Int → Int → Int → Option (Int × Int)} (hsq : ∀ l a0 a1 r0 r1 w, sq l a0 a1 = some (r0, r1) → Calls Try.prog 45 #[.int .i64 l, .agg #[.int .u64 a0, .int .u64 a1]] w fun e w' => e = .returned (.agg #[.int .u64 r0, .int .u64 r1]) ∧ Below w.heap.size w w')
    (k : Nat) (a0 a1 a2_0 a2_1 : Int) (r : List S24) (w : World) (h : frob_co sq k a0 a1 a2_0 a2_1 = some r) :
    Calls Try.prog 27 #[.int .i64 a0, .int .i64 a1, .agg #[.int .u64 a2_0, .int .u64 a2_1]] w fun e w' => ∃ v : Value, e = .returned v ∧ Kd.R k24 24 w' w.heap.size (fun _ => True) v r ∧ Below w.heap.size w w' := by
  have hu24 := Try.underlying24
  have HB := Aside0.mk (Below.refl w.heap.size w)
  unfold frob_co at h
  obtain ⟨tf, hf, h⟩ := Option.bind_eq_some_iff.mp h
  have HF := Aside0.mk hf
  clear hf
  cases tf
  · rw [if_neg (by decide)] at h
    obtain rfl := Option.some.inj h
    clear h
    go_enter Try.func27, Try.ntmps27
    go_wp2_with (first
      | ((with_reducible refine gate_dst (N := 5) rfl ?_); refine box_event ?hg (N := 5) ?hd (cs := #[.int .u64 a2_0, .int .u64 a2_1]) (t := 24) ?hr ?_; (case hd => rfl); (case hg => rfl); (case hr => first | (go_simp; done) | (go_simp; rfl)); intro g5 hg5 w5 hbox hb; have B5 := Aside0.mk hbox; replace HB := bh HB hb; clear hb hbox hg5; obtain ⟨hc50, hc51⟩ := zc2 B5)
      | (go_at_call 36; refine (frob_fits.calls k a0 a1 a2_0 a2_1 _ _ HF.out).mono ?_; rintro e w8 ⟨rfl, hb⟩; replace HB := bh HB hb; clear hb; clear hc50 hc51))
    go_ret
    exact ⟨_, rfl, Kd.R_nil _ _ _ _ _, HB.out⟩
  · rw [if_pos rfl] at h
    by_cases hb3 : 0 ≤ a1 ∧ a1 ≤ a0 ∧ a0 ≤ 7
    · rw [if_pos hb3] at h
      obtain ⟨xs, hxs, h⟩ := Option.bind_eq_some_iff.mp h
      obtain rfl := Option.some.inj h
      obtain ⟨t, rfl⟩ := Int.eq_ofNat_of_zero_le hb3.1
      obtain ⟨m, hm⟩ := Int.eq_ofNat_of_zero_le (show 0 ≤ a0 - (t : Int) by omega)
      rw [hm, Int.toNat_natCast, Int.toNat_natCast] at hxs
      have h1 : a0 = ((m + t : Nat) : Int) := by omega
      have h2 : m + t ≤ 7 := by omega
      have HX := Aside0.mk hxs
      have H1 := Aside0.mk h1
      have H2 := Aside0.mk h2
      clear hxs h1 h2 h hb3 hm
      go_enter Try.func27, Try.ntmps27
      go_wp2_with (first
        | ((with_reducible refine gate_dst (N := 5) rfl ?_); refine box_event ?hg (N := 5) ?hd (cs := #[.int .u64 a2_0, .int .u64 a2_1]) (t := 24) ?hr ?_; (case hd => rfl); (case hg => rfl); (case hr => first | (go_simp; done) | (go_simp; rfl)); intro g5 hg5 w5 hbox hb; have B5 := Aside0.mk hbox; replace HB := bh HB hb; clear hb hbox hg5; obtain ⟨hc50, hc51⟩ := zc2 B5)
        | (go_at_call 36; refine (frob_fits.calls k a0 t a2_0 a2_1 _ _ HF.out).mono ?_; rintro e w8 ⟨rfl, hb⟩; replace B5 := bb B5 hb; replace HB := bh HB hb; clear hb; clear hc50 hc51; obtain ⟨hc50, hc51⟩ := zc2 B5)
        | (go_at_call 37; refine (frob_conj.calls a0 t a2_0 a2_1 _).mono ?_; rintro e w9 ⟨gl, gt, ga, rfl, hga, hlg, htg, hbl, hbt, hba, hb⟩; have GA := Aside0.mk (Nat.le_trans (below_size HB.out) hga); have BL := Aside0.mk hbl; have BT := Aside0.mk hbt; have BA := Aside0.mk hba; have NL := Aside0.mk hlg; have NT := Aside0.mk htg; replace HB := bh HB hb; clear hb hga hlg htg hbl hbt hba; clear hc50 hc51)
        | (go_at_call 46; refine (co_collect hsq m t a0 H1.out H2.out (a2_0, a2_1) xs gl gt ga w _ NL.out NT.out BL.out BT.out BA.out HX.out HB.out GA.out).mono ?_; rintro e w10 ⟨v, rfl, hR, hb⟩; have HR := Aside0.mk hR; have HE := Aside0.mk hb; clear hR hb))
      go_ret
      exact ⟨_, rfl, HR.out, HE.out⟩
    · rw [if_neg hb3] at h
      cases h
end Go.Proofs.Ytlegcabfgkccmaa.P
