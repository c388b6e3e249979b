/- The least polynomial of an element (frob.Least), over any squaring. Conditions: those that each theorem names. -/
import Derived.Test.YtlegcabfgkccmaaHFtr
import Derived.Test.YtlegcabfgkccmaaHRound
import Derived.Test.YtlegcabfgkccmaaPx1
import Derived.Test.YtlegcabfgkccmaaPx3
import Derived.Test.YtlegcabfgkccmaaPx4
import Derived.Test.YtlegcabfgkccmaaPx5
set_option linter.unusedVariables false
set_option linter.unusedSimpArgs false
namespace Go.Proofs.Ytlegcabfgkccmaa.P
open Go.RowKit Go.Shelf Go.Rc Go.Proofs.YtlegcabfgkccmaaX Go.Proofs.YtlegcabfgkccmaaW.PrintWords Go.Proofs.YtlegcabfgkccmaaW.PrintLast Go.Proofs.YtlegcabfgkccmaaW.PrintMore
attribute [local go_sem] Oper.semAt_some
attribute [local go_sem high] eqA24
theorem wp_only {P : Program} {c : Code} {Q : Exit → Act → World → Prop} {a : Act} {w : World} (h : c.wp P (Exit.then (fun a w => Q .normal a w) (fun _ _ _ => False)) a w) : c.wp P Q a w := by
  refine wp_mono h ?_
  intro e a w q
  cases e with
  | normal => exact q
  | _ => exact q.elim
/-- One conjugate's factor, multiplied in. -/
def ls_in : Nat → Int → List (S24) → List (S24) → Int → Int → Int → Int → Option (List (S24))
 | 0, _, _, _, _, _, _, _ => none
 | k + 1, x2, x7, x28, x29, x30, x144000, x144001 => if x30 < x29 then (if 0 ≤ x30 then (if x30 < (x28.length : Int) then (if x30 < (x7.length : Int) then ((tower_Mul.f k x2 x144000 x144001 ((rd_T24 x28 x30).f0) ((rd_T24 x28 x30).f1)).bind fun bt150 => ((tower_Add.f ((rd_T24 x7 x30).f0) ((rd_T24 x7 x30).f1) bt150.1 bt150.2).bind fun bt152 => ((some (x7.set (x30 : Int).toNat (⟨bt152.1, bt152.2⟩ : S24) : List (S24))).bind fun y154 => (if 0 ≤ (wrap64 (x30 + 1)) then (if (wrap64 (x30 + 1)) < (x7.length : Int) then ((tower_Add.f ((rd_T24 y154 (wrap64 (x30 + 1))).f0) ((rd_T24 y154 (wrap64 (x30 + 1))).f1) ((rd_T24 x28 x30).f0) ((rd_T24 x28 x30).f1)).bind fun bt156 => (ls_in k x2 (y154.set ((wrap64 (x30 + 1)) : Int).toNat (⟨bt156.1, bt156.2⟩ : S24)) x28 x29 (wrap64 (x30 + 1)) x144000 x144001)) else (none)) else (none))))) else (none)) else (none)) else (none)) else (some x7)
/-- Which coefficients are not nought. -/
def ls_out : Nat → List Bool → List (S24) → Int → Int → Option (List Bool)
 | 0, _, _, _, _ => none
 | k + 1, x10, x60, x61, x62 => if x62 < x61 then (if 0 ≤ x62 then (if x62 < (x60.length : Int) then (if x10.length < 140737488355328 then (ls_out k (x10 ++ [(!(((rd_T24 x60 x62).f0) == 0) || (!(((rd_T24 x60 x62).f1) == 0)))]) x60 x61 (wrap64 (x62 + 1))) else (none)) else (none)) else (none)) else (some x10)
/-- All conjugates' factors. -/
def ls_all (k : Nat) (a0 : Int) : List S24 → List (Int × Int) → Option (List S24)
  | p, [] => some p
  | p, c :: l => (ls_in k a0 (List.replicate (p.length + 1) z24) p (p.length : Int) 0 c.1 c.2).bind fun q => ls_all k a0 q l
def frob_ls (sq : Int → Int → Int → Option (Int × Int)) (k : Nat) (a0 x0 x1 : Int) : Option (List Bool) :=
  (octet_Of.f k a0 x0 x1).bind fun t => if t = true then tower_One.f.bind fun o => (tower_Level.f k x0 x1).bind fun lv => (if 0 ≤ lv ∧ lv ≤ 7 then (cj sq lv 1 (2 ^ lv.toNat) (x0, x1)).bind fun l => (ls_all k a0 [⟨o.1, o.2⟩] l).bind fun p => ls_out k [] p (p.length : Int) 0 else none) else some []
/-- Between two rounds: what has come, and the coefficients so far. -/
def lsI (k : Nat) (a0 : Int) (g2 g3 g5 ga : Nat) (xs : List (Int × Int)) (z : Nat) (w : World) (p : List S24) (pre : List (Int × Int)) (W : World) : Prop :=
  ∃ (rest : List (Int × Int)) (q : List S24) (v : Value), xs = pre ++ rest ∧ ls_all k a0 q rest = some p ∧ q.length = pre.length + 1 ∧ W.heap[g2]? = some (.cells #[.int .i64 a0] 3 (0, 0)) ∧ W.heap[g5]? = some (.cells #[v] 48 (0, 0)) ∧ Kd.R k24 24 W w.heap.size (fun k_ => k_ ≠ g3 ∧ k_ ≠ ga) v q ∧ z ≤ W.heap.size ∧ Below w.heap.size w W
theorem ls_in_len : ∀ (k : Nat) (a0 : Int) (x7 x28 : List S24) (x29 x30 c0 c1 : Int) (r : List S24), ls_in k a0 x7 x28 x29 x30 c0 c1 = some r → r.length = x7.length
  | 0, _, _, _, _, _, _, _, _, h => by simp [ls_in] at h
  | k + 1, a0, x7, x28, x29, x30, c0, c1, r, h => by
    simp only [ls_in] at h
    split at h
    · split at h
      · split at h
        · split at h
          · obtain ⟨t1, _, h⟩ := Option.bind_eq_some_iff.mp h
            obtain ⟨t2, _, h⟩ := Option.bind_eq_some_iff.mp h
            rw [Option.bind_some] at h
            split at h
            · split at h
              · obtain ⟨t3, _, h⟩ := Option.bind_eq_some_iff.mp h
                have := ls_in_len k _ _ _ _ _ _ _ _ h
                rwa [List.length_set, List.length_set] at this
              · cases h
            · cases h
          · cases h
        · cases h
      · cases h
    · obtain rfl := Option.some.inj h
      rfl
theorem cj_len {sq : Int → Int → Int → Option (Int × Int)} {lv : Int} {s : Nat} : ∀ (n : Nat) (a : Int × Int) (l : List (Int × Int)), cj sq lv s n a = some l → l.length = n
  | 0, _, _, h => by
    obtain rfl := Option.some.inj h
    rfl
  | n + 1, a, l, h => by
    obtain ⟨b, _, h⟩ := Option.bind_eq_some_iff.mp h
    obtain ⟨l2, h2, h⟩ := Option.bind_eq_some_iff.mp h
    obtain rfl := Option.some.inj h
    rw [List.length_cons, cj_len n b l2 h2]
def lsT10 : Bool × List (List Nat × List Nat) := (true, [([], []), ([], []), ([], []), ([], []), ([2, 3], [2, 3]), ([4], [4]), ([], []), ([], []), ([], []), ([6, 7, 8], [6, 7, 8]), ([5, 9, 9], [5, 9]), ([0, 1, 0, 1, 2, 3, 4, 5, 6, 7, 8, 9, 10], [0, 1]), ([11, 10, 10, 0, 1, 2, 3, 4, 5, 6, 7, 8, 9, 10], [10, 11])])
def lsB10 : List Nat := [0, 0, 0, 0, 12, 28, 0, 0, 0, 448, 1020, 2047, 4095]
theorem lstab10 : rtab .any (opsOf Try.f16 10) = lsT10 := by kernel_rfl
theorem lsbits10 : waitsOk lsT10.2 lsB10 = true := by kernel_rfl
def lsT11 : Bool × List (List Nat × List Nat) := (true, [([], []), ([], []), ([1], [1]), ([], []), ([], []), ([4], [4]), ([3, 5], [3, 5]), ([6], [6]), ([], []), ([7, 8], [7, 8]), ([0, 2, 0, 1, 2, 3, 4, 5, 6, 7, 8, 9], [0, 2]), ([10, 9, 9, 0, 1, 2, 3, 4, 5, 6, 7, 8, 9], [9, 10])])
def lsB11 : List Nat := [0, 0, 2, 0, 0, 16, 56, 120, 0, 504, 1023, 2047]
theorem lstab11 : rtab .any (opsOf Try.f16 11) = lsT11 := by kernel_rfl
theorem lsbits11 : waitsOk lsT11.2 lsB11 = true := by kernel_rfl
set_option maxHeartbeats 4000000 in
set_option maxRecDepth 100000 in
theorem frob_ls.calls {sq : Int → Int → Int → Option (Int × Int)} (hsq : ∀ l a0 a1 r0 r1 w, sq l a0 a1 = some (r0, r1) → Calls Try.prog 45 #[.int .i64 l, .agg #[.int .u64 a0, .int .u64 a1]] w fun e w' => e = .returned (.agg #[.int .u64 r0, .int .u64 r1]) ∧ Below w.heap.size w w')
    (k : Nat) (a0 x0 x1 : Int) (r : List Bool) (w : World) (h : frob_ls sq k a0 x0 x1 = some r) :
    Calls Try.prog 16 #[.int .i64 a0, .agg #[.int .u64 x0, .int .u64 x1]] w fun e w' => ∃ v : Value, e = .returned v ∧ Kd.R Kd.bool 4 w' w.heap.size (fun _ => True) v r ∧ Below w.heap.size w w' := by
  have hu24 := Try.underlying24
  have HB := Aside0.mk (Below.refl w.heap.size w)
  unfold frob_ls at h
  obtain ⟨tf, hf, h⟩ := Option.bind_eq_some_iff.mp h
  have HF := Aside0.mk hf
  clear hf
  cases tf
  · rw [if_neg (by decide)] at h
    obtain rfl := Option.some.inj h
    refine (callsIn_wide (n := 6)).1 ?_
    refine callsIn_of_wp_marks Try.func16 rfl trivial ?_ rfl
    simp only [Try.ntmps16, List.size_toArray, List.length_cons, List.length_nil, Nat.reduceAdd, Nat.reduceSub, Array.replicate_succ, Array.replicate_zero, List.push_toArray, List.append_toArray, List.nil_append, List.cons_append]
    refine wpIn_wide.2 ?_
    go_wp2_with (first
      | ((with_reducible refine gate_dst (N := 2) rfl ?_); refine box_event ?hg (N := 2) ?hd (cs := #[.int .i64 a0]) (t := 3) ?hr ?_; (case hd => rfl); (case hg => rfl); (case hr => first | (go_simp; done) | (go_simp; rfl)); intro g2 hg2 w2 hbox hb; have B2 := Aside0.mk hbox;  replace HB := bh HB hb; clear hb hbox hg2)
      | ((with_reducible refine gate_dst (N := 3) rfl ?_); refine box_event ?hg (N := 3) ?hd (cs := #[.int .u64 x0, .int .u64 x1]) (t := 24) ?hr ?_; (case hd => rfl); (case hg => rfl); (case hr => first | (go_simp; done) | (go_simp; rfl)); intro g3 hg3 w3 hbox hb; have B3 := Aside0.mk hbox; replace B2 := bb B2 hb; replace HB := bh HB hb; clear hb hbox hg3; have hc2 := zc1 B2; obtain ⟨hc30, hc31⟩ := zc2 B3)
      | (go_at_call 26; refine (octet_Of.calls k a0 x0 x1 _ _ HF.out).mono ?_; rintro e w8 ⟨rfl, hb⟩; clear hc2 hc30 hc31; replace B2 := bb B2 hb; replace B3 := bb B3 hb; replace HB := bh HB hb; clear hb; clear HF))
    exact ⟨_, results_tmp rfl _ _ _, _, rfl, Kd.R_nil Kd.bool 4 _ _ _, HB.out⟩
  · rw [if_pos rfl] at h
    obtain ⟨⟨u0, u1⟩, ho, h⟩ := Option.bind_eq_some_iff.mp h
    obtain ⟨lv, hlv, h⟩ := Option.bind_eq_some_iff.mp h
    by_cases hb3 : 0 ≤ lv ∧ lv ≤ 7
    · rw [if_pos hb3] at h
      obtain ⟨xs, hxs, h⟩ := Option.bind_eq_some_iff.mp h
      obtain ⟨p, hp, h⟩ := Option.bind_eq_some_iff.mp h
      obtain ⟨y, hy⟩ : ∃ y_ : List (S24), y_ = (([(⟨u0, u1⟩ : S24)] : List (S24))) := ⟨_, rfl⟩
      have NY := Aside0.mk hy
      have HO1 := Aside0.mk ho
      have HLV := Aside0.mk hlv
      have HX := Aside0.mk hxs
      have HP := Aside0.mk hp
      have HE := Aside0.mk h
      have HB3 := Aside0.mk hb3
      clear hy ho hlv hxs hp h hb3
      refine (callsIn_wide (n := 6)).1 ?_
      refine callsIn_of_wp_marks Try.func16 rfl trivial ?_ rfl
      simp only [Try.ntmps16, List.size_toArray, List.length_cons, List.length_nil, Nat.reduceAdd, Nat.reduceSub, Array.replicate_succ, Array.replicate_zero, List.push_toArray, List.append_toArray, List.nil_append, List.cons_append]
      refine wpIn_wide.2 ?_
      go_wp2_with (first
        | ((with_reducible refine gate_dst (N := 2) rfl ?_); refine box_event ?hg (N := 2) ?hd (cs := #[.int .i64 a0]) (t := 3) ?hr ?_; (case hd => rfl); (case hg => rfl); (case hr => first | (go_simp; done) | (go_simp; rfl)); intro g2 hg2 w2 hbox hb; have B2 := Aside0.mk hbox;  replace HB := bh HB hb; clear hb hbox hg2)
        | ((with_reducible refine gate_dst (N := 3) rfl ?_); refine box_event ?hg (N := 3) ?hd (cs := #[.int .u64 x0, .int .u64 x1]) (t := 24) ?hr ?_; (case hd => rfl); (case hg => rfl); (case hr => first | (go_simp; done) | (go_simp; rfl)); intro g3 hg3 w3 hbox hb; have B3 := Aside0.mk hbox; replace B2 := bb B2 hb; replace HB := bh HB hb; clear hb hbox hg3; have hc2 := zc1 B2; obtain ⟨hc30, hc31⟩ := zc2 B3)
        | (go_at_call 26; refine (octet_Of.calls k a0 x0 x1 _ _ HF.out).mono ?_; rintro e w8 ⟨rfl, hb⟩; clear hc2 hc30 hc31; replace B2 := bb B2 hb; replace B3 := bb B3 hb; replace HB := bh HB hb; clear hb; clear HF)
        | (go_at_call 40; refine (tower_One.calls u0 u1 _ HO1.out).mono ?_; rintro e w10 ⟨rfl, hb⟩; replace B2 := bb B2 hb; replace B3 := bb B3 hb; replace HB := bh HB hb; clear hb)
        | ((with_reducible refine gate_dst (N := 18) rfl ?_); refine Kd.R_lit k24 _ 24 ?hg (N := 18) ?hd (xs := ([(⟨u0, u1⟩ : S24)] : List (S24))) (inner := [.int .u64 u0, .int .u64 u1]) (ok := fun _ => True) (okp := fun _ => True) ?hr ?hp (fun _ hk => hk) trivial (Below.refl _ _) (Nat.le_refl _) (by simp) ?_; (case hd => rfl); (case hg => rfl); (case hr => first | (go_simp; done) | (go_simp; rfl)); (case hp => exact (Reps.c2 (show Kd.M k24 _ _ _ (⟨u0, u1⟩ : S24) [.int .u64 u0, .int .u64 u1] from (k24_mkM _ _ _ (⟨u0, u1⟩ : S24) )) (Reps.none _ _))); intro v138 w11 ho12 hb hg_ hnew_; clear hg_ hnew_; (first | rw [← NY.out] at ho12 | (simp only [Int.reduceToNat] at ho12; rw [← NY.out] at ho12)); have HO := Aside0.mk (Kd.R_lower (Kd.R_newB (Kd.R_newB ho12 (g := g3) (o := .cells #[.int .u64 x0, .int .u64 x1] 24 (0, 0)) (bk B3.out)) (g := g2) (o := .cells #[.int .i64 a0] 3 (0, 0)) (bk B2.out)) (below_size (bq HB.out))); replace B2 := bb B2 hb; replace B3 := bb B3 hb; replace HB := bh HB hb; clear hb ho12; obtain ⟨A8, c8, e8⟩ := Kd.R_slice HO.out; subst e8)
        | ((with_reducible refine gate_dst (N := 5) rfl ?_); refine box_event ?hg (N := 5) ?hd (cs := #[.slice none 0 0]) (t := 48) ?hr ?_; (case hd => rfl); (case hg => rfl); (case hr => first | (go_simp; done) | (go_simp; rfl)); intro g5 hg5 w5 hbox hb; have B5 := Aside0.mk hbox; have G5 := ge hg5 HB; have N35 := nl hg5 B3; have N25 := nl hg5 B2; replace HO := kb HO hb; replace B2 := bb B2 hb; replace B3 := bb B3 hb; replace HB := bh HB hb; clear hb hbox hg5; have n1 := N35.out; have n2 := N25.out; have hc5 := zc1 B5; have hf5 := blk_frozen B5.out 0))
      have P5 := Aside0.mk (blk_put B5.out 0 (.slice A8 y.length c8) rfl)
      replace B2 := Aside0.mk (blk_drew (blk_far (p := ⟨g5, 0, none⟩) B2.out N25.out (.slice A8 y.length c8)))
      replace B3 := Aside0.mk (blk_drew (blk_far (p := ⟨g5, 0, none⟩) B3.out N35.out (.slice A8 y.length c8)))
      replace HO := Aside0.mk (Kd.R_drew (Kd.R_set HO.out B5.out (by decide) 0 (.slice A8 y.length c8)))
      replace HB := Aside0.mk (below_drew1 (below_set (j := 0) (v := .slice A8 y.length c8) HB.out G5.out))
      replace B5 := Aside0.mk (blk_drew P5.out)
      clear P5
      clear n1 n2 hc5 hf5
      refine wp_only ?_
      refine start_ (n := 4) (S := fun w' => w'.cell? ⟨g3, 0, none⟩ = some (.int .u64 x0) ∧ w'.cell? ⟨g3, 1, none⟩ = some (.int .u64 x1)) (ds := []) #[false, false, false, false] (by kernel_rfl) rfl rfl ⟨(blk_cell B3.out 0).trans rfl, (blk_cell B3.out 1).trans rfl⟩ (fun hHeld => ?_)
      generalize (w5.setCell ⟨g5, 0, none⟩ (.slice A8 y.length c8)).drew = w6 at B2 B3 B5 HO HB hHeld ⊢
      refine take_ (i := 0) (N := some 19) (v := ?_) (a' := ?_) #[true, false, false, false] rfl rfl (by kernel_rfl) (fun _ _ _ h => h) (Or.inl ⟨by rfl, ?_⟩) hHeld ?_ ?_
      rotate_left
      · rintro w' ⟨s0, s1⟩
        go_simp
        with_reducible rfl
      rotate_left
      · simp only [Act.put, List.setIfInBounds_toArray, List.set_cons_zero, List.set_cons_succ, i64_w, i32_w]
        rfl
      refine take_ (i := 2) (N := some 21) (v := ?_) (a' := ?_) #[true, false, true, false] rfl rfl (by kernel_rfl) (fun _ _ _ h => h) (Or.inl ⟨by rfl, ?_⟩) hHeld ?_ ?_
      rotate_left
      · rintro w' ⟨s0, s1⟩
        go_simp
        with_reducible rfl
      rotate_left
      · simp only [Act.put, List.setIfInBounds_toArray, List.set_cons_zero, List.set_cons_succ, i64_w, i32_w]
        rfl
      refine one_ (i := 1) (N := some 20) #[true, true, true, false] rfl rfl (by kernel_rfl) (by decide) (fun K hK => ?_)
      refine goes_ Try.func41 (by kernel_rfl) rfl #[.agg #[.int .u64 x0, .int .u64 x1]] (by rfl) rfl rfl (by (try simp only [List.map_toArray, List.map_cons, List.map_nil]); first | done | rfl) ?_
      with_reducible refine (tower_Level.calls k x0 x1 lv _ HLV.out).mono ?_
      rintro e w7 ⟨rfl, hb⟩
      refine ⟨_, rfl, ?_⟩
      replace HO := kb HO hb
      replace B2 := bb B2 hb
      replace B3 := bb B3 hb
      replace B5 := bb B5 hb
      replace HB := bh HB hb
      clear hb hHeld
      refine hK.out _ _ ⟨(blk_cell B3.out 0).trans rfl, (blk_cell B3.out 1).trans rfl⟩ (fun hHeld => ?_)
      clear hK K
      refine norm_ (a' := ?_) ?_ ?_
      rotate_left
      · show Act.put _ (some 20) _ = _
        simp only [Act.put, List.setIfInBounds_toArray, List.set_cons_zero, List.set_cons_succ, i64_w, i32_w]
        rfl
      refine one_ (i := 3) (N := some 22) #[true, true, true, true] rfl rfl (by kernel_rfl) (by decide) (fun K hK => ?_)
      refine goes_ Try.func37 (by kernel_rfl) rfl #[.int .i64 lv, .int .i64 0, .agg #[.int .u64 x0, .int .u64 x1]] (by rfl) rfl rfl (by (try simp only [List.map_toArray, List.map_cons, List.map_nil]); first | done | rfl) ?_
      with_reducible refine (frob_conj.calls lv 0 x0 x1 _).mono ?_
      rintro e w9 ⟨gl, gt, ga, rfl, hga, hlg, htg, hbl, hbt, hba, hb⟩
      refine ⟨_, rfl, ?_⟩
      have N5a := Nat.ne_of_lt (Nat.lt_of_lt_of_le (blk_lt B5.out) hga)
      have N3a := Nat.ne_of_lt (Nat.lt_of_lt_of_le (blk_lt B3.out) hga)
      have N2a := Nat.ne_of_lt (Nat.lt_of_lt_of_le (blk_lt B2.out) hga)
      have HOa := Aside0.mk (Kd.R_below (Kd.R_mono (Kd.R_bound HO.out) (ok' := fun k_ => k_ ≠ g3 ∧ k_ ≠ ga) (fun k_ hk => ⟨hk.1.1.2, by have := hk.2.2.1; omega⟩)) hb)
      have GA := Aside0.mk (Nat.le_trans (below_size HB.out) hga)
      have BL := Aside0.mk hbl
      have BT := Aside0.mk hbt
      have BA := Aside0.mk hba
      replace B2 := bb B2 hb
      replace B3 := bb B3 hb
      replace B5 := bb B5 hb
      replace HB := bh HB hb
      clear hb hHeld hbl hbt hba HO
      refine hK.out _ _ ⟨(blk_cell B3.out 0).trans rfl, (blk_cell B3.out 1).trans rfl⟩ (fun hHeld => ?_)
      clear hK K hHeld
      refine norm_ (a' := ?_) ?_ ?_
      rotate_left
      · show Act.put _ (some 22) _ = _
        simp only [Act.put, List.setIfInBounds_toArray, List.set_cons_zero, List.set_cons_succ, i64_w, i32_w]
        rfl
      refine done_ (by kernel_rfl) ?_
      try go_wp2
      have hb3 := HB3.out
      have hxs := HX.out
      have hp := HP.out
      obtain ⟨m, rfl⟩ := Int.eq_ofNat_of_zero_le hb3.1
      rw [Int.toNat_natCast] at hxs
      have hsz : g5 < w9.heap.size := blk_lt B5.out
      have hxl : xs.length ≤ 128 := by
        rw [cj_len _ _ _ hxs]
        exact Nat.pow_le_pow_right (by decide) (show m ≤ 7 by omega)
      refine (wpIn_wide (n := 6)).1 ?_
      refine range_on (F := Fence.wide) (α := Int × Int) rfl (by omega) (gf := 52) rfl trivial (enters_of Try.func52 (by kernel_rfl) rfl)
        (frob_conj.gives hsq 5 (by omega) m 0 (m : Int) (by omega) (by omega) (x0, x1) xs gl gt ga w9 hlg htg BL.out BT.out BA.out hxs)
        (fun _ => rfl) (fun h1 h2 k hk => (h2 k hk).trans (h1 k hk))
        (fun W l o o' hl hW hc k hk => World.putObj_heap_other (by have := blk_lt BL.out; have := blk_lt BT.out; have := blk_lt BA.out; omega))
        (fun A B k o hs hk hA hc => (hs.block k (blk_lt hA) (by have := blk_lt BA.out; omega)).trans hA)
        (lsI k a0 g2 g3 g5 ga xs w9.heap.size w p)
        (fun pre x b W => ∃ (g6 : Nat) (rest : List (Int × Int)) (q : List S24) (v : Value), w9.heap.size ≤ g6 ∧ xs = pre ++ rest ∧ ls_all k a0 q rest = some p ∧ q.length = pre.length + 1 ∧ W.heap[g2]? = some (.cells #[.int .i64 a0] 3 (0, 0)) ∧ W.heap[g5]? = some (.cells #[v] 48 (0, 0)) ∧ Kd.R k24 24 W w.heap.size (fun k_ => (k_ ≠ g3 ∧ k_ ≠ ga) ∧ k_ ≠ g6) v q ∧ W.heap[g6]? = some (.cells #[.int .u64 x.1, .int .u64 x.2] 24 (0, 0)) ∧ w9.heap.size ≤ W.heap.size ∧ Below w.heap.size w W ∧
          b = { tmps := #[.int .i64 a0, .agg #[.int .u64 x0, .int .u64 x1], .pointer (some ⟨g2, 0, none⟩), .pointer (some ⟨g3, 0, none⟩), .slice none 0 0, .pointer (some ⟨g5, 0, none⟩), .pointer (some ⟨g6, 0, none⟩), undef, undef, undef, undef, undef, undef, .int .i64 a0, .agg #[.int .u64 x0, .int .u64 x1], .bool true, .bool false, .agg #[.int .u64 u0, .int .u64 u1], .slice A8 y.length c8, .agg #[.int .u64 x0, .int .u64 x1], .int .i64 (m : Int), .agg #[.int .u64 x0, .int .u64 x1], .func (.func 52) #[] #[.pointer (some ⟨gl, 0, none⟩), .pointer (some ⟨gt, 0, none⟩), .pointer (some ⟨ga, 0, none⟩)], .agg #[.int .u64 x.1, .int .u64 x.2], undef, undef, undef, undef, undef, undef, undef, undef, undef, undef, undef, undef, undef, undef, undef, undef, undef, undef, undef, undef, undef, undef, undef, undef, undef, undef, undef, undef, undef, undef, undef, undef, undef, undef, undef, undef, undef, undef, undef, undef, undef, undef, undef, undef, undef, undef, undef, undef, undef, undef], defers := [] })
        ?is ?ip ?ia ?ap ?h0 ?assign ?body ?done
      case is =>
        rintro s A B ⟨rest, q, v, hx, ha, hq, h2, h5, hR, hz, hb⟩ hk
        exact ⟨rest, q, v, hx, ha, hq, (hk.block g2 (blk_lt h2) N2a).trans h2, (hk.block g5 (blk_lt h5) N5a).trans h5, Kd.R_step hR (fun k_ ho hlt => hk.block k_ hlt ho.2), Nat.le_trans hz hk.size, Ks1.later hb hk GA.out (Nat.le_refl _)⟩
      case ip =>
        rintro s W l o o' ⟨rest, q, v, hx, ha, hq, h2, h5, hR, hz, hb⟩ hl hW hc
        have h29 := blk_lt B2.out
        have hRl := Kd.R_bound hR
        have hR2 := Kd.R_mono hRl (ok' := fun k_ => (k_ ≠ g3 ∧ k_ ≠ ga) ∧ k_ ≠ l) (fun k_ hk => ⟨hk.1, fun e => by
          obtain ⟨q', _, cells, hcl⟩ := hk.2.2.2
          rw [e, hW] at hcl
          cases hcl
          cases hc⟩)
        exact ⟨rest, q, v, hx, ha, hq, (World.putObj_heap_other (by omega)).trans h2, (World.putObj_heap_other (by omega)).trans h5, Kd.R_mono (Kd.R_step hR2 (fun k_ ho hlt => World.putObj_heap_other ho.2)) (fun k_ hk => hk.1), by simpa [World.putObj] using hz, below_putObj hb l o' (by have := below_size HB.out; omega)⟩
      case ia =>
        rintro s W o ⟨rest, q, v, hx, ha, hq, h2, h5, hR, hz, hb⟩
        exact ⟨rest, q, v, hx, ha, hq, blk_alloc h2 _, blk_alloc h5 _, Kd.R_alloc hR _, by rw [World.size_alloc]; omega, below_alloc hb _⟩
      case ap =>
        rintro s x b W l o o' ⟨g6, rest, q, v, hg6, hx, ha, hq, h2, h5, hR, h6, hz, hb, he⟩ hl hW hc
        have h29 := blk_lt B2.out
        have h6l : g6 ≠ l := fun e => by subst e; rw [h6] at hW; cases hW; cases hc
        have hRl := Kd.R_bound hR
        have hR2 := Kd.R_mono hRl (ok' := fun k_ => ((k_ ≠ g3 ∧ k_ ≠ ga) ∧ k_ ≠ g6) ∧ k_ ≠ l) (fun k_ hk => ⟨hk.1, fun e => by
          obtain ⟨q', _, cells, hcl⟩ := hk.2.2.2
          rw [e, hW] at hcl
          cases hcl
          cases hc⟩)
        exact ⟨g6, rest, q, v, hg6, hx, ha, hq, (World.putObj_heap_other (by omega)).trans h2, (World.putObj_heap_other (by omega)).trans h5, Kd.R_mono (Kd.R_step hR2 (fun k_ ho hlt => World.putObj_heap_other ho.2)) (fun k_ hk => hk.1), (World.putObj_heap_other h6l).trans h6, by simpa [World.putObj] using hz, below_putObj hb l o' (by have := below_size HB.out; omega), he⟩
      case h0 =>
        have ey := NY.out
        refine ⟨xs, y, _, rfl, by rw [ey]; exact hp, by rw [ey]; rfl, B2.out, B5.out, HOa.out, Nat.le_refl _, HB.out⟩
      case assign =>
        rintro l pre x W K ⟨rest, q, v, hx, ha, hq, h2, h5, hR, hz, hb⟩ hpx hK
        dsimp only [encE]
        gi_wp2
        have bl := blk_lt BL.out
        have bt := blk_lt BT.out
        have ba := blk_lt BA.out
        have hR2 := Kd.R_alloc (Kd.R_mono (Kd.R_bound hR) (ok' := fun k_ => (k_ ≠ g3 ∧ k_ ≠ ga) ∧ k_ ≠ W.heap.size) (fun k_ hk => ⟨hk.1, by have := hk.2.2.1; omega⟩)) (.cells #[.int .u64 x.1, .int .u64 x.2] 24 (0, 0))
        exact hK _ _ (KeepsOthers.alloc _ _) (fun k hk => Below.heap_alloc W _ k (by omega)) ⟨W.heap.size, rest, q, v, hz, hx, ha, hq, blk_alloc h2 _, blk_alloc h5 _, hR2, blk_new _ _, by rw [World.size_alloc]; omega, below_alloc hb _, rfl⟩
      case body =>
        rintro l pre ⟨c0, c1⟩ b W ⟨g6, rest, q, v, hg6, hx, ha, hq, h2, h5, hR, h6, hz, hb, rfl⟩ ⟨s, hs⟩
        have er : rest = (c0, c1) :: s := by
          have := hs.trans hx
          rw [List.append_assoc, List.append_cancel_left_eq] at this
          exact this.symm
        subst er
        obtain ⟨nx, hin, ha2⟩ := Option.bind_eq_some_iff.mp ha
        dsimp only at hin h6 ⊢
        have hx2 : xs = pre ++ [(c0, c1)] ++ s := by rw [hx, List.append_assoc, List.singleton_append]
        have hql : q.length ≤ 200 := by
          have := congrArg List.length hx2
          rw [List.length_append, List.length_append, List.length_singleton] at this
          omega
        have hnl : nx.length = q.length + 1 := by
          rw [ls_in_len _ _ _ _ _ _ _ _ _ hin, List.length_replicate]
        obtain ⟨A9, c9, e9⟩ := Kd.R_slice hR
        subst e9
        have HNL := Aside0.mk hnl
        have HX2 := Aside0.mk hx2
        have HA2 := Aside0.mk ha2
        have HQ := Aside0.mk hq
        have HIN := Aside0.mk hin
        have HZ := Aside0.mk hz
        have HXL := Aside0.mk hxl
        have HSZ := Aside0.mk hsz
        have G6' := Aside0.mk hg6
        clear hq hin hnl hx2 ha2 ha hs hx hz hxl hsz hg6 hxs hp
        have HR := Aside0.mk hR
        have B5' := Aside0.mk h5
        have B2' := Aside0.mk h2
        have B6' := Aside0.mk h6
        have HBW := Aside0.mk hb
        clear hR h5 h2 h6 hb
        have HW := Aside0.mk (Below.refl W.heap.size W)
        obtain ⟨n1, hn1⟩ : ∃ n_ : Int, n_ = (q.length : Int) + 1 := ⟨_, rfl⟩
        have hw1 : wrap64 ((q.length : Int) + 1) = n1 := by rw [hn1]; unfold wrap64; omega
        have hd1 : decide (0 ≤ n1) = true := decide_eq_true (by omega)
        have hd2 : decide (n1.toNat ≤ 17592186044416) = true := decide_eq_true (by omega)
        have hd3 : IntKind.i64.wrap ((q.length : Int) + 1) = n1 := (i64_w _).trans hw1
        have hd4 : n1.toNat = q.length + 1 := by omega
        have HD4 := Aside0.mk hd4
        clear hn1 hd4 hql
        have hc5 := zc1 B5'
        refine wpIn_block ?_
        refine wpIn_seq_k (fun K hK => ?_)
        refine region_round (by rintro ⟨_, _, h, _⟩; cases h) rfl ?_
        go_wp2_with ((with_reducible refine gate_dst (N := 27) rfl ?_); refine Kd.R_make k24 _ 24 rfl (N := 27) rfl 48 _ _ rfl n1 rfl rfl Try.underlying48 (.agg #[(.int .u64 0), (.int .u64 0)]) 16 info24 rfl (by decide) (by omega) z24 (ok := fun _ => True) (okp := fun _ => True) (k24_mkM _ _ _ z24 ) (fun _ hk => hk) trivial (of_decide_eq_true hd1) (Nat.le_trans (Nat.mul_le_mul_right _ (of_decide_eq_true hd2 : n1.toNat ≤ 17592186044416)) (by omega)) (Below.refl _ _) (Nat.le_refl _) ?_; intro v7 w7 ho7 hb7 hg_ hnew_; clear hg_ hnew_; rw [HD4.out] at ho7; have HO_7 := Aside0.mk ho7; clear hc5; have hc57 := zc1 (bb B5' hb7); replace HW := bh HW hb7; clear ho7 hb7)
        clear hw1 hd1 hd2 hd3 HD4
        refine wpIn_seq_k (fun K0 hK0 => ?_)
        refine wpIn_seq_k (fun K2 hK2 => ?_)
        refine region_round (by rintro ⟨_, _, h, _⟩; cases h) rfl ?_
        go_wp2
        clear hc57
        refine wpIn_block ?_
        gi_loopg [30] k (fun kq v30 w' => ∃ (x7_2 : List (S24)) (x30_2 : Int), v30 = .int .i64 x30_2 ∧ Aside0 (ls_in kq a0 x7_2 q (q.length : Int) x30_2 c0 c1 = some nx) ∧ Aside0 (kq ≤ k) ∧ Aside0 (Kd.R k24 24 w' W.heap.size (fun _ => True) v7 x7_2) ∧ Aside0 (Below W.heap.size W w'))
        case atStart => exact ⟨_, 0, rfl, HIN, ⟨Nat.le_refl _⟩, HO_7, HW⟩
        case round =>
          clear HIN HO_7 HW
          obtain ⟨x7_2, x30_2, rfl, HA, HK2, HO_7, HB⟩ := hrel
          have BK143 := Aside0.mk (blk_below B6'.out HB.out)
          have BK2 := Aside0.mk (blk_below B2'.out HB.out)
          have HO_28 := Aside0.mk (Kd.R_below HR.out HB.out)
          cases gk with
          | zero => exact absurd HA.out (by simp [ls_in])
          | succ k2 =>
            have H := HA.out
            clear HA
            simp only [ls_in] at H
            by_cases c27 : x30_2 < (q.length : Int)
            ·rw [if_pos c27] at H
             have c27b0 : decide (x30_2 < (q.length : Int)) = true := decide_eq_true c27
             clear c27
             by_cases c28 : 0 ≤ x30_2
             ·rw [if_pos c28] at H
              have c28b0 : decide (0 ≤ x30_2) = true := decide_eq_true c28
              clear c28
              by_cases c29 : x30_2 < (q.length : Int)
              ·rw [if_pos c29] at H
               have c29b0 : decide (x30_2 < (q.length : Int)) = true := decide_eq_true c29
               clear c29
               by_cases c30 : x30_2 < (x7_2.length : Int)
               ·rw [if_pos c30] at H
                have c30b0 : decide (x30_2 < (x7_2.length : Int)) = true := decide_eq_true c30
                clear c30
                replace H := Option.bind_eq_some_iff.mp H
                obtain ⟨⟨t150, t151⟩, A310, H⟩ := H
                replace H : ((tower_Add.f ((rd_T24 x7_2 x30_2).f0) ((rd_T24 x7_2 x30_2).f1) t150 t151).bind fun bt152 => ((some (x7_2.set (x30_2 : Int).toNat (⟨bt152.1, bt152.2⟩ : S24) : List (S24))).bind fun y154 => (if 0 ≤ (wrap64 (x30_2 + 1)) then (if (wrap64 (x30_2 + 1)) < (x7_2.length : Int) then ((tower_Add.f ((rd_T24 y154 (wrap64 (x30_2 + 1))).f0) ((rd_T24 y154 (wrap64 (x30_2 + 1))).f1) ((rd_T24 q x30_2).f0) ((rd_T24 q x30_2).f1)).bind fun bt156 => (ls_in k2 a0 (y154.set ((wrap64 (x30_2 + 1)) : Int).toNat (⟨bt156.1, bt156.2⟩ : S24)) q (q.length : Int) (wrap64 (x30_2 + 1)) c0 c1)) else (none)) else (none)))) = some nx := H
                have A31 := Aside0.mk A310
                clear A310
                replace H := Option.bind_eq_some_iff.mp H
                obtain ⟨⟨t152, t153⟩, A320, H⟩ := H
                replace H : ((some (x7_2.set (x30_2 : Int).toNat (⟨t152, t153⟩ : S24) : List (S24))).bind fun y154 => (if 0 ≤ (wrap64 (x30_2 + 1)) then (if (wrap64 (x30_2 + 1)) < (x7_2.length : Int) then ((tower_Add.f ((rd_T24 y154 (wrap64 (x30_2 + 1))).f0) ((rd_T24 y154 (wrap64 (x30_2 + 1))).f1) ((rd_T24 q x30_2).f0) ((rd_T24 q x30_2).f1)).bind fun bt156 => (ls_in k2 a0 (y154.set ((wrap64 (x30_2 + 1)) : Int).toNat (⟨bt156.1, bt156.2⟩ : S24)) q (q.length : Int) (wrap64 (x30_2 + 1)) c0 c1)) else (none)) else (none))) = some nx := H
                have A32 := Aside0.mk A320
                clear A320
                obtain ⟨y154, hy154⟩ : ∃ y_ : List (S24), y_ = (x7_2.set (x30_2 : Int).toNat (⟨t152, t153⟩ : S24)) := ⟨_, rfl⟩
                replace H : (if 0 ≤ (wrap64 (x30_2 + 1)) then (if (wrap64 (x30_2 + 1)) < (x7_2.length : Int) then ((tower_Add.f ((rd_T24 y154 (wrap64 (x30_2 + 1))).f0) ((rd_T24 y154 (wrap64 (x30_2 + 1))).f1) ((rd_T24 q x30_2).f0) ((rd_T24 q x30_2).f1)).bind fun bt156 => (ls_in k2 a0 (y154.set ((wrap64 (x30_2 + 1)) : Int).toNat (⟨bt156.1, bt156.2⟩ : S24)) q (q.length : Int) (wrap64 (x30_2 + 1)) c0 c1)) else (none)) else (none)) = some nx := by first | (rw [hy154]; with_reducible exact H) | (have H2_ := (Option.bind_some _ _).symm.trans H; rw [hy154]; with_reducible exact H2_) | (have H2_ := (Option.bind_some _ _).symm.trans H; with_reducible exact H2_) | with_reducible exact H | (rw [hy154]; exact H) | exact H
                have Ny154 := Aside0.mk hy154
                clear hy154
                obtain ⟨ji34, hji34⟩ : ∃ j_ : Int, (wrap64 (x30_2 + 1)) = j_ := ⟨_, rfl⟩
                replace H : (if 0 ≤ (ji34) then (if (ji34) < (x7_2.length : Int) then ((tower_Add.f ((rd_T24 y154 (ji34)).f0) ((rd_T24 y154 (ji34)).f1) ((rd_T24 q x30_2).f0) ((rd_T24 q x30_2).f1)).bind fun bt156 => (ls_in k2 a0 (y154.set ((ji34) : Int).toNat (⟨bt156.1, bt156.2⟩ : S24)) q (q.length : Int) ji34 c0 c1)) else (none)) else (none)) = some nx := by first | (rw [hji34] at H; exact H) | (simp only [hji34] at H ⊢; exact H)
                (try rw [hji34] at A31)
                (try rw [hji34] at A32)
                have hji34w : (IntKind.i64.wrap (x30_2 + 1)) = ji34 := (i64_w _).trans hji34
                by_cases c35 : 0 ≤ (ji34)
                ·rw [if_pos c35] at H
                 have c35b0 : decide (0 ≤ (ji34)) = true := decide_eq_true c35
                 clear c35
                 by_cases c36 : (ji34) < (x7_2.length : Int)
                 ·rw [if_pos c36] at H
                  have c36b0 : decide ((ji34) < (x7_2.length : Int)) = true := decide_eq_true c36
                  clear c36
                  replace H := Option.bind_eq_some_iff.mp H
                  obtain ⟨⟨t156, t157⟩, A370, H⟩ := H
                  replace H : (ls_in k2 a0 (y154.set ((ji34) : Int).toNat (⟨t156, t157⟩ : S24)) q (q.length : Int) ji34 c0 c1) = some nx := H
                  have A37 := Aside0.mk A370
                  clear A370
                  obtain ⟨y158, hy158⟩ : ∃ y_ : List (S24), y_ = (y154.set ((ji34) : Int).toNat (⟨t156, t157⟩ : S24)) := ⟨_, rfl⟩
                  replace H : (ls_in k2 a0 y158 q (q.length : Int) ji34 c0 c1) = some nx := by first | (rw [hy158]; with_reducible exact H) | (have H2_ := (Option.bind_some _ _).symm.trans H; rw [hy158]; with_reducible exact H2_) | (have H2_ := (Option.bind_some _ _).symm.trans H; with_reducible exact H2_) | with_reducible exact H | (rw [hy158]; exact H) | exact H
                  have Ny158 := Aside0.mk hy158
                  clear hy158
                  have H' := Aside0.mk H
                  clear H
                  have p147 : 0 ≤ (x30_2 : Int) := of_decide_eq_true (by first | (with_reducible assumption) | assumption)
                  have q147 : x30_2 < (q.length : Int) := of_decide_eq_true (by first | (with_reducible assumption) | assumption)
                  (try (obtain ⟨Ap_, cp_, ep_⟩ := Kd.R_slice HO_28.out; subst ep_))
                  obtain ⟨ad147, e147, hx147_0, hx147_1⟩ := at_T24 (Kd.R_reads' HO_28.out).2.2 x30_2 p147 q147
                  cases e147
                  replace p147 := eq_true p147
                  replace q147 := eq_true q147
                  refine wpIn_seq_k (fun K hK => ?_)
                  refine region_round (by rintro ⟨_, _, h, _⟩; cases h) rfl ?_
                  go_wp2
                  refine wpIn_seq_k (fun K2 hK2 => ?_)
                  refine wpIn_cond_true rfl ?_
                  refine wpIn_skip (hK2 _ _ ?_)
                  clear hK2 K2
                  refine wpIn_seq_k (fun K3 hK3 => ?_)
                  refine wpIn_block ?_
                  refine wpIn_seq_k (fun K4 hK4 => ?_)
                  refine region_round (by rintro ⟨_, _, h, _⟩; cases h) rfl ?_
                  go_wp2_with ((with_reducible refine gate_dst (N := 9) rfl ?_); refine box_event ?hg (N := 9) ?hd (cs := #[.int .u64 0, .int .u64 0]) (t := 24) ?hr ?_; (case hd => rfl); (case hg => rfl); (case hr => first | (go_simp; done) | (go_simp; rfl)); intro g9 hg w39 hbox hb; have BK148 := Aside0.mk hbox; have GW148 := ge hg HB; have GE148 := ge hg HB; have NB2_148 := nl hg BK2; have NB143_148 := nl hg BK143; replace HO_7 := Aside0.mk (Kd.R_below (Kd.R_elderB (kr HO_7.out) g9 (Nat.le_of_eq hg.symm)) hb); replace BK2 := bb BK2 hb; replace BK143 := bb BK143 hb; replace HB := bh HB hb; clear hb hbox hg; clear HO_28; obtain ⟨hcz42_0, hcz42_1⟩ := zc2 BK148; obtain ⟨hfz42_0, hfz42_1⟩ := zf2 BK148)
                  have n0_ : Aside0 (Kd.R k24 24 ((w39.setCell ⟨g9, 0, none⟩ (.int .u64 ((rd_T24 q x30_2).f0))).setCell ⟨g9, 1, none⟩ (.int .u64 ((rd_T24 q x30_2).f1))) W.heap.size (fun k_ => k_ ≠ g9) v7 x7_2) := ⟨Kd.R_mono (Kd.R_far (p := ⟨g9, 1, none⟩) (Kd.R_far (p := ⟨g9, 0, none⟩) (kr HO_7.out) (fun _ hk => hk.2) _) (fun _ hk => hk.2) _) (fun _ hk => hk.2)⟩
                  have n2_ : Aside0 (((w39.setCell ⟨g9, 0, none⟩ (.int .u64 ((rd_T24 q x30_2).f0))).setCell ⟨g9, 1, none⟩ (.int .u64 ((rd_T24 q x30_2).f1))).heap[g2]? = some (.cells #[.int .i64 a0] 3 (0, 0))) := ⟨blk_far (blk_far (bk BK2.out) NB2_148.out _) NB2_148.out _⟩
                  have n3_ : Aside0 (((w39.setCell ⟨g9, 0, none⟩ (.int .u64 ((rd_T24 q x30_2).f0))).setCell ⟨g9, 1, none⟩ (.int .u64 ((rd_T24 q x30_2).f1))).heap[g6]? = some (.cells #[.int .u64 c0, .int .u64 c1] 24 (0, 0))) := ⟨blk_far (blk_far (bk BK143.out) NB143_148.out _) NB143_148.out _⟩
                  have n4_ : Aside0 (((w39.setCell ⟨g9, 0, none⟩ (.int .u64 ((rd_T24 q x30_2).f0))).setCell ⟨g9, 1, none⟩ (.int .u64 ((rd_T24 q x30_2).f1))).heap[g9]? = some (.cells #[.int .u64 ((rd_T24 q x30_2).f0), .int .u64 ((rd_T24 q x30_2).f1)] 24 (0, 0))) := ⟨by (with_reducible repeat refine bl ?_); refine blk_put (cs := #[.int .u64 ((rd_T24 q x30_2).f0), .int .u64 0]) ?_ 1 _ rfl; (with_reducible repeat refine bl ?_); refine blk_put (cs := #[.int .u64 0, .int .u64 0]) ?_ 0 _ rfl; (with_reducible repeat refine bl ?_); exact BK148.out⟩
                  have n5_ : Aside0 (Below W.heap.size W ((w39.setCell ⟨g9, 0, none⟩ (.int .u64 ((rd_T24 q x30_2).f0))).setCell ⟨g9, 1, none⟩ (.int .u64 ((rd_T24 q x30_2).f1)))) := ⟨bq HB.out⟩
                  (try clear HO_7)
                  (try clear BK2)
                  (try clear BK143)
                  (try clear BK148)
                  (try clear HB)
                  generalize ((w39.setCell ⟨g9, 0, none⟩ (.int .u64 ((rd_T24 q x30_2).f0))).setCell ⟨g9, 1, none⟩ (.int .u64 ((rd_T24 q x30_2).f1))) = w43 at n0_ n2_ n3_ n4_ n5_ ⊢
                  have HO_7 := n0_
                  have BK2 := n2_
                  have BK143 := n3_
                  have BK148 := n4_
                  have HB := n5_
                  clear n0_ n2_ n3_ n4_ n5_
                  replace HO_7 := Aside0.mk (Kd.R_drew HO_7.out)
                  replace BK2 := Aside0.mk (blk_drew BK2.out)
                  replace BK143 := Aside0.mk (blk_drew BK143.out)
                  replace BK148 := Aside0.mk (blk_drew BK148.out)
                  replace HB := Aside0.mk (below_drew1 HB.out)
                  obtain ⟨Ao45, co45, eo45⟩ := Kd.R_slice HO_7.out
                  (first | subst eo45 | (injection eo45 with f1_ f2_ f3_; have f4_ := f1_.symm; have f5_ := f3_.symm; clear f1_ f2_ f3_; subst f4_; subst f5_))
                  have p149 : 0 ≤ (x30_2 : Int) := of_decide_eq_true (by first | (with_reducible assumption) | assumption)
                  have q149 : x30_2 < (x7_2.length : Int) := of_decide_eq_true (by first | (with_reducible assumption) | assumption)
                  (try (obtain ⟨Ap_, cp_, ep_⟩ := Kd.R_slice HO_7.out; subst ep_))
                  obtain ⟨ad149, e149, hx149_0, hx149_1⟩ := at_T24 (Kd.R_reads' HO_7.out).2.2 x30_2 p149 q149
                  cases e149
                  replace p149 := eq_true p149
                  replace q149 := eq_true q149
                  refine wpIn_seq_k (fun K5 hK5 => ?_)
                  refine start_round (n := 13) (S := fun w' => w'.cell? ⟨g2, 0, none⟩ = some (.int .i64 a0) ∧ w'.cell? ⟨g6, 0, none⟩ = some (.int .u64 c0) ∧ w'.cell? ⟨g6, 1, none⟩ = some (.int .u64 c1) ∧ w'.cell? ⟨g9, 0, none⟩ = some (.int .u64 ((rd_T24 q x30_2).f0)) ∧ w'.cell? ⟨g9, 1, none⟩ = some (.int .u64 ((rd_T24 q x30_2).f1)) ∧ w'.cell? (ad149.add ((x30_2).toNat * 2)) = some (.int .u64 ((rd_T24 x7_2 x30_2).f0)) ∧ w'.cell? ⟨(ad149.add ((x30_2).toNat * 2)).block, (ad149.add ((x30_2).toNat * 2)).off + 1, none⟩ = some (.int .u64 ((rd_T24 x7_2 x30_2).f1))) (ds := [12]) #[false, false, false, false, false, false, false, false, false, false, false, false, false] ?hQ rfl (by kernel_rfl) rfl rfl ⟨(blk_cell BK2.out 0).trans rfl, (blk_cell BK143.out 0).trans rfl, (blk_cell BK143.out 1).trans rfl, (blk_cell BK148.out 0).trans rfl, (blk_cell BK148.out 1).trans rfl, hx149_0, hx149_1⟩ (fun hHeld => ?_); (case hQ => rintro ⟨_, _, h, _⟩; cases h); refine with_tabW lstab10 lsbits10 (fun HT_ HW_ => ?_)
                  generalize w43.drew = w44 at HO_7 BK2 BK143 BK148 HB hx149_0 hx149_1 hHeld ⊢
                  refine pure_ (i := 0) (N := some 35) (v := ?_) (a' := ?_) #[true, false, false, false, false, false, false, false, false, false, false, false, false] rfl rfl (any_of HT_.out (by kernel_rfl)) (fun _ _ _ h => h) (Or.inl ⟨by rfl, ?_⟩) ?_ ?_
                  rotate_left
                  ·intro w'
                   go_simp
                   with_reducible rfl
                  rotate_left
                  ·simp only [Act.put, List.setIfInBounds_toArray, List.set_cons_zero, List.set_cons_succ, i64_w, i32_w]
                   rfl
                  refine pure_ (i := 1) (N := some 36) (v := ?_) (a' := ?_) #[true, true, false, false, false, false, false, false, false, false, false, false, false] rfl rfl (any_of HT_.out (by kernel_rfl)) (fun _ _ _ h => h) (Or.inl ⟨by rfl, ?_⟩) ?_ ?_
                  rotate_left
                  ·intro w'
                   go_simp
                   with_reducible rfl
                  rotate_left
                  ·simp only [Act.put, List.setIfInBounds_toArray, List.set_cons_zero, List.set_cons_succ, i64_w, i32_w]
                   rfl
                  refine pure_ (i := 2) (N := some 37) (v := ?_) (a' := ?_) #[true, true, true, false, false, false, false, false, false, false, false, false, false] rfl rfl (any_of HT_.out (by kernel_rfl)) (fun _ _ _ h => h) (Or.inl ⟨by rfl, ?_⟩) ?_ ?_
                  rotate_left
                  ·intro w'
                   go_simp
                   with_reducible rfl
                  rotate_left
                  ·simp only [Act.put, List.setIfInBounds_toArray, List.set_cons_zero, List.set_cons_succ, i64_w, i32_w]
                   rfl
                  refine pure_ (i := 3) (N := some 38) (v := ?_) (a' := ?_) #[true, true, true, true, false, false, false, false, false, false, false, false, false] rfl rfl (any_of HT_.out (by kernel_rfl)) (fun _ _ _ h => h) (Or.inl ⟨by rfl, ?_⟩) ?_ ?_
                  rotate_left
                  ·intro w'
                   go_simp
                   with_reducible rfl
                  rotate_left
                  ·simp only [Act.put, List.setIfInBounds_toArray, List.set_cons_zero, List.set_cons_succ, i64_w, i32_w]
                   rfl
                  refine pure_ (i := 4) (N := some 39) (v := ?_) (a' := ?_) #[true, true, true, true, true, false, false, false, false, false, false, false, false] rfl rfl (any_of HT_.out (by kernel_rfl)) (fun _ _ _ h => h) (Or.inl ⟨by rfl, ?_⟩) ?_ ?_
                  rotate_left
                  ·intro w'
                   go_simp
                   with_reducible rfl
                  rotate_left
                  ·simp only [Act.put, List.setIfInBounds_toArray, List.set_cons_zero, List.set_cons_succ, i64_w, i32_w]
                   rfl
                  refine take_ (i := 6) (N := some 41) (v := ?_) (a' := ?_) #[true, true, true, true, true, false, true, false, false, false, false, false, false] rfl rfl (take_ofW HT_.out HW_.out (by kernel_rfl)) (fun _ _ _ h => h) (Or.inl ⟨by rfl, ?_⟩) hHeld ?_ ?_
                  rotate_left
                  ·rintro w' ⟨sL, s0, s1, s2, s3, s4, s5⟩
                   go_simp
                   with_reducible rfl
                  rotate_left
                  ·simp only [Act.put, List.setIfInBounds_toArray, List.set_cons_zero, List.set_cons_succ, i64_w, i32_w]
                   rfl
                  refine take_ (i := 5) (N := some 40) (v := ?_) (a' := ?_) #[true, true, true, true, true, true, true, false, false, false, false, false, false] rfl rfl (take_ofW HT_.out HW_.out (by kernel_rfl)) (fun _ _ _ h => h) (Or.inl ⟨by rfl, ?_⟩) hHeld ?_ ?_
                  rotate_left
                  ·rintro w' ⟨sL, s0, s1, s2, s3, s4, s5⟩
                   go_simp
                   with_reducible rfl
                  rotate_left
                  ·simp only [Act.put, List.setIfInBounds_toArray, List.set_cons_zero, List.set_cons_succ, i64_w, i32_w]
                   rfl
                  refine take_ (i := 7) (N := some 42) (v := ?_) (a' := ?_) #[true, true, true, true, true, true, true, true, false, false, false, false, false] rfl rfl (take_ofW HT_.out HW_.out (by kernel_rfl)) (fun _ _ _ h => h) (Or.inl ⟨by rfl, ?_⟩) hHeld ?_ ?_
                  rotate_left
                  ·rintro w' ⟨sL, s0, s1, s2, s3, s4, s5⟩
                   go_simp
                   with_reducible rfl
                  rotate_left
                  ·simp only [Act.put, List.setIfInBounds_toArray, List.set_cons_zero, List.set_cons_succ, i64_w, i32_w]
                   rfl
                  refine take_ (i := 8) (N := some 43) (v := ?_) (a' := ?_) #[true, true, true, true, true, true, true, true, true, false, false, false, false] rfl rfl (take_ofW HT_.out HW_.out (by kernel_rfl)) (fun _ _ _ h => h) (Or.inl ⟨by rfl, ?_⟩) hHeld ?_ ?_
                  rotate_left
                  ·rintro w' ⟨sL, s0, s1, s2, s3, s4, s5⟩
                   go_simp
                   with_reducible rfl
                  rotate_left
                  ·simp only [Act.put, List.setIfInBounds_toArray, List.set_cons_zero, List.set_cons_succ, i64_w, i32_w]
                   rfl
                  refine one_ (i := 9) (N := some 44) #[true, true, true, true, true, true, true, true, true, true, false, false, false] rfl rfl (one_of HT_.out (by kernel_rfl)) (by decide) (fun K hK => ?_)
                  refine goes_ Try.func13 (by kernel_rfl) rfl #[.int .i64 a0, .agg #[.int .u64 c0, .int .u64 c1], .agg #[.int .u64 ((rd_T24 q x30_2).f0), .int .u64 ((rd_T24 q x30_2).f1)]] (by rfl) rfl rfl (by (try simp only [List.map_toArray, List.map_cons, List.map_nil]); first | done | rfl | (simp only [List.length_drop, List.length_take]; rfl)) ?_
                  with_reducible refine (tower_Mul.calls k2 a0 c0 c1 ((rd_T24 q x30_2).f0) ((rd_T24 q x30_2).f1) t150 t151 _ A31.out).mono ?_
                  rintro e w46 ⟨rfl, hb⟩
                  have HS4_ := (hb.cell (World.block_lt_of_cell? _ _ (hHeld.2.2.2.2.2.1))).trans (hHeld.2.2.2.2.2.1)
                  have HS5_ := (hb.cell (World.block_lt_of_cell? _ _ (hHeld.2.2.2.2.2.2))).trans (hHeld.2.2.2.2.2.2)
                  refine ⟨_, rfl, ?_⟩
                  replace HO_7 := kb HO_7 hb
                  replace BK2 := bb BK2 hb
                  replace BK143 := bb BK143 hb
                  replace BK148 := bb BK148 hb
                  replace HB := bh HB hb
                  (try clear hb)
                  (try clear hb2)
                  (try clear hk)
                  (try clear hi)
                  refine hK.out _ _ ⟨(blk_cell BK2.out 0).trans rfl, (blk_cell BK143.out 0).trans rfl, (blk_cell BK143.out 1).trans rfl, (blk_cell BK148.out 0).trans rfl, (blk_cell BK148.out 1).trans rfl, HS4_, HS5_⟩ (fun hHeld => ?_)
                  clear hK K
                  refine norm_ (a' := ?_) ?_ ?_
                  rotate_left
                  ·show Act.put _ (some 44) _ = _
                   simp only [Act.put, List.setIfInBounds_toArray, List.set_cons_zero, List.set_cons_succ, i64_w, i32_w]
                   rfl
                  refine one_ (i := 10) (N := some 45) #[true, true, true, true, true, true, true, true, true, true, true, false, false] rfl rfl (one_of HT_.out (by kernel_rfl)) (by decide) (fun K hK => ?_)
                  refine goes_ Try.func12 (by kernel_rfl) rfl #[.agg #[.int .u64 ((rd_T24 x7_2 x30_2).f0), .int .u64 ((rd_T24 x7_2 x30_2).f1)], .agg #[.int .u64 t150, .int .u64 t151]] (by rfl) rfl rfl (by (try simp only [List.map_toArray, List.map_cons, List.map_nil]); first | done | rfl | (simp only [List.length_drop, List.length_take]; rfl)) ?_
                  with_reducible refine (tower_Add.calls ((rd_T24 x7_2 x30_2).f0) ((rd_T24 x7_2 x30_2).f1) t150 t151 t152 t153 _ A32.out).mono ?_
                  rintro e w47 ⟨rfl, hb⟩
                  have HS4_ := (hb.cell (World.block_lt_of_cell? _ _ (hHeld.2.2.2.2.2.1))).trans (hHeld.2.2.2.2.2.1)
                  have HS5_ := (hb.cell (World.block_lt_of_cell? _ _ (hHeld.2.2.2.2.2.2))).trans (hHeld.2.2.2.2.2.2)
                  refine ⟨_, rfl, ?_⟩
                  replace HO_7 := kb HO_7 hb
                  replace BK2 := bb BK2 hb
                  replace BK143 := bb BK143 hb
                  replace BK148 := bb BK148 hb
                  replace HB := bh HB hb
                  (try clear hb)
                  (try clear hb2)
                  (try clear hk)
                  (try clear hi)
                  have p33 : 0 ≤ (x30_2 : Int) := of_decide_eq_true (by first | (with_reducible assumption) | assumption)
                  have q33 : (x30_2 : Int) < ((x7_2.length : Int) : Int) := of_decide_eq_true (by first | (with_reducible assumption) | assumption)
                  obtain ⟨go33, co33, eo33, gb33, gl33, cl33, HG33⟩ := Kd.R_form HO_7.out (by omega)
                  (first | cases eo33 | (injection eo33 with ea_ en_ ec_; (first | subst ea_ | (injection ea_ with ea_; subst ea_)); subst ec_; clear en_))
                  have GB33 := Aside0.mk gb33
                  have GG33 := Aside0.mk HG33
                  clear gb33 gl33 HG33
                  (first | simp only [add_plain] at hx149_0 | skip)
                  (first | simp only [add_plain] at hx149_1 | skip)
                  obtain ⟨ce33, hcl33, hM33, hcc33, hfr33⟩ := Kd.R_elem HO_7.out z24 (x30_2 : Int) p33 q33
                  obtain rfl := k24_openM hM33
                  have hx33_0 : World.cell? _ ⟨go33, (x30_2 : Int).toNat * 2, none⟩ = some (.int .u64 ((rd_T24 x7_2 x30_2).f0)) := hcc33 0 _ rfl
                  have hx33_1 : World.cell? _ ⟨go33, (x30_2 : Int).toNat * 2 + 1, none⟩ = some (.int .u64 ((rd_T24 x7_2 x30_2).f1)) := hcc33 1 _ rfl
                  have hf33_0 : World.frozen? _ ⟨go33, (x30_2 : Int).toNat * 2, none⟩ = false := hfr33 0
                  have hf33_1 : World.frozen? _ ⟨go33, (x30_2 : Int).toNat * 2 + 1, none⟩ = false := hfr33 1
                  clear hcl33 hcc33 hfr33 hM33
                  replace p33 := eq_true p33
                  replace q33 := eq_true q33
                  obtain ⟨ce48, hcl48, hM48, hcc48, hfr48⟩ := Kd.R_elem HO_7.out z24 (x30_2 : Int) (of_decide_eq_true (by first | (with_reducible assumption) | assumption)) (by have h_ : (x30_2 : Int) < ((x7_2.length : Int) : Int) := of_decide_eq_true (by first | (with_reducible assumption) | assumption); first | exact h_ | (have e_ := (Kd.R_reads' HO_7.out).1; omega) | simpa using h_)
                  obtain rfl := k24_openM hM48
                  have HP48 := (Kd.R_seg HO_7.out (x30_2 : Int) (of_decide_eq_true (by first | (with_reducible assumption) | assumption)) (by have h_ : (x30_2 : Int) < ((x7_2.length : Int) : Int) := of_decide_eq_true (by first | (with_reducible assumption) | assumption); first | exact h_ | (have e_ := (Kd.R_reads' HO_7.out).1; omega) | simpa using h_) (seg := [.int .u64 t152, .int .u64 t153]) (j := 0) hcl48 hcc48 (show 2 ≤ 2 from by decide) (x' := (⟨t152, t153⟩ : S24)) (k24_mkM _ _ _ (⟨t152, t153⟩ : S24) ) (fun _ hk => hk)).1
                  rw [← Ny154.out] at HP48
                  have HQ48 := Aside0.mk HP48
                  clear hcl48 hcc48 hfr48 hM48 HP48
                  refine hK.out _ _ ⟨(blk_cell BK2.out 0).trans rfl, (blk_cell BK143.out 0).trans rfl, (blk_cell BK143.out 1).trans rfl, (blk_cell BK148.out 0).trans rfl, (blk_cell BK148.out 1).trans rfl, HS4_, HS5_⟩ (fun hHeld => ?_)
                  clear hK K
                  refine norm_ (a' := ?_) ?_ ?_
                  rotate_left
                  ·show Act.put _ (some 45) _ = _
                   simp only [Act.put, List.setIfInBounds_toArray, List.set_cons_zero, List.set_cons_succ, i64_w, i32_w]
                   rfl
                  refine pure_ (i := 11) (N := some 46) (v := ?_) (a' := ?_) #[true, true, true, true, true, true, true, true, true, true, true, true, false] rfl rfl (any_of HT_.out (by kernel_rfl)) (fun _ _ _ h => h) (Or.inl ⟨by rfl, ?_⟩) ?_ ?_
                  rotate_left
                  ·intro w'
                   go_simp
                   with_reducible rfl
                  rotate_left
                  ·simp only [Act.put, List.setIfInBounds_toArray, List.set_cons_zero, List.set_cons_succ, i64_w, i32_w]
                   rfl
                  refine last_ (i := 12) (N := none) #[true, true, true, true, true, true, true, true, true, true, true, true, true] rfl rfl (one_of HT_.out (by kernel_rfl)) (by decide) (fun K hK => ?_)
                  refine skip_ (w1 := ?_) (by rfl) rfl ?_ ?_
                  rotate_left
                  ·go_simp
                   rfl
                  refine hK.out _ _ ?_
                  clear hK K
                  refine done_ (done_of HT_.out (by kernel_rfl)) ?_
                  try gi_wp2_with fail
                  have hn2 : g2 ≠ go33 := by have h1 := GB33.out; have h2 := blk_lt B2'.out; omega
                  have hn6 : g6 ≠ go33 := by have h1 := GB33.out; have h2 := blk_lt B6'.out; omega
                  have hn9 : g9 ≠ go33 := by have h_ := Kd.R_away HO_7.out (fun _ hk => hk); intro e_; exact h_ (by rw [e_]; rfl)
                  have n0_ : Aside0 (Kd.R k24 24 ((w47.setCell ⟨go33, (x30_2 : Int).toNat * 2, none⟩ (.int .u64 t152)).setCell ⟨go33, (x30_2 : Int).toNat * 2 + 1, none⟩ (.int .u64 t153)) W.heap.size (fun k_ => k_ ≠ g9) (.slice (some ⟨go33, 0, none⟩) x7_2.length co45) y154) := ⟨HQ48.out⟩
                  have n2_ : Aside0 (((w47.setCell ⟨go33, (x30_2 : Int).toNat * 2, none⟩ (.int .u64 t152)).setCell ⟨go33, (x30_2 : Int).toNat * 2 + 1, none⟩ (.int .u64 t153)).heap[g2]? = some (.cells #[.int .i64 a0] 3 (0, 0))) := ⟨blk_far (blk_far BK2.out hn2 _) hn2 _⟩
                  have n3_ : Aside0 (((w47.setCell ⟨go33, (x30_2 : Int).toNat * 2, none⟩ (.int .u64 t152)).setCell ⟨go33, (x30_2 : Int).toNat * 2 + 1, none⟩ (.int .u64 t153)).heap[g6]? = some (.cells #[.int .u64 c0, .int .u64 c1] 24 (0, 0))) := ⟨blk_far (blk_far BK143.out hn6 _) hn6 _⟩
                  have n4_ : Aside0 (((w47.setCell ⟨go33, (x30_2 : Int).toNat * 2, none⟩ (.int .u64 t152)).setCell ⟨go33, (x30_2 : Int).toNat * 2 + 1, none⟩ (.int .u64 t153)).heap[g9]? = some (.cells #[.int .u64 ((rd_T24 q x30_2).f0), .int .u64 ((rd_T24 q x30_2).f1)] 24 (0, 0))) := ⟨blk_far (blk_far BK148.out hn9 _) hn9 _⟩
                  have n5_ : Aside0 (Below W.heap.size W ((w47.setCell ⟨go33, (x30_2 : Int).toNat * 2, none⟩ (.int .u64 t152)).setCell ⟨go33, (x30_2 : Int).toNat * 2 + 1, none⟩ (.int .u64 t153))) := ⟨below_set (below_set HB.out GB33.out) GB33.out⟩
                  clear hn2 hn6 hn9
                  (try clear HO_7)
                  (try clear BK2)
                  (try clear BK143)
                  (try clear BK148)
                  (try clear HB)
                  generalize ((w47.setCell ⟨go33, (x30_2 : Int).toNat * 2, none⟩ (.int .u64 t152)).setCell ⟨go33, (x30_2 : Int).toNat * 2 + 1, none⟩ (.int .u64 t153)) = w49 at n0_ n2_ n3_ n4_ n5_ ⊢
                  have HO_7 := n0_
                  have BK2 := n2_
                  have BK143 := n3_
                  have BK148 := n4_
                  have HB := n5_
                  clear n0_ n2_ n3_ n4_ n5_
                  replace HO_7 := Aside0.mk (Kd.R_drew HO_7.out)
                  replace BK2 := Aside0.mk (blk_drew BK2.out)
                  replace BK143 := Aside0.mk (blk_drew BK143.out)
                  replace BK148 := Aside0.mk (blk_drew BK148.out)
                  replace HB := Aside0.mk (below_drew1 HB.out)
                  have p155 : 0 ≤ ((ji34) : Int) := of_decide_eq_true (by first | (with_reducible assumption) | assumption)
                  have q155 : (ji34) < (y154.length : Int) := (by have h_ : ((ji34) : Int) < ((x7_2.length : Int) : Int) := of_decide_eq_true (by first | (with_reducible assumption) | assumption); first | (have e_ := (Kd.R_reads' HO_7.out).1; omega) | simpa only [Ny154.out, List.length_set] using h_)
                  have ql155 : (((ji34) : Int) < ((x7_2.length : Int) : Int)) = True := eq_true (of_decide_eq_true (by first | (with_reducible assumption) | assumption))
                  (try (obtain ⟨Ap_, cp_, ep_⟩ := Kd.R_slice HO_7.out; subst ep_))
                  obtain ⟨ad155, e155, hx155_0, hx155_1⟩ := at_T24 (Kd.R_reads' HO_7.out).2.2 (ji34) p155 q155
                  obtain rfl : (⟨go33, 0, none⟩ : Addr) = ad155 := (by injection e155)
                  (first | simp only [add_plain] at hx155_0 | simp only [add_at] at hx155_0 | simp only [Addr.add, Nat.zero_add] at hx155_0 | skip)
                  (first | simp only [add_plain] at hx155_1 | simp only [add_at] at hx155_1 | simp only [Addr.add, Nat.zero_add] at hx155_1 | skip)
                  replace p155 := eq_true p155
                  replace q155 := eq_true q155
                  refine start_round (n := 12) (S := fun w' => w'.cell? ⟨g9, 0, none⟩ = some (.int .u64 ((rd_T24 q x30_2).f0)) ∧ w'.cell? ⟨g9, 1, none⟩ = some (.int .u64 ((rd_T24 q x30_2).f1)) ∧ w'.cell? ⟨go33, ((ji34)).toNat * 2, none⟩ = some (.int .u64 ((rd_T24 y154 (ji34)).f0)) ∧ w'.cell? ⟨go33, ((ji34)).toNat * 2 + 1, none⟩ = some (.int .u64 ((rd_T24 y154 (ji34)).f1))) (ds := [11]) #[false, false, false, false, false, false, false, false, false, false, false, false] ?hQ rfl (by kernel_rfl) rfl rfl ⟨(blk_cell BK148.out 0).trans rfl, (blk_cell BK148.out 1).trans rfl, hx155_0, hx155_1⟩ (fun hHeld => ?_); (case hQ => rintro ⟨_, _, h, _⟩; cases h); refine with_tabW lstab11 lsbits11 (fun HT_ HW_ => ?_)
                  generalize w49.drew = w50 at HO_7 BK2 BK143 BK148 HB HQ48 hx155_0 hx155_1 hHeld ⊢
                  refine pure_ (i := 0) (N := some 47) (v := ?_) (a' := ?_) #[true, false, false, false, false, false, false, false, false, false, false, false] rfl rfl (any_of HT_.out (by kernel_rfl)) (fun _ _ _ h => h) (Or.inl ⟨by rfl, ?_⟩) ?_ ?_
                  rotate_left
                  ·intro w'
                   go_simp
                   with_reducible rfl
                  rotate_left
                  ·simp only [Act.put, List.setIfInBounds_toArray, List.set_cons_zero, List.set_cons_succ, i64_w, i32_w]
                   rfl
                  refine pure_ (i := 1) (N := some 48) (v := ?_) (a' := ?_) #[true, true, false, false, false, false, false, false, false, false, false, false] rfl rfl (any_of HT_.out (by kernel_rfl)) (fun _ _ _ h => h) (Or.inl ⟨by rfl, ?_⟩) ?_ ?_
                  rotate_left
                  ·intro w'
                   go_simp
                   with_reducible rfl
                  rotate_left
                  ·simp only [Act.put, List.setIfInBounds_toArray, List.set_cons_zero, List.set_cons_succ, i64_w, i32_w]
                   rfl
                  refine pure_ (i := 2) (N := some 49) (v := ?_) (a' := ?_) #[true, true, true, false, false, false, false, false, false, false, false, false] rfl rfl (any_of HT_.out (by kernel_rfl)) (fun _ _ _ h => h) (Or.inl ⟨by rfl, ?_⟩) ?_ ?_
                  rotate_left
                  ·intro w'
                   go_simp
                   with_reducible rfl
                  rotate_left
                  ·simp only [Act.put, List.setIfInBounds_toArray, List.set_cons_zero, List.set_cons_succ, i64_w, i32_w]
                   rfl
                  refine pure_ (i := 3) (N := some 50) (v := ?_) (a' := ?_) #[true, true, true, true, false, false, false, false, false, false, false, false] rfl rfl (any_of HT_.out (by kernel_rfl)) (fun _ _ _ h => h) (Or.inl ⟨by rfl, ?_⟩) ?_ ?_
                  rotate_left
                  ·intro w'
                   go_simp
                   with_reducible rfl
                  rotate_left
                  ·simp only [Act.put, List.setIfInBounds_toArray, List.set_cons_zero, List.set_cons_succ, i64_w, i32_w]
                   rfl
                  refine pure_ (i := 4) (N := some 51) (v := ?_) (a' := ?_) #[true, true, true, true, true, false, false, false, false, false, false, false] rfl rfl (any_of HT_.out (by kernel_rfl)) (fun _ _ _ h => h) (Or.inl ⟨by rfl, ?_⟩) ?_ ?_
                  rotate_left
                  ·intro w'
                   go_simp
                   with_reducible rfl
                  rotate_left
                  ·simp only [Act.put, List.setIfInBounds_toArray, List.set_cons_zero, List.set_cons_succ, i64_w, i32_w]
                   rfl
                  refine pure_ (i := 5) (N := some 52) (v := ?_) (a' := ?_) #[true, true, true, true, true, true, false, false, false, false, false, false] rfl rfl (any_of HT_.out (by kernel_rfl)) (fun _ _ _ h => h) (Or.inl ⟨by rfl, ?_⟩) ?_ ?_
                  rotate_left
                  ·intro w'
                   go_simp
                   with_reducible rfl
                  rotate_left
                  ·simp only [Act.put, List.setIfInBounds_toArray, List.set_cons_zero, List.set_cons_succ, i64_w, i32_w]
                   rfl
                  refine pure_ (i := 6) (N := some 53) (v := ?_) (a' := ?_) #[true, true, true, true, true, true, true, false, false, false, false, false] rfl rfl (any_of HT_.out (by kernel_rfl)) (fun _ _ _ h => h) (Or.inl ⟨by rfl, ?_⟩) ?_ ?_
                  rotate_left
                  ·intro w'
                   go_simp
                   with_reducible rfl
                  rotate_left
                  ·simp only [Act.put, List.setIfInBounds_toArray, List.set_cons_zero, List.set_cons_succ, i64_w, i32_w]
                   rfl
                  refine take_ (i := 7) (N := some 54) (v := ?_) (a' := ?_) #[true, true, true, true, true, true, true, true, false, false, false, false] rfl rfl (take_ofW HT_.out HW_.out (by kernel_rfl)) (fun _ _ _ h => h) (Or.inl ⟨by rfl, ?_⟩) hHeld ?_ ?_
                  rotate_left
                  ·rintro w' ⟨s0, s1, s2, s3⟩
                   go_simp
                   with_reducible rfl
                  rotate_left
                  ·simp only [Act.put, List.setIfInBounds_toArray, List.set_cons_zero, List.set_cons_succ, i64_w, i32_w]
                   rfl
                  refine take_ (i := 8) (N := some 55) (v := ?_) (a' := ?_) #[true, true, true, true, true, true, true, true, true, false, false, false] rfl rfl (take_ofW HT_.out HW_.out (by kernel_rfl)) (fun _ _ _ h => h) (Or.inl ⟨by rfl, ?_⟩) hHeld ?_ ?_
                  rotate_left
                  ·rintro w' ⟨s0, s1, s2, s3⟩
                   go_simp
                   with_reducible rfl
                  rotate_left
                  ·simp only [Act.put, List.setIfInBounds_toArray, List.set_cons_zero, List.set_cons_succ, i64_w, i32_w]
                   rfl
                  refine one_ (i := 9) (N := some 56) #[true, true, true, true, true, true, true, true, true, true, false, false] rfl rfl (one_of HT_.out (by kernel_rfl)) (by decide) (fun K hK => ?_)
                  refine goes_ Try.func12 (by kernel_rfl) rfl #[.agg #[.int .u64 ((rd_T24 y154 (ji34)).f0), .int .u64 ((rd_T24 y154 (ji34)).f1)], .agg #[.int .u64 ((rd_T24 q x30_2).f0), .int .u64 ((rd_T24 q x30_2).f1)]] (by rfl) rfl rfl (by (try simp only [List.map_toArray, List.map_cons, List.map_nil]); first | done | (simp only [hji34]; rfl) | rfl | (simp only [List.length_drop, List.length_take]; rfl)) ?_
                  with_reducible refine (tower_Add.calls ((rd_T24 y154 (ji34)).f0) ((rd_T24 y154 (ji34)).f1) ((rd_T24 q x30_2).f0) ((rd_T24 q x30_2).f1) t156 t157 _ A37.out).mono ?_
                  rintro e w51 ⟨rfl, hb⟩
                  have HS2_ := (hb.cell (World.block_lt_of_cell? _ _ (hHeld.2.2.1))).trans (hHeld.2.2.1)
                  have HS3_ := (hb.cell (World.block_lt_of_cell? _ _ (hHeld.2.2.2))).trans (hHeld.2.2.2)
                  refine ⟨_, rfl, ?_⟩
                  replace HO_7 := kb HO_7 hb
                  replace BK2 := bb BK2 hb
                  replace BK143 := bb BK143 hb
                  replace BK148 := bb BK148 hb
                  replace HB := bh HB hb
                  (try clear hb)
                  (try clear hb2)
                  (try clear hk)
                  (try clear hi)
                  have p38 : 0 ≤ ((ji34) : Int) := of_decide_eq_true (by first | (with_reducible assumption) | assumption)
                  have q38 : ((ji34) : Int) < ((x7_2.length : Int) : Int) := of_decide_eq_true (by first | (with_reducible assumption) | assumption)
                  obtain ⟨ce38, hcl38, hM38, hcc38, hfr38⟩ := Kd.R_elem HO_7.out z24 ((ji34) : Int) p38 q38
                  obtain rfl := k24_openM hM38
                  have hx38_0 : World.cell? _ ⟨go33, ((ji34) : Int).toNat * 2, none⟩ = some (.int .u64 ((rd_T24 y154 (ji34)).f0)) := hcc38 0 _ rfl
                  have hx38_1 : World.cell? _ ⟨go33, ((ji34) : Int).toNat * 2 + 1, none⟩ = some (.int .u64 ((rd_T24 y154 (ji34)).f1)) := hcc38 1 _ rfl
                  have hf38_0 : World.frozen? _ ⟨go33, ((ji34) : Int).toNat * 2, none⟩ = false := hfr38 0
                  have hf38_1 : World.frozen? _ ⟨go33, ((ji34) : Int).toNat * 2 + 1, none⟩ = false := hfr38 1
                  clear hcl38 hcc38 hfr38 hM38
                  replace p38 := eq_true p38
                  replace q38 := eq_true q38
                  obtain ⟨ce52, hcl52, hM52, hcc52, hfr52⟩ := Kd.R_elem HO_7.out z24 ((ji34) : Int) (of_decide_eq_true (by first | (with_reducible assumption) | assumption)) (by have h_ : ((ji34) : Int) < ((x7_2.length : Int) : Int) := of_decide_eq_true (by first | (with_reducible assumption) | assumption); first | exact h_ | (have e_ := (Kd.R_reads' HO_7.out).1; omega) | simpa using h_)
                  obtain rfl := k24_openM hM52
                  have HP52 := (Kd.R_seg HO_7.out ((ji34) : Int) (of_decide_eq_true (by first | (with_reducible assumption) | assumption)) (by have h_ : ((ji34) : Int) < ((x7_2.length : Int) : Int) := of_decide_eq_true (by first | (with_reducible assumption) | assumption); first | exact h_ | (have e_ := (Kd.R_reads' HO_7.out).1; omega) | simpa using h_) (seg := [.int .u64 t156, .int .u64 t157]) (j := 0) hcl52 hcc52 (show 2 ≤ 2 from by decide) (x' := (⟨t156, t157⟩ : S24)) (k24_mkM _ _ _ (⟨t156, t157⟩ : S24) ) (fun _ hk => hk)).1
                  rw [← Ny158.out] at HP52
                  have HQ52 := Aside0.mk HP52
                  clear hcl52 hcc52 hfr52 hM52 HP52
                  refine hK.out _ _ ⟨(blk_cell BK148.out 0).trans rfl, (blk_cell BK148.out 1).trans rfl, HS2_, HS3_⟩ (fun hHeld => ?_)
                  clear hK K
                  refine norm_ (a' := ?_) ?_ ?_
                  rotate_left
                  ·show Act.put _ (some 56) _ = _
                   simp only [Act.put, List.setIfInBounds_toArray, List.set_cons_zero, List.set_cons_succ, i64_w, i32_w]
                   rfl
                  refine pure_ (i := 10) (N := some 57) (v := ?_) (a' := ?_) #[true, true, true, true, true, true, true, true, true, true, true, false] rfl rfl (any_of HT_.out (by kernel_rfl)) (fun _ _ _ h => h) (Or.inl ⟨by rfl, ?_⟩) ?_ ?_
                  rotate_left
                  ·intro w'
                   go_simp
                   with_reducible rfl
                  rotate_left
                  ·simp only [Act.put, List.setIfInBounds_toArray, List.set_cons_zero, List.set_cons_succ, i64_w, i32_w]
                   rfl
                  refine last_ (i := 11) (N := none) #[true, true, true, true, true, true, true, true, true, true, true, true] rfl rfl (one_of HT_.out (by kernel_rfl)) (by decide) (fun K hK => ?_)
                  refine skip_ (w1 := ?_) (by rfl) rfl ?_ ?_
                  rotate_left
                  ·go_simp
                   rfl
                  refine hK.out _ _ ?_
                  clear hK K
                  refine done_ (done_of HT_.out (by kernel_rfl)) ?_
                  gi_wp2_with (refine region_round (by rintro ⟨_, _, h, _⟩; cases h) rfl ?_; go_wp2)
                  gi_roundg k2
                  case measure => omega
                  case rel => exact ⟨y158, ji34, rfl, H', ⟨by have := HK2.out; omega⟩, ⟨Kd.R_mono HQ52.out (fun _ _ => trivial)⟩, ⟨below_set (below_set HB.out GB33.out) GB33.out⟩⟩
                 ·rw [if_neg c36] at H
                  exact absurd H (by simp)
                ·rw [if_neg c35] at H
                 exact absurd H (by simp)
               ·rw [if_neg c30] at H
                exact absurd H (by simp)
              ·rw [if_neg c29] at H
               exact absurd H (by simp)
             ·rw [if_neg c28] at H
              exact absurd H (by simp)
            ·rw [if_neg c27] at H
             have c27b0 : decide (x30_2 < (q.length : Int)) = false := decide_eq_false c27
             clear c27
             obtain rfl := Option.some.inj H
             refine wpIn_seq_k (fun K hK => ?_)
             refine region_round (by rintro ⟨_, _, h, _⟩; cases h) rfl ?_
             go_wp2
             refine wpIn_seq_k (fun K2 hK2 => ?_)
             refine wpIn_cond_false rfl ?_
             refine wpIn_exit ?_
             simp only [Exit.then, Exit.inBlock, ↓reduceIte]
             refine hK0 _ _ ?_
             clear hK0 hK2 K0 K2
             obtain ⟨A7, c7, e7⟩ := Kd.R_slice HO_7.out
             subst e7
             have B5w := Aside0.mk (blk_below B5'.out HB.out)
             have hc5 := zc1 B5w
             have hf5 := blk_frozen B5w.out 0
             refine region_round (by rintro ⟨_, _, h, _⟩; cases h) rfl ?_
             go_wp2
             have nl5 : gl ≠ g5 := blk_ne BL.out B5.out (by decide)
             have nt5 : gt ≠ g5 := blk_ne BT.out B5.out (by decide)
             have na5 : ga ≠ g5 := Ne.symm N5a
             have hgl := blk_lt BL.out
             have hgt := blk_lt BT.out
             have hga2 := blk_lt BA.out
             have hg3 := blk_lt B3.out
             have hz := HZ.out
             refine ⟨trivial, (KeepsOthers.trans ⟨HB.out.size, fun j o hj _ => (HB.out.block j (blk_lt hj)).trans hj⟩ (KeepsOthers.setCell _ _ _)), ?_, s, x7_2, _, HX2.out, HA2.out, ?_, blk_far BK2.out N25.out _, blk_put B5w.out 0 _ rfl, ?_, ?_, below_set (below_step HBW.out HB.out) G5.out⟩
             · rintro j hj
               have e1 : j ≠ g5 := by rcases hj with rfl | rfl | rfl <;> assumption
               have e2 : j < W.heap.size := by rcases hj with rfl | rfl | rfl <;> omega
               exact (Below.heap_setCell _ _ _ j e1).trans (HB.out.block j e2)
             · rw [HNL.out, HQ.out, List.length_append, List.length_singleton]
             · exact Kd.R_lower (Kd.R_mono (Kd.R_bound (Kd.R_set HO_7.out B5w.out (by decide) 0 _)) (fun k_ hk => by have := hk.2.1; omega)) (below_size HBW.out)
             · have h1 := (Below.refl 0 wr).setCell (p := ⟨g5, 0, none⟩) (Nat.zero_le _) (.slice A7 x7_2.length c7)
               exact Nat.le_trans hz (Nat.le_trans HB.out.size h1.size)
      case done =>
        rintro D W hD ⟨rest, q, v, hx, ha, hq, h2, h5, hR, hz, hb⟩ hK
        have er : rest = [] := by
          have h2 := congrArg List.length hx
          rw [List.length_append] at h2
          exact List.eq_nil_of_length_eq_zero (by omega)
        subst er
        obtain rfl := Option.some.inj ha
        obtain ⟨A9, c9, e9⟩ := Kd.R_slice hR
        subst e9
        have hDlt := blk_lt hK
        have hDw : w.heap.size ≤ D := Nat.le_trans (below_size HB.out) hD
        have B5' := Aside0.mk h5
        have HR := Aside0.mk hR
        have HBW := Aside0.mk hb
        have HKD := Aside0.mk hK
        have HDL := Aside0.mk hDlt
        have HDW := Aside0.mk hDw
        clear h2 h5 hR hb hx ha hz hq hK hDlt hDw hD hxl hsz hxs hp
        have HW := Aside0.mk (Below.refl W.heap.size W)
        have hc5 := zc1 B5'
        gi_wp2
        go_wp2
        clear hc5
        go_loopg [10, 62] k (fun kq v10 v62 w' => ∃ (x10_2 : List Bool) (x62_2 : Int), v62 = .int .i64 x62_2 ∧ Aside0 (ls_out kq x10_2 q (q.length : Int) x62_2 = some r) ∧ Aside0 (kq ≤ k) ∧ Aside0 (Kd.R Kd.bool 4 w' W.heap.size (fun _ => True) v10 x10_2) ∧ Aside0 (Below W.heap.size W w'))
        case atStart => exact ⟨[], 0, rfl, HE, ⟨Nat.le_refl _⟩, ⟨Kd.R_nil _ _ _ _ _⟩, HW⟩
        case round =>
          clear HW HB
          obtain ⟨x10_2, x62_2, rfl, HA, HK2, HO_10, HB⟩ := hrel
          have HO_60 := Aside0.mk (Kd.R_below HR.out HB.out)
          cases gk with
          | zero => exact absurd HA.out (by simp [ls_out])
          | succ k2 =>
            have H := HA.out
            clear HA
            simp only [ls_out] at H
            by_cases c54 : x62_2 < (q.length : Int)
            ·rw [if_pos c54] at H
             have c54b0 : decide (x62_2 < (q.length : Int)) = true := decide_eq_true c54
             clear c54
             by_cases c55 : 0 ≤ x62_2
             ·rw [if_pos c55] at H
              have c55b0 : decide (0 ≤ x62_2) = true := decide_eq_true c55
              clear c55
              by_cases c56 : x62_2 < (q.length : Int)
              ·rw [if_pos c56] at H
               have c56b0 : decide (x62_2 < (q.length : Int)) = true := decide_eq_true c56
               clear c56
               by_cases c57 : x10_2.length < 140737488355328
               ·rw [if_pos c57] at H
                have LMc57 := Aside0.mk c57
                clear c57
                obtain ⟨y161, hy161⟩ : ∃ y_ : List Bool, y_ = (x10_2 ++ [(!(((rd_T24 q x62_2).f0) == 0) || (!(((rd_T24 q x62_2).f1) == 0)))]) := ⟨_, rfl⟩
                replace H : (ls_out k2 y161 q (q.length : Int) (wrap64 (x62_2 + 1))) = some r := by first | (rw [hy161]; with_reducible exact H) | (have H2_ := (Option.bind_some _ _).symm.trans H; rw [hy161]; with_reducible exact H2_) | (have H2_ := (Option.bind_some _ _).symm.trans H; with_reducible exact H2_) | with_reducible exact H | (rw [hy161]; exact H) | exact H
                have Ny161 := Aside0.mk hy161
                clear hy161
                have H' := Aside0.mk H
                clear H
                have p159 : 0 ≤ (x62_2 : Int) := of_decide_eq_true (by first | (with_reducible assumption) | assumption)
                have q159 : x62_2 < (q.length : Int) := of_decide_eq_true (by first | (with_reducible assumption) | assumption)
                (try (obtain ⟨Ap_, cp_, ep_⟩ := Kd.R_slice HO_60.out; subst ep_))
                obtain ⟨ad159, e159, hx159_0, hx159_1⟩ := at_T24 (Kd.R_reads' HO_60.out).2.2 x62_2 p159 q159
                cases e159
                replace p159 := eq_true p159
                replace q159 := eq_true q159
                go_wp2_with (first | ((with_reducible refine gate_dst (N := 12) rfl ?_); refine box_event ?hg (N := 12) ?hd (cs := #[.int .u64 0, .int .u64 0]) (t := 24) ?hr ?_; (case hd => rfl); (case hg => rfl); (case hr => first | (go_simp; done) | (go_simp; rfl)); intro g12 hg w58 hbox hb; have BK160 := Aside0.mk hbox; have GE160 := ge hg HB; replace HO_10 := kb HO_10 hb; replace HB := bh HB hb; clear hb hbox hg; clear HO_60; obtain ⟨hcz60_0, hcz60_1⟩ := zc2 BK160; obtain ⟨hfz60_0, hfz60_1⟩ := zf2 BK160) | ((with_reducible refine gate_builtin (b := .append) (xs := #[.tmp 66, .tmp 70]) rfl ?_); at_builtin; refine Kd.R_append Kd.bool (w0 := W) W.heap.size rfl (.tmp 66) (.tmp 70) 35 4 (.bool false) 1 rfl Try.underlying35 info4 rfl (by decide) (by omega) u10 x10_2 (!(((rd_T24 q x62_2).f0) == 0) || (!(((rd_T24 q x62_2).f1) == 0))) [.bool (!(((rd_T24 q x62_2).f0) == 0) || (!(((rd_T24 q x62_2).f1) == 0)))] (fun _ => True) (fun _ => False) rfl (by first | (go_simp; done) | (go_simp; rfl)) ?aP (fun _ hk => hk.elim) ?aF ?aO ?aB ?aS ?aL ?_; (case aP => exact rfl); (case aB => exact (bq HB.out)); (case aF => exact (fun _ _ => trivial)); (case aO => exact (by (with_reducible repeat refine kl ?_); exact Kd.R_mono (Kd.R_far (p := ⟨g12, 1, none⟩) (Kd.R_far (p := ⟨g12, 0, none⟩) (Kd.R_types HO_10.out BK160.out (by decide)) (fun _ hk => hk.2) (.int .u64 ((rd_T24 q x62_2).f0))) (fun _ hk => hk.2) (.int .u64 ((rd_T24 q x62_2).f1))) (fun _ hk => trivial))); (case aS => exact (below_size (bq HB.out))); (case aL => have := LMc57.out; omega); intro v162 w61 ho hb hg hat; rw [← Ny161.out] at ho; have HO163 := Aside0.mk ho; replace HB := Aside0.mk hb; clear HO_10; clear ho hb hg hat))
                go_roundg k2
                case measure => omega
                case rel => exact ⟨y161, wrap64 (x62_2 + 1), rfl, H', ⟨by have := HK2.out; omega⟩, ⟨kr HO163.out⟩, ⟨bq HB.out⟩⟩
               ·rw [if_neg c57] at H
                exact absurd H (by simp)
              ·rw [if_neg c56] at H
               exact absurd H (by simp)
             ·rw [if_neg c55] at H
              exact absurd H (by simp)
            ·rw [if_neg c54] at H
             have c54b0 : decide (x62_2 < (q.length : Int)) = false := decide_eq_false c54
             clear c54
             obtain rfl := Option.some.inj H
             go_wp2
             have hKD := (HB.out.block D HDL.out).trans HKD.out
             have hsz2 := HDL.out
             have hdw := HDW.out
             refine ⟨by simp, .inl ⟨_, _, rfl, run_takeDeferred hKD, ?_⟩⟩
             have h1 : Kd.R Kd.bool 4 _ W.heap.size (fun k_ => k_ ≠ D) u10 x10_2 := Kd.R_mono (Kd.R_bound HO_10.out) (fun k_ hk => by have := hk.2.1; omega)
             exact ⟨_, results_tmp rfl _ _ _, _, rfl, Kd.R_mono (Kd.R_lower (Kd.R_step h1 (fun k_ ho _ => World.putObj_heap_other ho)) (below_size HBW.out)) (fun _ _ => trivial), below_putObj (below_step HBW.out HB.out) D _ hdw⟩
    · rw [if_neg hb3] at h
      cases h
end Go.Proofs.Ytlegcabfgkccmaa.P
