/- Coefficients and values, both ways, are one. Conditions: none but the arguments' kinds. -/
import Derived.Test.YthnaalocgoeddaaBrBackAt
import Derived.Test.YthnaalocgoeddaaBrAwake
import Derived.Test.YthnaalocgoeddaaPx16
set_option linter.unusedVariables false
set_option linter.unusedSimpArgs false
namespace Go.Proofs.Ythnaalocgoeddaa.Pure
open Go.RowKit Go.Proofs.YthnaalocgoeddaaT Go.Proofs.Ythnaalocgoeddaa.P Go.Proofs.Ythnaalocgoeddaa.Br Go.Proofs.YthnaalocgoeddaaW.PrintWords Go.Proofs.YthnaalocgoeddaaW.PrintLast Go.Proofs.YthnaalocgoeddaaW.PrintMore
theorem LB_l0 {c y : List (T 7)} (hc : c.length < 1000) (hlow : ∀ i (h1 : i < y.length) (h2 : i < c.length), c[i] = y[i]) (hup : ∀ i (h2 : i < c.length), y.length ≤ i → c[i] = 0) : ∀ d i : Nat, i + d = c.length →
    Ev (fun k => steeplelaw17_LineBack.l0 k (y.map elS) (c.map elS) (i : Int)) true
  | 0, i, h => by
    refine Ev.succ ?_
    simp only [steeplelaw17_LineBack.l0]
    exact Ev.neg (by rw [List.length_map]; omega) (Ev.bind awake_ev (Ev.now _))
  | d + 1, i, h => by
    have hi : i < c.length := by omega
    refine Ev.succ ?_
    simp only [steeplelaw17_LineBack.l0]
    refine Ev.pos (by rw [List.length_map]; omega) ?_
    rw [rd_elS hi, elS_f0, elS_f1, wrap_succ i (by omega), List.length_map]
    by_cases hy : i < y.length
    · refine Ev.pos (by omega) (Ev.pos (by omega) ?_)
      rw [rd_elS hy, elS_f0, elS_f1]
      exact Ev.neg (by rw [same_pair (hlow i hy hi)]; decide) (Ev.neg (by omega) (LB_l0 hc hlow hup d (i + 1) (by omega)))
    · refine Ev.neg (by omega) (Ev.pos (by omega) (Ev.pos (by omega) ?_))
      rw [hup i hi (by omega), hi_zero, lo_zero]
      exact Ev.neg (by decide) (LB_l0 hc hlow hup d (i + 1) (by omega))
theorem valE_ok {a d : Int} {y : List (T 7)} (h : valE a d y = 0) : ∃ j n : Nat, a = (j : Int) ∧ d = (n : Int) ∧ j ≤ 7 ∧ n ≤ 8 ∧ fitsB j n = true ∧ 0 < y.length ∧ y.length ≤ n + 1 ∧ ∀ x ∈ y, InL j x := by
  unfold valE at h
  by_cases h1 : a < 0 ∨ a > 7
  · rw [if_pos h1] at h; exact absurd h (by decide)
  rw [if_neg h1] at h
  obtain ⟨j, rfl⟩ := Int.eq_ofNat_of_zero_le (show 0 ≤ a by omega)
  rw [Int.toNat_natCast] at h
  by_cases h2 : d < 0 ∨ fitsB j d.toNat = false ∨ y.length = 0 ∨ (y.length : Int) > d + 1
  · rw [if_pos h2] at h; exact absurd h (by decide)
  rw [if_neg h2] at h
  obtain ⟨n, rfl⟩ := Int.eq_ofNat_of_zero_le (show 0 ≤ d by omega)
  rw [Int.toNat_natCast] at h2
  have hf : fitsB j n = true := by
    cases hq : fitsB j n with
    | true => rfl
    | false => exact absurd (.inr (.inl hq)) h2
  have hf' := hf
  unfold fitsB at hf'
  rw [decide_eq_true_eq] at hf'
  refine ⟨j, n, rfl, rfl, by omega, hf'.1, hf, by omega, by omega, fun x hx => ?_⟩
  cases hq : y.all (ofB (j : Int)) with
  | true =>
    obtain ⟨j', e, _, hi⟩ := ofB_iff.1 (List.all_eq_true.1 hq x hx)
    obtain rfl : j = j' := by omega
    exact hi
  | false =>
    rw [hq, if_neg (by decide)] at h
    exact absurd h (by decide)
theorem may_val {j n : Nat} {y : List (T 7)} (hj : j ≤ 7) (hn : n ≤ 8) (hf : fitsB j n = true) (hin : ∀ x ∈ y, InL j x) : mayE (j : Int) (valL y (n + 1)) = 0 := by
  unfold mayE
  have hf' := hf
  unfold fitsB at hf'
  rw [decide_eq_true_eq] at hf'
  rw [if_neg (by omega), valL_length, Int.toNat_natCast, Nat.add_sub_cancel, hf, if_neg (by rintro (h | h); omega; exact absurd h (by decide)), if_pos]
  refine List.all_eq_true.2 fun x hx => ?_
  unfold valL at hx
  obtain ⟨m, hm, rfl⟩ := List.mem_map.1 hx
  have hm' := List.mem_range.1 hm
  refine ofB_nat hj (hv_in hj ?_ y hin)
  show enc 7 (pl m) < _
  rw [enc_pl (Nat.lt_of_le_of_lt (show m ≤ 8 by omega) (by decide))]
  omega
theorem LB_j3 {a d : Int} {y : List (T 7)} (hl : y.length ≤ 12) (x0 x1 : Int) {v : List S28} (h : valE a d y = 0 → v = (valL y (d.toNat + 1)).map elS) (h' : valE a d y ≠ 0 → v = []) :
    Ev (fun k => steeplelaw17_LineBack.j3 k a (y.map elS) v (valE a d y) (valE a d y) x0 x1 d) true := by
  refine Ev.succ ?_
  simp only [steeplelaw17_LineBack.j3]
  refine Ev.pos trivial ?_
  by_cases h0 : valE a d y = 0
  · refine Ev.pos h0 ?_
    rw [h h0]
    obtain ⟨j, n, rfl, rfl, hj, hn, hf, hy0, hyn, hin⟩ := valE_ok h0
    rw [Int.toNat_natCast]
    obtain ⟨c, c1, c2, c3, c4⟩ := Powers_ok (may_val hj hn hf hin)
    rw [valL_length] at c1
    obtain ⟨s1, s2⟩ := hv_same (n := n) (by omega) c1 hyn (fun m hm => by
      have hm' : m < (valL y (n + 1)).length := by rw [valL_length]; exact hm
      rw [c3 m hm', valL_get hm'])
    refine Ev.bind c4 (Ev.pos rfl (Ev.pos (by rw [List.length_map, c1, wrap_succ n (by omega)]) ?_))
    exact LB_l0 (by omega) s1 s2 c.length 0 (by omega)
  · refine Ev.neg h0 (Ev.bind awake_ev (Ev.pos rfl ?_))
    rw [h' h0]
    exact Ev.const rfl
theorem LB_j0 {a d : Int} {y : List (T 7)} (hl : y.length ≤ 12) (hd : (Lit.int .i64 d).wf = true) (x0 x1 : Int) : Ev (fun k => steeplelaw17_LineBack.j0 k a (y.map elS) x0 x1 d) true := by
  have hV := Values_ev (a := a) (d := d) (c := y) (by omega) hd
  obtain ⟨v, hv1, hv2, hv3⟩ : ∃ v : List S28, Ev (fun k => line_Values.f k a (y.map elS) d) (v, valE a d y) ∧ (valE a d y = 0 → v = (valL y (d.toNat + 1)).map elS) ∧ (valE a d y ≠ 0 → v = []) := by
    by_cases h0 : valE a d y = 0
    · refine ⟨_, ?_, fun _ => rfl, fun h => absurd h0 h⟩
      rw [h0]
      exact hV.1 h0
    · exact ⟨_, hV.2 h0, fun h => absurd h h0, fun _ => rfl⟩
  have J3 := LB_j3 hl x0 x1 hv2 hv3
  refine Ev.succ ?_
  simp only [steeplelaw17_LineBack.j0]
  refine Ev.bind hv1 ?_
  have t1 : ∀ e : Int, (a < 0 ∨ a > 7) → Ev (fun k => steeplelaw17_LineBack.j1 k a (y.map elS) v (valE a d y) 0 true x0 x1 d) true := by
    intro _ h1
    refine Ev.succ ?_
    simp only [steeplelaw17_LineBack.j1]
    refine Ev.pos trivial ?_
    have e1 : valE a d y = 1 := by unfold valE; rw [if_pos h1]
    rw [e1] at J3 ⊢
    exact J3
  by_cases ha : a < 0
  · exact Ev.pos ha (t1 0 (.inl ha))
  refine Ev.neg ha ?_
  by_cases ha7 : a > 7
  · rw [decide_eq_true ha7]
    exact t1 0 (.inr ha7)
  rw [decide_eq_false ha7]
  obtain ⟨j, rfl⟩ := Int.eq_ofNat_of_zero_le (show 0 ≤ a by omega)
  have hj : j ≤ 7 := by omega
  have hdw := i64_wf.1 hd
  have j2t : valE (j : Int) d y = 6 → Ev (fun k => steeplelaw17_LineBack.j2 k (j : Int) (y.map elS) v (valE (j : Int) d y) 0 true x0 x1 d) true := by
    intro e6
    refine Ev.succ ?_
    simp only [steeplelaw17_LineBack.j2]
    refine Ev.pos trivial ?_
    rw [e6] at J3 ⊢
    exact J3
  refine Ev.succ ?_
  simp only [steeplelaw17_LineBack.j1]
  refine Ev.neg (by decide) (Ev.bind (Ev.const (refFits_int hj)) ?_)
  by_cases hf : 0 ≤ d ∧ fitsB j d.toNat = true
  · rw [decide_eq_true hf]
    refine Ev.pos rfl ?_
    rw [List.length_map]
    by_cases hy0 : y.length = 0
    · refine Ev.pos (by omega) (j2t ?_)
      unfold valE
      rw [if_neg (by omega), if_pos (.inr (.inr (.inl hy0)))]
    · refine Ev.neg (by omega) ?_
      rw [show wrap64 ((y.length : Int) - 1) = (y.length : Int) - 1 by unfold wrap64; omega]
      by_cases hg : (y.length : Int) - 1 > d
      · rw [decide_eq_true hg]
        refine j2t ?_
        unfold valE
        rw [if_neg (by omega), if_pos (.inr (.inr (.inr (by omega))))]
      · rw [decide_eq_false hg]
        refine Ev.succ ?_
        simp only [steeplelaw17_LineBack.j2]
        refine Ev.neg (by decide) (Ev.bind (Ref_ev y (by omega)) (Ev.bind (refAll_ev _ y (by omega)) ?_))
        have e : valE (j : Int) d y = if y.all (ofB (j : Int)) = true then 0 else 5 := by
          unfold valE
          rw [if_neg (by omega), Int.toNat_natCast, if_neg]
          rintro (h | h | h | h)
          · omega
          · rw [hf.2] at h; exact absurd h (by decide)
          · omega
          · omega
        cases hq : y.all (ofB (j : Int)) with
        | true =>
          rw [hq, if_pos rfl] at e
          refine Ev.pos rfl ?_
          rw [e] at J3 ⊢
          exact J3
        | false =>
          rw [hq, if_neg (by decide)] at e
          refine Ev.neg (by decide) ?_
          rw [e] at J3 ⊢
          exact J3
  · rw [decide_eq_false hf]
    refine Ev.neg (by decide) (j2t ?_)
    unfold valE
    rw [if_neg (by omega), Int.toNat_natCast, if_pos]
    by_cases h0 : d < 0
    · exact .inl h0
    · refine .inr (.inl ?_)
      cases hq : fitsB j d.toNat with
      | true => exact absurd ⟨by omega, hq⟩ hf
      | false => rfl
theorem LineBack : steeplelaw17_LineBack.Pure := by
  intro a l s ha ⟨_, _, hl⟩ ⟨hx, hd⟩
  obtain ⟨L, rfl⟩ := elS_of hl
  obtain ⟨⟨p, q⟩, d⟩ := s
  obtain ⟨x, rfl, rfl⟩ := el_of hx.1 hx.2
  dsimp only at hd ⊢
  refine Ev.rounds ?_
  unfold steeplelaw17_LineBack.f
  rw [List.length_map]
  by_cases h12 : (L.length : Int) > 12
  · exact Ev.pos h12 (Ev.bind awake_ev (Ev.now _))
  refine Ev.neg h12 ?_
  have J0 := LB_j0 (a := a) (d := d) (y := L) (by omega) hd (hiW x) (loW x)
  by_cases hm : mayE a L = 0
  · obtain ⟨c, c1, c2, c3, c4⟩ := Powers_ok hm
    obtain ⟨j, rfl, hj, h0, h9, hp, hin⟩ := may_ok hm
    have hmay := may_ev (j : Int) L (by omega)
    rw [hm] at hmay
    refine Ev.bind c4 (Ev.bind hmay (Ev.pos rfl (Ev.pos rfl ?_)))
    have hw : (Lit.int .i64 (wrap64 ((L.length : Int) - 1))).wf = true := i64_wf.2 (by unfold wrap64; omega)
    have hV := Values_ev (a := (j : Int)) (d := wrap64 ((L.length : Int) - 1)) (c := c) (by omega) hw
    have e1 : wrap64 ((L.length : Int) - 1) = ((L.length - 1 : Nat) : Int) := by unfold wrap64; omega
    rw [e1] at hV ⊢
    have hcin : ∀ y ∈ c, InL j y := fun y hy => by
      obtain ⟨j', e, _, hi⟩ := ofB_iff.1 (c2 y hy)
      obtain rfl : j = j' := by omega
      exact hi
    have hfit : fitsB j (L.length - 1) = true := by
      unfold mayE at hm
      rw [if_neg (by omega), Int.toNat_natCast] at hm
      cases hq : fitsB j (L.length - 1) with
      | true => rfl
      | false =>
        rw [hq, if_pos (.inr rfl)] at hm
        exact absurd hm (by decide)
    have hE : valE (j : Int) ((L.length - 1 : Nat) : Int) c = 0 := by
      unfold valE
      rw [if_neg (by omega), Int.toNat_natCast, Int.toNat_natCast, hfit, if_neg (by rintro (h | h | h | h); omega; exact absurd h (by decide); omega; omega), if_pos (List.all_eq_true.2 c2)]
    have hval : valL c (L.length - 1 + 1) = L := by
      refine List.ext_getElem (by rw [valL_length]; omega) fun i h1 h2 => ?_
      rw [valL_get h1, c3 i h2]
    have hV1 := hV.1 hE
    rw [Int.toNat_natCast, hval] at hV1
    refine Ev.bind hV1 (Ev.pos rfl (Ev.bind (Ref_ev L (by omega)) (Ev.bind (Same_ev L (by omega)) (Ev.pos rfl ?_))))
    refine Ev.pos (by rw [List.length_map, c1]) ?_
    by_cases hx : ofB (j : Int) x = true
    · refine Ev.bind (At_ok hm hx) (Ev.pos rfl (Ev.bind (Ref_ev c (by omega)) (Ev.bind (refHv_ev (by omega) c2 hx) (Ev.neg ?_ J0))))
      rw [same_pair (hv_at c1 h0 h9 c3 x).symm]
      decide
    · have hx' : ofB (j : Int) x = false := by
        cases hq : ofB (j : Int) x with
        | true => exact absurd hq hx
        | false => rfl
      exact Ev.bind (At_not (by omega) hm hx') (Ev.neg (by decide) J0)
  · refine Ev.bind (Powers_bad (by omega) hm) (Ev.bind (may_ev a L (by omega)) (Ev.pos rfl (Ev.neg hm J0)))
end Go.Proofs.Ythnaalocgoeddaa.Pure
