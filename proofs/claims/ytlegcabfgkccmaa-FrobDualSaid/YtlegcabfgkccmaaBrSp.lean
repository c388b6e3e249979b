/- Which elements sum up to one: what span.Solve comes to. Conditions: those that each theorem names. -/
import Derived.Test.YtlegcabfgkccmaaSpM
import Derived.Test.YtlegcabfgkccmaaBrAdd
import Derived.Test.YtlegcabfgkccmaaBrBit
import Derived.Test.YtlegcabfgkccmaaBrList
import Derived.Test.YtlegcabfgkccmaaPx10
import Derived.Test.YtlegcabfgkccmaaPx3
import Derived.Test.YtlegcabfgkccmaaPx8
import Derived.Test.YtlegcabfgkccmaaPx9
set_option linter.unusedVariables false
set_option linter.unusedSimpArgs false
namespace Go.Proofs.Ytlegcabfgkccmaa.Br
open Go.RowKit Go.Proofs.YtlegcabfgkccmaaT Go.Proofs.Ytlegcabfgkccmaa.P Go.Proofs.YtlegcabfgkccmaaW.PrintWords Go.Proofs.YtlegcabfgkccmaaW.PrintLast Go.Proofs.YtlegcabfgkccmaaW.PrintMore
theorem Bit_ev (n : Int) : Ev (fun k => tower_Bit.f k n) (hiW (bitE n), loW (bitE n)) := by
  unfold tower_Bit.f
  by_cases h0 : n ≥ 0
  · obtain ⟨j, rfl⟩ := Int.eq_ofNat_of_zero_le h0
    refine Ev.pos h0 (Ev.succ ?_)
    simp only [tower_Bit.j0]
    by_cases h6 : j < 64
    · refine Ev.pos (by rw [decide_eq_true_eq]; omega) (Ev.pos h0 ?_)
      rw [(bitE_lo h6).1, (bitE_lo h6).2, shl_one h6]
      exact Ev.now _
    · refine Ev.neg (by rw [decide_eq_true_eq]; omega) (Ev.pos (by omega) ?_)
      by_cases h7 : j < 128
      · obtain ⟨m, rfl⟩ : ∃ m, j = m + 64 := ⟨j - 64, by omega⟩
        refine Ev.pos (by omega) ?_
        rw [wrap_sub64 (by omega) (by omega), Nat.add_sub_cancel, (bitE_hi (by omega)).1, (bitE_hi (by omega)).2, shl_one (by omega)]
        exact Ev.pos (by omega) (Ev.now _)
      · refine Ev.neg (by omega) ?_
        rw [bitE_none (.inr (by omega)), hi_zero, lo_zero]
        exact Ev.now _
  · refine Ev.neg h0 (Ev.succ ?_)
    simp only [tower_Bit.j0]
    refine Ev.neg (by decide) (Ev.neg (by omega) ?_)
    rw [bitE_none (.inl (by omega)), hi_zero, lo_zero]
    exact Ev.now _
theorem bitLen_aux : ∀ (f x : Nat), x < 2 ^ f → Lib.bitLenAux f x = if x = 0 then 0 else x.log2 + 1
  | 0, x, h => by
    have : x = 0 := by omega
    subst this
    rfl
  | f + 1, x, h => by
    rw [Lib.bitLenAux]
    by_cases h0 : x = 0
    · rw [if_pos h0, if_pos h0]
    · rw [if_neg h0, if_neg h0, bitLen_aux f (x / 2) (by rw [Nat.pow_succ] at h; omega)]
      by_cases h1 : x / 2 = 0
      · have : x = 1 := by omega
        subst this
        rfl
      · rw [if_neg h1, Nat.log2_def x, if_pos (by omega)]
        omega
theorem bitLen_eq {x : Nat} (h : x < 2 ^ 64) : Lib.bitLen x = if x = 0 then 0 else x.log2 + 1 := bitLen_aux 64 x h
theorem log2_up {a b : Nat} (ha : a ≠ 0) (hb : b < 2 ^ 64) : (a * 2 ^ 64 + b).log2 = a.log2 + 64 := by
  have h1 := Nat.log2_self_le ha
  have h2 := @Nat.lt_log2_self a
  refine (Nat.log2_eq_iff (by omega)).2 ⟨?_, ?_⟩
  · rw [Nat.pow_add]
    exact Nat.le_trans (Nat.mul_le_mul_right _ h1) (Nat.le_add_right _ _)
  · rw [show a.log2 + 64 + 1 = (a.log2 + 1) + 64 by omega, Nat.pow_add]
    have : (a + 1) * 2 ^ 64 ≤ 2 ^ (a.log2 + 1) * 2 ^ 64 := Nat.mul_le_mul_right _ h2
    omega
def leadI (x : T 7) : Int := if x = 0 then -1 else (leadN x : Int)
theorem lead_lt (x : T 7) : leadN x < 128 := by
  unfold leadN
  have h : enc 7 x < 2 ^ 128 := enc_lt 7 x
  by_cases h0 : enc 7 x = 0
  · rw [h0]
    decide
  · exact (Nat.log2_lt h0).2 h
theorem Lead_f (x : T 7) : span_lead.f (hiW x) (loW x) = some (leadI x) := by
  have h1 := lt64 (k := 6) (by omega) x.1
  have h2 := lt64 (k := 6) (by omega) x.2
  have e7 := enc7 x
  unfold span_lead.f bits_Len64.f leadI leadN
  by_cases hh : enc 6 x.1 = 0
  · have eh : hiW x = 0 := by unfold hiW; rw [hh]; rfl
    rw [if_pos eh, if_pos (show 0 ≤ loW x ∧ loW x ≤ 18446744073709551615 by unfold loW; omega), Option.bind_some]
    have et : (loW x).toNat = enc 6 x.2 := by unfold loW; omega
    rw [et, bitLen_eq h2]
    rw [hh, Nat.zero_mul, Nat.zero_add] at e7
    by_cases hl : enc 6 x.2 = 0
    · have hx : x = 0 := enc_eq_zero.1 (e7.trans hl)
      rw [if_pos hl, if_pos hx]
      exact congrArg some (by unfold wrap64; omega)
    · have hx : x ≠ 0 := fun e => hl (by rw [← e7, e, enc_zero])
      rw [if_neg hl, if_neg hx, e7]
      have h3 : (enc 6 x.2).log2 < 64 := (Nat.log2_lt hl).2 h2
      generalize (enc 6 x.2).log2 = m at h3 ⊢
      unfold wrap64
      exact congrArg some (by omega)
  · have eh : hiW x ≠ 0 := fun e => hh (by unfold hiW at e; omega)
    rw [if_neg eh, if_pos (show 0 ≤ hiW x ∧ hiW x ≤ 18446744073709551615 by unfold hiW; omega), Option.bind_some]
    have et : (hiW x).toNat = enc 6 x.1 := by unfold hiW; omega
    have hx : x ≠ 0 := fun e => hh (by rw [e]; exact enc_zero 6)
    rw [et, bitLen_eq h1, if_neg hh, if_neg hx, e7, log2_up hh h2]
    have h3 : (enc 6 x.1).log2 < 64 := (Nat.log2_lt hh).2 h1
    generalize (enc 6 x.1).log2 = m at h3 ⊢
    unfold wrap64
    exact congrArg some (by omega)
theorem Has_ev (x : T 7) (n : Int) : Ev (fun k => span_has.f k (hiW x) (loW x) n) (hasE x n) := by
  unfold span_has.f
  refine Ev.bind (Bit_ev n) ?_
  by_cases h : 0 ≤ n ∧ n ≤ 127
  · obtain ⟨m, rfl⟩ : ∃ m : Nat, n = (m : Int) := ⟨n.toNat, by omega⟩
    rw [has_words x (by omega), ← hasE_nat x (by omega)]
    exact Ev.now _
  · rw [has_none x (by omega)]
    have : hasE x n = false := if_neg h
    rw [this]
    exact Ev.now _
theorem hasE_lead (x t : T 7) : hasE x (leadI t) = hasL x t := by
  unfold leadI hasL
  by_cases h : t = 0
  · rw [if_pos h, if_pos h]
    rfl
  · rw [if_neg h, if_neg h, hasE_nat x (lead_lt t)]
    rfl
theorem flip_l0 (a b : List Bool) (hb : b.length = a.length) (hl : a.length < 100000) : ∀ d i : Nat, i + d = a.length → Ev (fun k => span_flip.l0 k (xorL (a.take i) (b.take i) ++ a.drop i) b (a.length : Int) (i : Int)) (xorL a b)
  | 0, i, h => by
    refine Ev.succ ?_
    simp only [span_flip.l0]
    refine Ev.neg (by omega) ?_
    rw [List.drop_of_length_le (by omega), List.append_nil, List.take_of_length_le (by omega), List.take_of_length_le (by omega)]
    exact Ev.now _
  | d + 1, i, h => by
    have hi : i < a.length := by omega
    have hib : i < b.length := by omega
    have e1 : (xorL (a.take i) (b.take i)).length = i := xorL_len (by rw [List.length_take]; omega) (by rw [List.length_take]; omega)
    have e2 : (xorL (a.take i) (b.take i) ++ a.drop i).length = a.length := by rw [List.length_append, e1, List.length_drop]; omega
    refine Ev.succ ?_
    simp only [span_flip.l0]
    refine Ev.pos (by omega) (Ev.pos (by omega) (Ev.pos (by rw [e2]; omega) (Ev.pos (by omega) ?_)))
    have r1 : rdOf false (xorL (a.take i) (b.take i) ++ a.drop i) (i : Int) = a[i] := by
      unfold rdOf
      rw [Int.toNat_natCast, List.getD_eq_getElem?_getD, List.getElem?_append_right (by omega), e1, Nat.sub_self, List.drop_eq_getElem_cons hi, List.getElem?_cons_zero, Option.getD_some]
    have r2 : rdOf false b (i : Int) = b[i] := by
      unfold rdOf
      rw [Int.toNat_natCast, List.getD_eq_getElem?_getD, List.getElem?_eq_getElem hib, Option.getD_some]
    rw [r1, r2, wrap_succ i (by omega), Int.toNat_natCast]
    have e3 : (xorL (a.take i) (b.take i) ++ a.drop i).set i (a[i] != b[i]) = xorL (a.take (i + 1)) (b.take (i + 1)) ++ a.drop (i + 1) := by
      rw [List.set_append_right _ _ (by omega), e1, Nat.sub_self, List.drop_eq_getElem_cons hi, List.set_cons_zero, List.take_succ_eq_append_getElem hi, List.take_succ_eq_append_getElem hib]
      have e4 : xorL (a.take i ++ [a[i]]) (b.take i ++ [b[i]]) = xorL (a.take i) (b.take i) ++ [a[i] != b[i]] := by
        unfold xorL
        rw [List.zipWith_append (by rw [List.length_take, List.length_take]; omega)]
        rfl
      rw [e4, List.append_assoc, List.singleton_append]
    rw [e3]
    exact flip_l0 a b hb hl d (i + 1) (by omega)
theorem Flip_ev {a b : List Bool} (hb : b.length = a.length) (hl : a.length < 100000) : Ev (fun k => span_flip.f k a b) (xorL a b) := by
  unfold span_flip.f
  have h := flip_l0 a b hb hl a.length 0 (Nat.zero_add _)
  have e : xorL (a.take 0) (b.take 0) ++ a.drop 0 = a := rfl
  rw [e] at h
  exact h
def stS (t : Step) : S85 := ⟨elS t.1, t.2⟩
theorem rd_stS {ts : List Step} {i : Nat} (h : i < ts.length) : rd_T85 (ts.map stS) (i : Int) = stS ts[i] := by
  unfold rd_T85
  rw [Int.toNat_natCast, List.getD_eq_getElem?_getD, List.getElem?_map, List.getElem?_eq_getElem h]
  rfl
theorem st0 (t : Step) : (stS t).f0.f0 = hiW t.1 := rfl
theorem st1 (t : Step) : (stS t).f0.f1 = loW t.1 := rfl
theorem st2 (t : Step) : (stS t).f1 = t.2 := rfl
theorem red_drop {ts : List Step} {i : Nat} (h : i < ts.length) (s : Step) : red (ts.drop i) s = red (ts.drop (i + 1)) (red1 s ts[i]) := by
  rw [List.drop_eq_getElem_cons h]
  rfl
theorem red1_len {s t : Step} {n : Nat} (hs : s.2.length = n) (ht : t.2.length = n) : (red1 s t).2.length = n := by
  unfold red1
  split
  · exact xorL_len hs ht
  · exact hs
theorem ne_words (x : T 7) : ((!(hiW x == 0) || (!(loW x == 0))) = true) ↔ x ≠ 0 := by
  constructor
  · intro h e
    rw [e, hi_zero, lo_zero] at h
    exact absurd h (by decide)
  · intro h
    by_cases h1 : hiW x = 0
    · have h2 : loW x ≠ 0 := fun e => h (el_inj (by rw [h1, hi_zero]) (by rw [e, lo_zero]))
      simp [h2]
    · simp [h1]
theorem l1_ev {x0 x15 : List S24} {x6 : List S85} {x16 x17 p q : Int} {r : List Bool × Bool} {n : Nat} (hn : n < 100000) (ts : List Step) (hts : ∀ t ∈ ts, t.2.length = n) (hl : ts.length < 100000) : ∀ (d i : Nat) (s : Step), i + d = ts.length → s.2.length = n →
    Ev (fun k => if (!(hiW (red (ts.drop i) s).1 == 0) || (!(loW (red (ts.drop i) s).1 == 0))) = true then (if x6.length < 3518437208883 then (span_Solve.l0 k x0 (x6 ++ [(⟨(⟨hiW (red (ts.drop i) s).1, loW (red (ts.drop i) s).1⟩ : S24), (red (ts.drop i) s).2⟩ : S85)]) x15 x16 (wrap64 (x17 + 1)) p q) else (none)) else (span_Solve.l0 k x0 x6 x15 x16 (wrap64 (x17 + 1)) p q)) r →
    Ev (fun k => span_Solve.l1 k x0 x6 x15 x16 x17 (ts.map stS) (ts.length : Int) (i : Int) p q (hiW s.1) (loW s.1) s.2) r := by
  intro d
  induction d with
  | zero =>
    intro i s h hs hr
    refine Ev.succ ?_
    simp only [span_Solve.l1]
    refine Ev.neg (by omega) ?_
    rw [List.drop_of_length_le (by omega)] at hr
    exact hr
  | succ d ih =>
    intro i s h hs hr
    have hi : i < ts.length := by omega
    have ht : (ts[i]).2.length = n := hts _ (List.getElem_mem hi)
    refine Ev.succ ?_
    simp only [span_Solve.l1]
    refine Ev.pos (by omega) (Ev.pos (by omega) (Ev.pos (by rw [List.length_map]; omega) ?_))
    rw [rd_stS hi, st0, st1, st2, wrap_succ i (by omega)]
    refine Ev.bind (Ev.const (Lead_f _)) (Ev.bind (Has_ev _ _) ?_)
    rw [hasE_lead]
    rw [red_drop hi] at hr
    have e1 : red1 s ts[i] = if hasL s.1 (ts[i]).1 = true then (s.1 + (ts[i]).1, xorL s.2 (ts[i]).2) else s := rfl
    by_cases hq : hasL s.1 (ts[i]).1 = true
    · refine Ev.pos hq (Ev.bind (Ev.const (Add_f _ _)) (Ev.bind (Flip_ev (by rw [ht, hs]) (by omega)) ?_))
      rw [if_pos hq] at e1
      rw [e1] at hr
      exact ih (i + 1) (s.1 + (ts[i]).1, xorL s.2 (ts[i]).2) (by omega) (xorL_len hs ht) hr
    · refine Ev.neg hq ?_
      rw [if_neg hq] at e1
      rw [e1] at hr
      exact ih (i + 1) s (by omega) hs hr
theorem l2_ev {n : Nat} (hn : n < 100000) (ts : List Step) (hts : ∀ t ∈ ts, t.2.length = n) (hl : ts.length < 100000) : ∀ (d i : Nat) (s : Step), i + d = ts.length → s.2.length = n →
    Ev (fun k => span_Solve.l2 k s.2 (ts.map stS) (ts.length : Int) (i : Int) (hiW s.1) (loW s.1)) (if (red (ts.drop i) s).1 = 0 then ((red (ts.drop i) s).2, true) else ([], false))
  | 0, i, s, h, hs => by
    refine Ev.succ ?_
    simp only [span_Solve.l2]
    refine Ev.neg (by omega) ?_
    rw [List.drop_of_length_le (by omega)]
    have e : red [] s = s := rfl
    rw [e]
    by_cases h0 : s.1 = 0
    · rw [if_pos h0]
      exact Ev.neg (fun hq => (ne_words s.1).1 hq h0) (Ev.now _)
    · rw [if_neg h0]
      exact Ev.pos ((ne_words s.1).2 h0) (Ev.now _)
  | d + 1, i, s, h, hs => by
    have hi : i < ts.length := by omega
    have ht : (ts[i]).2.length = n := hts _ (List.getElem_mem hi)
    refine Ev.succ ?_
    simp only [span_Solve.l2]
    refine Ev.pos (by omega) (Ev.pos (by omega) (Ev.pos (by rw [List.length_map]; omega) ?_))
    rw [rd_stS hi, st0, st1, st2, wrap_succ i (by omega)]
    refine Ev.bind (Ev.const (Lead_f _)) (Ev.bind (Has_ev _ _) ?_)
    rw [hasE_lead, red_drop hi]
    have e1 : red1 s ts[i] = if hasL s.1 (ts[i]).1 = true then (s.1 + (ts[i]).1, xorL s.2 (ts[i]).2) else s := rfl
    by_cases hq : hasL s.1 (ts[i]).1 = true
    · refine Ev.pos hq (Ev.bind (Ev.const (Add_f _ _)) (Ev.bind (Flip_ev (by rw [ht, hs]) (by omega)) ?_))
      rw [if_pos hq] at e1
      rw [e1]
      exact l2_ev hn ts hts hl d (i + 1) (s.1 + (ts[i]).1, xorL s.2 (ts[i]).2) (by omega) (xorL_len hs ht)
    · refine Ev.neg hq ?_
      rw [if_neg hq] at e1
      rw [e1]
      exact l2_ev hn ts hts hl d (i + 1) s (by omega) hs
theorem steps_len (L : List (T 7)) : ∀ i, (stepsT L i).length ≤ i
  | 0 => Nat.le_refl _
  | i + 1 => by
    have ih := steps_len L i
    show (growT L.length (stepsT L i) i (L.getD i 0)).length ≤ i + 1
    unfold growT
    split
    · omega
    · rw [List.length_append, List.length_singleton]
      omega
theorem l0_ev (L : List (T 7)) (hL : L.length < 1000) (x : T 7) : ∀ d i : Nat, i + d = L.length →
    Ev (fun k => span_Solve.l0 k (L.map elS) ((stepsT L i).map stS) (L.map elS) (L.length : Int) (i : Int) (hiW x) (loW x)) (if (red (stepsT L L.length) (x, List.replicate L.length false)).1 = 0 then ((red (stepsT L L.length) (x, List.replicate L.length false)).2, true) else ([], false))
  | 0, i, h => by
    obtain rfl : i = L.length := by omega
    have hC := (steps_inv L L.length (Nat.le_refl _)).2.1
    refine Ev.succ ?_
    simp only [span_Solve.l0]
    refine Ev.neg (by omega) (Ev.pos (by omega) (Ev.pos (by rw [List.length_map]; omega) ?_))
    rw [List.length_map, List.length_map, Int.toNat_natCast]
    exact l2_ev (n := L.length) (by omega) (stepsT L L.length) (fun t m => (hC t m).1) (by have := steps_len L L.length; omega) (stepsT L L.length).length 0 (x, List.replicate L.length false) (Nat.zero_add _) (List.length_replicate ..)
  | d + 1, i, h => by
    have hi : i < L.length := by omega
    have hC := (steps_inv L i (by omega)).2.1
    have hsl := steps_len L i
    have eD : L.getD i 0 = L[i] := by rw [List.getD_eq_getElem?_getD, List.getElem?_eq_getElem hi, Option.getD_some]
    refine Ev.succ ?_
    simp only [span_Solve.l0]
    refine Ev.pos (by omega) (Ev.pos (by omega) (Ev.pos (by rw [List.length_map]; omega) (Ev.pos (by omega) (Ev.pos (by rw [List.length_map]; omega) ?_))))
    rw [List.length_map, List.length_map, Int.toNat_natCast, Int.toNat_natCast]
    refine Ev.bind (Ev.now _) (Ev.pos (by rw [List.length_replicate]; omega) ?_)
    rw [rd_elS hi, elS_f0, elS_f1]
    refine l1_ev (n := L.length) (by omega) (stepsT L i) (fun t m => (hC t m).1) (by omega) (stepsT L i).length 0 (L[i], unitL L.length i) (Nat.zero_add _) (unitL_len _ _) ?_
    have ih := l0_ev L hL x d (i + 1) (by omega)
    have e0 : stepsT L (i + 1) = growT L.length (stepsT L i) i (L.getD i 0) := rfl
    rw [List.drop_zero, wrap_succ i (by omega)]
    rw [e0, eD] at ih
    unfold growT at ih
    generalize red (stepsT L i) (L[i], unitL L.length i) = r at ih ⊢
    by_cases h0 : r.1 = 0
    · rw [if_pos h0] at ih
      exact Ev.neg (fun hq => (ne_words r.1).1 hq h0) ih
    · rw [if_neg h0, List.map_append] at ih
      exact Ev.pos ((ne_words r.1).2 h0) (Ev.pos (by rw [List.length_map]; omega) ih)
theorem Solve_ev (L : List (T 7)) (hL : L.length < 1000) (x : T 7) : Ev (fun k => span_Solve.f k (L.map elS) (hiW x) (loW x)) (match solveT L x with | some of => (of, true) | none => ([], false)) := by
  unfold span_Solve.f
  have h := l0_ev L hL x L.length 0 (Nat.zero_add _)
  rw [List.length_map]
  have e : (match solveT L x with | some of => (of, true) | none => ([], false)) = if (red (stepsT L L.length) (x, List.replicate L.length false)).1 = 0 then ((red (stepsT L L.length) (x, List.replicate L.length false)).2, true) else (([] : List Bool), false) := by
    unfold solveT
    split
    · rename_i of h
      split at h
      · rename_i h0
        rw [if_pos h0]
        obtain rfl := Option.some.inj h
        rfl
      · exact absurd h (by simp)
    · rename_i h
      split at h
      · exact absurd h (by simp)
      · rename_i h0
        rw [if_neg h0]
  rw [e]
  exact h
end Go.Proofs.Ytlegcabfgkccmaa.Br
