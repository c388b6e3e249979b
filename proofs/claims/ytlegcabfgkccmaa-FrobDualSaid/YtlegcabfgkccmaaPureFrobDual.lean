/- The pure statement of the law FrobDual: its printed function answers true. Conditions: none. -/
import Derived.Test.YtlegcabfgkccmaaSpDu
import Derived.Test.YtlegcabfgkccmaaBrFr
import Derived.Test.YtlegcabfgkccmaaBrFrA
import Derived.Test.YtlegcabfgkccmaaHWithin
import Derived.Test.YtlegcabfgkccmaaPx12
import Derived.Test.YtlegcabfgkccmaaPx13
import Derived.Test.YtlegcabfgkccmaaPx14
set_option linter.unusedVariables false
set_option linter.unusedSimpArgs false
namespace Go.Proofs.Ytlegcabfgkccmaa.Pure
open Go.RowKit Go.Proofs.YtlegcabfgkccmaaT Go.Proofs.Ytlegcabfgkccmaa.P Go.Proofs.Ytlegcabfgkccmaa.Br Go.Proofs.YtlegcabfgkccmaaW.PrintWords Go.Proofs.YtlegcabfgkccmaaW.PrintLast Go.Proofs.YtlegcabfgkccmaaW.PrintMore
def mixL (k i j : Nat) : List (T 7) := (List.range (2 ^ k)).map (fun j' => rowP k (if j' < j then i + 1 else i) j')
theorem mix_len (k i j : Nat) : (mixL k i j).length = 2 ^ k := by
  unfold mixL
  rw [List.length_map, List.length_range]
theorem mix_get {k i j m : Nat} (h : m < (mixL k i j).length) : (mixL k i j)[m] = rowP k (if m < j then i + 1 else i) m := by
  have hm : m < 2 ^ k := by rw [mix_len] at h; exact h
  have h1 : (mixL k i j)[m]? = some (rowP k (if m < j then i + 1 else i) m) := by
    unfold mixL
    rw [List.getElem?_map, List.getElem?_range hm]
    rfl
  exact Option.some.inj ((List.getElem?_eq_getElem h).symm.trans h1)
theorem mix_zero (k : Nat) : mixL k 0 0 = List.replicate (2 ^ k) 0 := by
  refine List.ext_getElem (by rw [mix_len, List.length_replicate]) (fun m h1 h2 => ?_)
  rw [mix_get, List.getElem_replicate, if_neg (Nat.not_lt_zero _)]
  rfl
theorem mix_next (k i : Nat) : mixL k i (2 ^ k) = mixL k (i + 1) 0 := by
  refine List.ext_getElem (by rw [mix_len, mix_len]) (fun m h1 h2 => ?_)
  rw [mix_len] at h1
  rw [mix_get, mix_get, if_pos h1, if_neg (Nat.not_lt_zero _)]
theorem mix_full (k : Nat) : mixL k (2 ^ k) 0 = rowsF k 0 (2 ^ k) := by
  refine List.ext_getElem (by rw [mix_len, rowsF_len]) (fun m h1 h2 => ?_)
  rw [mix_get, rowsF_get, if_neg (Nat.not_lt_zero _), Nat.zero_add]
theorem mix_set {k i j : Nat} (hj : j < 2 ^ k) : (mixL k i j).set j (rowP k (i + 1) j) = mixL k i (j + 1) := by
  refine List.ext_getElem (by rw [List.length_set, mix_len, mix_len]) (fun m h1 h2 => ?_)
  rw [List.getElem_set, mix_get]
  by_cases h : j = m
  · subst h
    rw [if_pos rfl, mix_get, if_pos (Nat.lt_succ_self _)]
  · rw [if_neg h, mix_get]
    by_cases h3 : m < j
    · rw [if_pos h3, if_pos (by omega)]
    · rw [if_neg h3, if_neg (by omega)]
theorem mix_same {k i j : Nat} (hj : j < 2 ^ k) (h : rowP k (i + 1) j = rowP k i j) : mixL k i (j + 1) = mixL k i j := by
  refine List.ext_getElem (by rw [mix_len, mix_len]) (fun m h1 h2 => ?_)
  rw [mix_get, mix_get]
  by_cases h3 : m < j
  · rw [if_pos h3, if_pos (by omega)]
  · by_cases h4 : m = j
    · subst h4
      rw [if_pos (Nat.lt_succ_self _), if_neg (Nat.lt_irrefl _), h]
    · rw [if_neg h3, if_neg (by omega)]
def dlE (k j : Nat) : T 7 := match solveT (rowsF k 0 (2 ^ k)) (bitE (j : Int)) with | some of => bsum 0 of | none => 0
def dualsL (k m : Nat) : List (T 7) := (List.range m).map (dlE k)
theorem duals_len (k m : Nat) : (dualsL k m).length = m := by
  unfold dualsL
  rw [List.length_map, List.length_range]
theorem duals_succ (k m : Nat) : dualsL k (m + 1) = dualsL k m ++ [dlE k m] := by
  unfold dualsL
  rw [List.range_succ, List.map_append]
  rfl
theorem shl1_b : ∀ k : Nat, k < 6 → shl .i64 1 (k : Int) = ((2 ^ k : Nat) : Int) := by decide
theorem within_l0 (L : List (T 7)) (hL : L.length < 1000) (n : Int) (h : ∀ x ∈ L, leadI x < n) : ∀ d i : Nat, i + d = L.length → Ev (fun k => api_Elem_66.l0 k (L.map elS) n (L.length : Int) (i : Int)) (-1)
  | 0, i, hd => by
    refine Ev.succ ?_
    simp only [api_Elem_66.l0]
    exact Ev.neg (by omega) (Ev.now _)
  | d + 1, i, hd => by
    have hi : i < L.length := by omega
    refine Ev.succ ?_
    simp only [api_Elem_66.l0]
    refine Ev.pos (by omega) (Ev.pos (by omega) (Ev.pos (by rw [List.length_map]; omega) ?_))
    rw [rd_elS hi, elS_f0, elS_f1, wrap_succ i (by omega)]
    have hl := h _ (List.getElem_mem hi)
    have h1 : span_within_1.f (hiW L[i]) (loW L[i]) n = some false := by
      unfold span_within_1.f
      rw [Lead_f, Option.bind_some, decide_eq_false (by omega)]
    exact Ev.bind (Ev.const h1) (Ev.neg (by decide) (within_l0 L hL n h d (i + 1) (by omega)))
theorem Within_ev (L : List (T 7)) (hL : L.length < 1000) (n : Int) (h : ∀ x ∈ L, leadI x < n) : Ev (fun k => span_within.f k (L.map elS) n) true := by
  have h0 := within_l0 L hL n h L.length 0 (Nat.zero_add _)
  have h66 : Ev (fun k => api_Elem_66.f k (L.map elS) n) (-1) := by
    unfold api_Elem_66.f
    rw [List.length_map]
    exact h0
  have h64 : Ev (fun k => api_Elem_64.f k (L.map elS) n) false := by
    unfold api_Elem_64.f
    exact Ev.bind h66 (Ev.const (by decide))
  unfold span_within.f
  exact Ev.bind h64 (Ev.now _)
theorem back_l1 {L : List S24} {P : List (T 7)} {n c : Int} {r : List S24 × Int} (hP : P.length < 1000) (of : List Bool) (hl : of.length < 1000) : ∀ (d i : Nat), i + d = of.length → ∀ p : T 7,
    Ev (fun k => span_Back.l0 k L ((P ++ [p + bsum i (of.drop i)]).map elS) n (wrap64 (c + 1))) r → Ev (fun k => span_Back.l1 k L (P.map elS) n c of (of.length : Int) (i : Int) (hiW p) (loW p)) r := by
  intro d
  induction d with
  | zero =>
    intro i h p hr
    refine Ev.succ ?_
    simp only [span_Back.l1]
    refine Ev.neg (by omega) (Ev.pos (by rw [List.length_map]; omega) ?_)
    rw [List.drop_of_length_le (by omega)] at hr
    have e : bsum i [] = 0 := rfl
    rw [e, add_zero, List.map_append] at hr
    exact hr
  | succ d ih =>
    intro i h p hr
    have hi : i < of.length := by omega
    refine Ev.succ ?_
    simp only [span_Back.l1]
    refine Ev.pos (by omega) (Ev.pos (by omega) (Ev.pos (by omega) ?_))
    have r2 : rdOf false of (i : Int) = of[i] := by
      unfold rdOf
      rw [Int.toNat_natCast, List.getD_eq_getElem?_getD, List.getElem?_eq_getElem hi, Option.getD_some]
    rw [r2, wrap_succ i (by omega)]
    rw [List.drop_eq_getElem_cons hi] at hr
    have e : bsum i (of[i] :: of.drop (i + 1)) = (if of[i] = true then bitE (i : Int) else 0) + bsum (i + 1) (of.drop (i + 1)) := rfl
    rw [e] at hr
    by_cases hq : of[i] = true
    · rw [if_pos hq, ← add_assoc] at hr
      exact Ev.pos hq (Ev.bind (Bit_ev _) (Ev.bind (Ev.const (Add_f _ _)) (ih (i + 1) (by omega) _ hr)))
    · rw [if_neg hq, zero_add] at hr
      exact Ev.neg hq (ih (i + 1) (by omega) p hr)
theorem back_l0 {k : Nat} (hk : k ≤ 7) : ∀ d i : Nat, i + d = 2 ^ k → Ev (fun n => span_Back.l0 n ((rowsF k 0 (2 ^ k)).map elS) ((dualsL k i).map elS) ((2 ^ k : Nat) : Int) (i : Int)) ((dualsL k (2 ^ k)).map elS, 0)
  | 0, i, h => by
    obtain rfl : i = 2 ^ k := by omega
    refine Ev.succ ?_
    simp only [span_Back.l0]
    exact Ev.neg (by omega) (Ev.now _)
  | d + 1, i, h => by
    have h7 := pow_le7 hk
    have hi : i < 2 ^ k := by omega
    obtain ⟨of, hof, hl, _⟩ := dual_solve hk hi
    have hS := Solve_ev (rowsF k 0 (2 ^ k)) (by rw [rowsF_len]; omega) (bitE (i : Int))
    rw [hof] at hS
    have hd : dlE k i = bsum 0 of := by
      unfold dlE
      rw [hof]
    refine Ev.succ ?_
    simp only [span_Back.l0]
    refine Ev.pos (by omega) (Ev.bind (Bit_ev _) (Ev.bind hS (Ev.pos rfl ?_)))
    have ih := back_l0 hk d (i + 1) (by omega)
    have h1 := back_l1 (L := (rowsF k 0 (2 ^ k)).map elS) (P := dualsL k i) (n := ((2 ^ k : Nat) : Int)) (c := (i : Int)) (r := ((dualsL k (2 ^ k)).map elS, 0)) (by rw [duals_len]; omega) of (by omega) of.length 0 (Nat.zero_add _) 0 (by
      rw [List.drop_zero, zero_add, ← hd, ← duals_succ, wrap_succ i (by omega)]
      exact ih)
    rw [hi_zero, lo_zero] at h1
    exact h1
theorem lead_in {k : Nat} (hk : k ≤ 7) {x : T 7} (hx : InL k x) : leadI x < ((2 ^ k : Nat) : Int) := by
  have hp : 0 < 2 ^ k := Nat.two_pow_pos k
  unfold leadI
  split
  · omega
  · rename_i h0
    have h1 : enc 7 x ≠ 0 := fun e => h0 (enc_eq_zero.1 e)
    have h2 : leadN x < 2 ^ k := (Nat.log2_lt h1).2 hx
    omega
theorem Back_ev {k : Nat} (hk : k ≤ 7) : Ev (fun n => span_Back.f n ((rowsF k 0 (2 ^ k)).map elS)) ((dualsL k (2 ^ k)).map elS, 0) := by
  have h7 := pow_le7 hk
  unfold span_Back.f
  rw [List.length_map, rowsF_len]
  refine Ev.neg (by omega) (Ev.bind (Within_ev _ (by rw [rowsF_len]; omega) _ (fun x hx => ?_)) (Ev.pos rfl ?_))
  · obtain ⟨i, hi, rfl⟩ := List.getElem_of_mem hx
    rw [rowsF_get]
    exact lead_in hk (rowP_in hk _ _ (Nat.le_refl _))
  · exact back_l0 hk (2 ^ k) 0 (Nat.zero_add _)
theorem elS_mk (v : T 7) : (⟨hiW v, loW v⟩ : S24) = elS v := rfl
theorem dual_l1 {k : Nat} (hk : k ≤ 7) {n3 n16 : Int} {r : List S24} {i : Nat} (hi : i < 2 ^ k) : ∀ d j : Nat, j + d = 2 ^ k →
    Ev (fun m => frob_Dual.l0 m (k : Int) n3 ((mixL k (i + 1) 0).map elS) n16 ((i + 1 : Nat) : Int)) r → Ev (fun m => frob_Dual.l1 m (k : Int) n3 ((mixL k i j).map elS) (i : Int) n16 (i : Int) ((2 ^ k : Nat) : Int) (j : Int)) r
  | 0, j, h, hr => by
    have h7 := pow_le7 hk
    obtain rfl : j = 2 ^ k := by omega
    refine Ev.succ ?_
    simp only [frob_Dual.l1]
    refine Ev.neg (by omega) ?_
    rw [mix_next, wrap_succ i (by omega)]
    exact hr
  | d + 1, j, h, hr => by
    have h7 := pow_le7 hk
    have hj : j < 2 ^ k := by omega
    have hbi := bitE_in hk hi
    have hbj := bitE_in hk hj
    have hm := inL_mul hk hbi hbj
    have ih := dual_l1 hk (n3 := n3) (n16 := n16) hi d (j + 1) (by omega) hr
    refine Ev.succ ?_
    simp only [frob_Dual.l1]
    refine Ev.pos (by omega) (Ev.bind (Bit_ev _) (Ev.bind (Bit_ev _) (Ev.bind (Mul_ev _ _ _) ?_)))
    rw [mulE_in hk hbi hbj]
    refine Ev.bind (Trace_ev (Nat.zero_le k) hk hm) ?_
    rw [conj_tE hk hm]
    refine Ev.bind (Ev.const One_f) ?_
    rw [wrap_succ j (by omega)]
    have er : rowP k (i + 1) j = rowP k i j + (if tE k (bitE (i : Int) * bitE (j : Int)) = true then bitE (i : Int) else 0) := rfl
    by_cases ht : tE k (bitE (i : Int) * bitE (j : Int)) = true
    · rw [ht]
      refine Ev.pos (eq_pair rfl) (Ev.pos (by omega) (Ev.pos (by rw [List.length_map, mix_len]; omega) (Ev.bind (Bit_ev _) ?_)))
      rw [rd_elS (by rw [mix_len]; exact hj), elS_f0, elS_f1, mix_get, if_neg (Nat.lt_irrefl _)]
      refine Ev.bind (Ev.const (Add_f _ _)) ?_
      rw [if_pos ht] at er
      rw [elS_mk, ← er, Int.toNat_natCast, ← List.map_set, mix_set hj]
      exact ih
    · rw [Bool.eq_false_iff.2 ht]
      rw [if_neg ht, add_zero] at er
      rw [mix_same hj er] at ih
      refine Ev.neg ?_ ih
      have e1 : (elP (bit false : T 7)).1 = 0 := hi_zero
      have e2 : (elP (bit false : T 7)).2 = 0 := lo_zero
      show ¬ (((elP (bit false : T 7)).1 == hiW 1 && ((elP (bit false : T 7)).2 == loW 1)) = true)
      rw [e1, e2, hi_one, lo_one]
      decide
theorem dual_l0 {k : Nat} (hk : k ≤ 7) : ∀ d i : Nat, i + d = 2 ^ k → Ev (fun m => frob_Dual.l0 m (k : Int) ((2 ^ k : Nat) : Int) ((mixL k i 0).map elS) ((2 ^ k : Nat) : Int) (i : Int)) ((dualsL k (2 ^ k)).map elS)
  | 0, i, h => by
    obtain rfl : i = 2 ^ k := by omega
    refine Ev.succ ?_
    simp only [frob_Dual.l0]
    refine Ev.neg (by omega) ?_
    rw [mix_full]
    exact Ev.bind (Back_ev hk) (Ev.now _)
  | d + 1, i, h => by
    refine Ev.succ ?_
    simp only [frob_Dual.l0]
    refine Ev.pos (by omega) ?_
    exact dual_l1 hk (by omega) (2 ^ k) 0 (Nat.zero_add _) (dual_l0 hk d (i + 1) (by omega))
theorem wide_some : ∀ k : Nat, k < 6 → ∃ v : Int, octet_Wide.f 3 (k : Int) = some v ∧ v ≠ 0 := by
  intro k hk
  match k, hk with
  | 0, _ => exact ⟨1, by decide, by decide⟩
  | 1, _ => exact ⟨1, by decide, by decide⟩
  | 2, _ => exact ⟨1, by decide, by decide⟩
  | 3, _ => exact ⟨1, by decide, by decide⟩
  | 4, _ => exact ⟨2, by decide +kernel, by decide⟩
  | 5, _ => exact ⟨4, by decide +kernel, by decide⟩
theorem wide_none {a : Int} (h : a < 0 ∨ a > 7) : Ev (fun k => octet_Wide.f k a) 0 := by
  have hj : Ev (fun k => octet_Wide.j0 k a true) 0 := by
    refine Ev.succ ?_
    simp only [octet_Wide.j0]
    exact Ev.pos trivial (Ev.now _)
  unfold octet_Wide.f
  by_cases h0 : a < 0
  · exact Ev.pos h0 hj
  · refine Ev.neg h0 ?_
    rw [decide_eq_true (by omega)]
    exact hj
theorem Dual_none {a : Int} (h : a < 0 ∨ a > 7) : Ev (fun k => frob_Dual.f k a) ([] : List S24) := by
  unfold frob_Dual.f
  exact Ev.bind (wide_none h) (Ev.pos rfl (Ev.now _))
theorem Dual_ev {k : Nat} (hk : k < 6) : Ev (fun m => frob_Dual.f m (k : Int)) ((dualsL k (2 ^ k)).map elS) := by
  obtain ⟨v, hv, hne⟩ := wide_some k hk
  have h7 := pow_le7 (show k ≤ 7 by omega)
  unfold frob_Dual.f
  refine Ev.bind (Ev.of (fun m => octet_Wide.mono _ m) hv) (Ev.neg hne (Ev.pos (by omega) ?_))
  rw [shl1_b k hk]
  refine Ev.pos (Int.natCast_nonneg _) (Ev.pos (by rw [Int.toNat_natCast]; omega) ?_)
  have h := dual_l0 (show k ≤ 7 by omega) (2 ^ k) 0 (Nat.zero_add _)
  have e : (mixL k 0 0).map elS = List.replicate ((2 ^ k : Nat) : Int).toNat z24 := by
    rw [mix_zero, List.map_replicate, Int.toNat_natCast]
    have e2 : elS 0 = z24 := by
      show (⟨hiW 0, loW 0⟩ : S24) = z24
      rw [hi_zero, lo_zero]
      rfl
    rw [e2]
  rw [e] at h
  exact h
theorem law_l0 {k : Nat} (hk : k ≤ 7) {a : T 7} (ha : InL k a) : ∀ d i : Nat, i + d = 2 ^ k → Ev (fun m => steeplelaw33_FrobDual.l0 m (k : Int) ((dualsL k (2 ^ k)).map elS) (i : Int) (hiW a) (loW a)) true
  | 0, i, h => by
    refine Ev.succ ?_
    simp only [steeplelaw33_FrobDual.l0]
    exact Ev.neg (by rw [List.length_map, duals_len]; omega) (Ev.bind awake_ev (Ev.now _))
  | d + 1, i, h => by
    have h7 := pow_le7 hk
    have hi : i < 2 ^ k := by omega
    obtain ⟨of, hof, hl, htr⟩ := dual_solve hk hi
    have hd : dlE k i = bsum 0 of := by
      unfold dlE
      rw [hof]
    have hx : InL k (bsum 0 of) := bsum_in hk of 0 (by omega)
    have hm := inL_mul hk ha hx
    refine Ev.succ ?_
    simp only [steeplelaw33_FrobDual.l0]
    refine Ev.pos (by rw [List.length_map, duals_len]; omega) (Ev.pos (by omega) ?_)
    rw [rd_elS (by rw [duals_len]; exact hi), elS_f0, elS_f1]
    have eg : (dualsL k (2 ^ k))[i]'(by rw [duals_len]; exact hi) = bsum 0 of := by
      rw [← hd]
      unfold dualsL
      rw [List.getElem_map, List.getElem_range]
    rw [eg]
    refine Ev.bind (Product_ev _ _) (Ev.bind (refTrace_ev (Nat.zero_le k) hk _) ?_)
    rw [conj_tE hk hm, dual_has hk htr ha hi]
    refine Ev.bind (refHas_ev a _) ?_
    rw [hasE_nat a (by omega), wrap_succ i (by omega)]
    have e : (((elP (bit (hasB a i) : T 7)).1 == 0 && ((elP (bit (hasB a i) : T 7)).2 == 1)) != (enc 7 a).testBit i) = false := by
      have e0 : (enc 7 a).testBit i = hasB a i := rfl
      rw [e0]
      cases hasB a i with
      | true =>
        have e1 : (elP (bit true : T 7)).1 = 0 := hi_one
        have e2 : (elP (bit true : T 7)).2 = 1 := lo_one
        rw [e1, e2]
        rfl
      | false =>
        have e1 : (elP (bit false : T 7)).1 = 0 := hi_zero
        have e2 : (elP (bit false : T 7)).2 = 0 := lo_zero
        rw [e1, e2]
        rfl
    rw [e]
    exact Ev.neg (by decide) (law_l0 hk ha d (i + 1) (by omega))
theorem none_ev {a s t : Int} (h : a < 0 ∨ a > 7) : Ev (fun k => steeplelaw33_FrobDual.j0 k a false s t) true := by
  have hj : Ev (fun k => steeplelaw33_FrobDual.j1 k a ([] : List S24) true s t) true := by
    refine Ev.succ ?_
    simp only [steeplelaw33_FrobDual.j1]
    exact Ev.pos trivial (Ev.bind awake_ev (Ev.pos rfl (Ev.const (by decide))))
  refine Ev.succ ?_
  simp only [steeplelaw33_FrobDual.j0]
  refine Ev.neg (by decide) (Ev.bind (Dual_none h) ?_)
  by_cases h0 : a < 0
  · exact Ev.pos h0 hj
  · refine Ev.neg h0 ?_
    rw [decide_eq_true (show a > 7 by omega)]
    exact hj
theorem FrobDual : steeplelaw33_FrobDual.Pure := by
  intro l s hl hs
  obtain ⟨s0, s1⟩ := s
  obtain ⟨x, rfl, rfl⟩ := el_of hs.1 hs.2
  dsimp only
  refine Ev.rounds ?_
  unfold steeplelaw33_FrobDual.f
  by_cases h5 : l > 5
  · refine Ev.pos h5 ?_
    by_cases h7 : l ≤ 7
    · rw [decide_eq_true h7]
      refine Ev.succ ?_
      simp only [steeplelaw33_FrobDual.j0]
      exact Ev.pos trivial (Ev.bind awake_ev (Ev.now _))
    · rw [decide_eq_false h7]
      exact none_ev (Or.inr (by omega))
  · refine Ev.neg h5 ?_
    by_cases h0 : l < 0
    · exact none_ev (Or.inl h0)
    · obtain ⟨k, rfl⟩ : ∃ k : Nat, l = (k : Int) := ⟨l.toNat, by omega⟩
      have hk : k ≤ 7 := by omega
      refine Ev.succ ?_
      simp only [steeplelaw33_FrobDual.j0]
      refine Ev.neg (by decide) (Ev.bind (Dual_ev (by omega)) (Ev.neg h0 ?_))
      rw [decide_eq_false (show ¬ ((k : Int) > 7) by omega)]
      refine Ev.succ ?_
      simp only [steeplelaw33_FrobDual.j1]
      refine Ev.neg (by decide) (Ev.bind (Ev.const (of33_f hk x)) (Ev.bind (Two_ev hk) (Ev.pos (by rw [List.length_map, duals_len]) ?_)))
      exact law_l0 hk (cutE_in hk x) (2 ^ k) 0 (Nat.zero_add _)
end Go.Proofs.Ytlegcabfgkccmaa.Pure
