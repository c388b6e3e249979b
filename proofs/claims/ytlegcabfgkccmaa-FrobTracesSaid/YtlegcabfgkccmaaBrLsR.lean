/- Conjugates and the least polynomial, as the reference has them. Conditions: those that each theorem names. -/
import Derived.Test.YtlegcabfgkccmaaBrLs
import Derived.Test.YtlegcabfgkccmaaBrPw
import Derived.Test.YtlegcabfgkccmaaPx8
import Derived.Test.YtlegcabfgkccmaaPx9
set_option linter.unusedVariables false
set_option linter.unusedSimpArgs false
namespace Go.Proofs.Ytlegcabfgkccmaa.Br
open Go.RowKit Go.Proofs.YtlegcabfgkccmaaT Go.Proofs.Ytlegcabfgkccmaa.P Go.Proofs.YtlegcabfgkccmaaW.PrintWords Go.Proofs.YtlegcabfgkccmaaW.PrintLast Go.Proofs.YtlegcabfgkccmaaW.PrintMore
/-! Elements in the document's own type. -/
def elR (x : T 7) : S37 := ⟨hiW x, loW x⟩
theorem elR_f0 (x : T 7) : (elR x).f0 = hiW x := (rfl)
theorem elR_f1 (x : T 7) : (elR x).f1 = loW x := (rfl)
theorem elR_mk (v : T 7) : (⟨hiW v, loW v⟩ : S37) = elR v := (rfl)
theorem rd_elR {m : List (T 7)} {i : Nat} (h : i < m.length) : rd_T37 (m.map elR) (i : Int) = elR m[i] := by
  unfold rd_T37
  rw [Int.toNat_natCast, List.getD_eq_getElem?_getD, List.getElem?_map, List.getElem?_eq_getElem h]
  rfl
theorem rdR_mid (A : List (T 7)) (u : T 7) (Z : List (T 7)) {i : Nat} (h : A.length = i) : rd_T37 ((A ++ u :: Z).map elR) (i : Int) = elR u := by
  subst h
  rw [rd_elR (by rw [List.length_append, List.length_cons]; omega), List.getElem_append_right (Nat.le_refl _)]
  simp
theorem refConj_l0 {j t : Nat} (ht : t ≤ j) (hj : j ≤ 7) (d : Nat) : ∀ (i : Nat) (acc : List (T 7)) (y : T 7), i + d = 2 ^ (j - t) → acc.length = i → Ev (fun k => steepleref33_Conjugates.l0 k (j : Int) (t : Int) (acc.map elR) (i : Int) (hiW y) (loW y)) ((acc ++ cjT (2 ^ t) d y).map elR) := by
  have h7 := pow_le7 (show t ≤ 7 by omega)
  have h8 := pow_le7 (show j - t ≤ 7 by omega)
  induction d with
  | zero =>
    intro i acc y h hl
    refine Ev.succ ?_
    simp only [steepleref33_Conjugates.l0]
    rw [show wrap64 ((j : Int) - (t : Int)) = ((j - t : Nat) : Int) by unfold wrap64; omega]
    refine Ev.bind (Two_ev (show j - t ≤ 7 by omega)) (Ev.neg (by omega) ?_)
    show Ev _ ((acc ++ []).map elR)
    rw [List.append_nil]
    exact Ev.now _
  | succ d ih =>
    intro i acc y h hl
    refine Ev.succ ?_
    simp only [steepleref33_Conjugates.l0]
    rw [show wrap64 ((j : Int) - (t : Int)) = ((j - t : Nat) : Int) by unfold wrap64; omega]
    refine Ev.bind (Two_ev (show j - t ≤ 7 by omega)) (Ev.pos (by omega) (Ev.pos (by rw [List.length_map]; omega) (Ev.bind (Two_ev (show t ≤ 7 by omega)) (Ev.bind (refPower_ev h7 y) ?_))))
    have e : acc.map elR ++ [(⟨hiW y, loW y⟩ : S37)] = (acc ++ [y]).map elR := by
      rw [List.map_append]
      rfl
    rw [e, wrap_succ i (by omega)]
    have := ih (i + 1) (acc ++ [y]) (frob (2 ^ t) y) (by omega) (by rw [List.length_append, List.length_singleton, hl])
    rw [List.append_assoc, List.singleton_append] at this
    exact this
theorem refConj_ev {j t : Nat} (ht : t ≤ j) (hj : j ≤ 7) (x : T 7) : Ev (fun k => steepleref33_Conjugates.f k (j : Int) (t : Int) (hiW x) (loW x)) ((cjT (2 ^ t) (2 ^ (j - t)) x).map elR) := by
  unfold steepleref33_Conjugates.f
  exact refConj_l0 ht hj (2 ^ (j - t)) 0 [] x (by omega) rfl
theorem eq_words {x y : T 7} (h : (hiW x == hiW y && loW x == loW y) = true) : x = y := by
  rw [Bool.and_eq_true, beq_iff_eq, beq_iff_eq] at h
  exact el_inj h.1 h.2
theorem refin_l0 (L : List (T 7)) (y : T 7) (r : Bool) : ∀ d i : Nat, i + d = L.length → L.length < 1000 → (r = true → y ∈ L.drop i) → (r = false → y ∉ L.drop i) → Ev (fun k => steepleref33_in.l0 k (L.map elR) (i : Int) (hiW y) (loW y)) r
  | 0, i, h, hL, h1, h2 => by
    refine Ev.succ ?_
    simp only [steepleref33_in.l0]
    refine Ev.neg (by rw [List.length_map]; omega) ?_
    cases r with
    | false => exact Ev.now _
    | true =>
      have := h1 rfl
      rw [List.drop_of_length_le (by omega)] at this
      cases this
  | d + 1, i, h, hL, h1, h2 => by
    have hi : i < L.length := by omega
    refine Ev.succ ?_
    simp only [steepleref33_in.l0]
    refine Ev.pos (by rw [List.length_map]; omega) (Ev.pos (by omega) ?_)
    rw [rd_elR hi, elR_f0, elR_f1, wrap_succ i (by omega)]
    rw [List.drop_eq_getElem_cons hi] at h1 h2
    by_cases e : (hiW L[i] == hiW y && loW L[i] == loW y) = true
    · refine Ev.pos e ?_
      have e2 := eq_words e
      cases r with
      | true => exact Ev.now _
      | false => exact absurd (List.mem_cons.2 (.inl e2.symm)) (h2 rfl)
    · refine Ev.neg e ?_
      have ne : y ≠ L[i] := fun h3 => e (eq_pair h3.symm)
      refine refin_l0 L y r d (i + 1) (by omega) hL (fun hr => ?_) (fun hr hm => h2 hr (List.mem_cons.2 (.inr hm)))
      rcases List.mem_cons.1 (h1 hr) with h3 | h3
      · exact absurd h3 ne
      · exact h3
theorem refin_ev (L : List (T 7)) (hL : L.length < 1000) (y : T 7) (r : Bool) (h1 : r = true → y ∈ L) (h2 : r = false → y ∉ L) : Ev (fun k => steepleref33_in.f k (L.map elR) (hiW y) (loW y)) r := by
  unfold steepleref33_in.f
  exact refin_l0 L y r L.length 0 (by omega) hL h1 h2
/-- One factor more. -/
theorem refLs_l1 {L : List (T 7)} {i : Nat} (hi : i < L.length) (hL : L.length < 1000) {r : List S37} : ∀ (rest pre acc : List (T 7)) (u : T 7), pre.length + rest.length < 1000 → 0 < pre.length + rest.length → acc.length = pre.length → (pre = [] ∧ u = 0 ∨ ∃ q, pre = q ++ [u]) →
    Ev (fun k => steepleref33_Least.l0 k ((acc ++ ml L[i] u rest).map elR) (L.map elR) ((i + 1 : Nat) : Int)) r →
    Ev (fun k => steepleref33_Least.l1 k ((pre ++ rest).map elR) (L.map elR) (i : Int) (acc.map elR) ((pre.length : Nat) : Int)) r
  | [], pre, acc, u, h, h0, ha, hu, hr => by
    rw [List.length_nil, Nat.add_zero] at h h0
    refine Ev.succ ?_
    simp only [steepleref33_Least.l1]
    obtain ⟨q, rfl⟩ : ∃ q, pre = q ++ [u] := by
      rcases hu with ⟨e, _⟩ | e
      · rw [e] at h0
        exact absurd h0 (by decide)
      · exact e
    rw [List.append_nil]
    have hql : (q ++ [u]).length = q.length + 1 := by rw [List.length_append, List.length_singleton]
    rw [hql] at h ha ⊢
    refine Ev.pos (by rw [List.length_map, hql]; omega) (Ev.neg (by rw [List.length_map, hql]; omega) (Ev.pos (by omega) ?_))
    rw [show wrap64 (((q.length + 1 : Nat) : Int) - 1) = (q.length : Int) by unfold wrap64; omega]
    refine Ev.pos (by omega) (Ev.pos (by rw [List.length_map, hql]; omega) ?_)
    rw [rdR_mid q u [] rfl, elR_f0, elR_f1]
    have z := refAdd_f 0 u
    rw [hi_zero, lo_zero, zero_add] at z
    refine Ev.bind (Ev.const z) (Ev.pos (by rw [List.length_map]; omega) ?_)
    have e : acc.map elR ++ [(⟨hiW u, loW u⟩ : S37)] = (acc ++ [u]).map elR := by
      rw [List.map_append]
      rfl
    rw [e, wrap_succ (q.length + 1) (by omega)]
    refine Ev.succ ?_
    simp only [steepleref33_Least.l1]
    refine Ev.neg (by rw [List.length_map, hql]; omega) ?_
    rw [wrap_succ i (by omega)]
    exact hr
  | y :: l, pre, acc, u, h, h0, ha, hu, hr => by
    rw [List.length_cons] at h h0
    refine Ev.succ ?_
    simp only [steepleref33_Least.l1]
    have hlen : ((pre ++ y :: l).map elR).length = pre.length + l.length + 1 := by rw [List.length_map, List.length_append, List.length_cons]; omega
    have hlL : (L.map elR).length = L.length := List.length_map ..
    refine Ev.pos (by rw [hlen]; omega) (Ev.pos (by rw [hlen]; omega) (Ev.pos (by omega) (Ev.pos (by rw [hlL]; omega) (Ev.pos (by omega) ?_))))
    rw [rd_elR hi, rdR_mid pre y l rfl, elR_f0, elR_f1, elR_f0, elR_f1]
    refine Ev.bind (Product_ev L[i] y) ?_
    have go : ∀ v : T 7, v = u + L[i] * y → Ev (fun k => if (acc.map elR).length < 8796093022208 then steepleref33_Least.l1 k ((pre ++ y :: l).map elR) (L.map elR) (i : Int) (acc.map elR ++ [(⟨hiW v, loW v⟩ : S37)]) (wrap64 (((pre.length : Nat) : Int) + 1)) else none) r := by
      intro v hv
      refine Ev.pos (by rw [List.length_map]; omega) ?_
      have e : acc.map elR ++ [(⟨hiW v, loW v⟩ : S37)] = (acc ++ [v]).map elR := by
        rw [List.map_append]
        rfl
      rw [e, wrap_succ pre.length (by omega)]
      have ih := refLs_l1 hi hL (r := r) l (pre ++ [y]) (acc ++ [v]) y (by rw [List.length_append, List.length_singleton]; omega) (by rw [List.length_append, List.length_singleton]; omega) (by rw [List.length_append, List.length_append, List.length_singleton, List.length_singleton, ha]) (.inr ⟨pre, rfl⟩) (by
        rw [List.append_assoc, List.singleton_append, hv]
        exact hr)
      rw [List.append_assoc, List.singleton_append, List.length_append, List.length_singleton] at ih
      exact ih
    rcases hu with ⟨rfl, rfl⟩ | ⟨q, rfl⟩
    · refine Ev.neg (by rw [List.length_nil]; omega) ?_
      exact go (L[i] * y) (zero_add _).symm
    · have hql : (q ++ [u]).length = q.length + 1 := by rw [List.length_append, List.length_singleton]
      refine Ev.pos (by rw [hql]; omega) ?_
      have ew : wrap64 ((((q ++ [u]).length : Nat) : Int) - 1) = (q.length : Int) := by rw [hql]; unfold wrap64; omega
      rw [ew]
      refine Ev.pos (by omega) (Ev.pos (by rw [hlen, hql]; omega) ?_)
      have er : rd_T37 ((q ++ [u] ++ y :: l).map elR) ((q.length : Nat) : Int) = elR u := by
        rw [List.append_assoc, List.singleton_append]
        exact rdR_mid q u _ rfl
      rw [er, elR_f0, elR_f1]
      refine Ev.bind (Ev.const (refAdd_f (L[i] * y) u)) ?_
      exact go _ (add_comm _ _)
/-- Factors that were there are passed by. -/
theorem refLs_rest {L : List (T 7)} (hL : L.length < 1000) {P : List S37} : ∀ d i : Nat, i + d = L.length → (∀ m (h : m < L.length), i ≤ m → L[m] ∈ L.take m) → Ev (fun k => steepleref33_Least.l0 k P (L.map elR) (i : Int)) P
  | 0, i, h, _ => by
    refine Ev.succ ?_
    simp only [steepleref33_Least.l0]
    exact Ev.neg (by rw [List.length_map]; omega) (Ev.now _)
  | d + 1, i, h, hm => by
    have hi : i < L.length := by omega
    refine Ev.succ ?_
    simp only [steepleref33_Least.l0]
    refine Ev.pos (by rw [List.length_map]; omega) (Ev.pos (by omega) (Ev.pos (by rw [List.length_map]; omega) ?_))
    rw [rd_elR hi, elR_f0, elR_f1, Int.toNat_natCast, ← List.map_take]
    refine Ev.bind (refin_ev (L.take i) (by rw [List.length_take]; omega) L[i] true (fun _ => hm i hi (Nat.le_refl _)) (fun e => by cases e)) (Ev.pos rfl ?_)
    rw [wrap_succ i (by omega)]
    exact refLs_rest hL d (i + 1) (by omega) (fun m h1 h2 => hm m h1 (by omega))
theorem refLs_all {L : List (T 7)} (hL : L.length < 500) {n : Nat} (hn : n ≤ L.length) (h1 : ∀ m (h : m < L.length), m < n → L[m] ∉ L.take m) (h2 : ∀ m (h : m < L.length), n ≤ m → L[m] ∈ L.take m) :
    ∀ d i : Nat, i + d = n → Ev (fun k => steepleref33_Least.l0 k ((prodL [1] (L.take i)).map elR) (L.map elR) (i : Int)) ((prodL [1] (L.take n)).map elR)
  | 0, i, h => by
    obtain rfl : i = n := by omega
    exact refLs_rest (by omega) (L.length - i) i (by omega) h2
  | d + 1, i, h => by
    have hi : i < L.length := by omega
    refine Ev.succ ?_
    simp only [steepleref33_Least.l0]
    refine Ev.pos (by rw [List.length_map]; omega) (Ev.pos (by omega) (Ev.pos (by rw [List.length_map]; omega) ?_))
    rw [rd_elR hi, elR_f0, elR_f1, Int.toNat_natCast, ← List.map_take]
    refine Ev.bind (refin_ev (L.take i) (by rw [List.length_take]; omega) L[i] false (fun e => by cases e) (fun _ => h1 i hi (by omega))) (Ev.neg (by decide) ?_)
    have hlen : (prodL [1] (L.take i)).length = i + 1 := by
      rw [prodL_len, List.length_take, List.length_singleton]
      omega
    have go := refLs_l1 hi (by omega) (r := (prodL [1] (L.take n)).map elR) (prodL [1] (L.take i)) [] [] 0 (by rw [hlen, List.length_nil]; omega) (by rw [hlen]; omega) rfl (.inl ⟨rfl, rfl⟩) (by
      rw [List.nil_append, ← prodL_snoc, ← List.take_succ_eq_append_getElem hi]
      exact refLs_all hL hn h1 h2 d (i + 1) (by omega))
    rw [List.nil_append] at go
    exact go
theorem refLeast_ev {j : Nat} (hj : j ≤ 7) {x : T 7} (hx : InL j x) : Ev (fun k => steepleref33_Least.f k (j : Int) (hiW x) (loW x)) ((lsP x).map elR) := by
  unfold steepleref33_Least.f
  have hc := refConj_ev (t := 0) (Nat.zero_le j) hj x
  rw [Nat.sub_zero] at hc
  refine Ev.bind hc ?_
  have h7 := pow_le7 hj
  have hn : 2 ^ lvE x ≤ 2 ^ j := Nat.pow_le_pow_right (by decide) (lvE_of hx)
  have hlen : (cjT 1 (2 ^ j) x).length = 2 ^ j := cjT_len 1 _ x
  have hfull : frob (2 ^ lvE x) x = x := frob_in (lvE_le x) (lvE_in x)
  have htake : (cjT 1 (2 ^ j) x).take (2 ^ lvE x) = cjT 1 (2 ^ lvE x) x := by
    rw [show 2 ^ j = 2 ^ lvE x + (2 ^ j - 2 ^ lvE x) by omega, cjT_add]
    exact List.take_left' (cjT_len 1 _ x)
  have e1 : [(⟨0, 1⟩ : S37)] = (prodL [1] ((cjT 1 (2 ^ j) x).take 0)).map elR := by
    show _ = [elR 1]
    show _ = [(⟨hiW 1, loW 1⟩ : S37)]
    rw [hi_one, lo_one]
  rw [e1]
  have := refLs_all (L := cjT 1 (2 ^ j) x) (n := 2 ^ lvE x) (by rw [hlen]; omega) (by rw [hlen]; exact hn) ?_ ?_ (2 ^ lvE x) 0 (by omega)
  · rw [htake] at this
    exact this
  · intro m h hm hmem
    rw [cjT_at, Nat.mul_one] at hmem
    obtain ⟨i, hi, e⟩ := List.getElem_of_mem hmem
    rw [List.length_take] at hi
    rw [List.getElem_take, cjT_at, Nat.mul_one] at e
    rcases Nat.eq_zero_or_pos (lvE x) with h0 | h0
    · rw [h0] at hm
      have : 2 ^ 0 = 1 := rfl
      omega
    · obtain ⟨n, hnn⟩ : ∃ n, lvE x = n + 1 := ⟨lvE x - 1, by omega⟩
      have h7 := lvE_le x
      have hnot : ¬ InL n x := lvE_not x (by omega)
      have hin := lvE_in x
      rw [hnn] at hin hm
      exact conj_unlike (by omega) hin hnot (show i < m by omega) hm e
  · intro m h hm
    rw [cjT_at, Nat.mul_one]
    have hlt : m - 2 ^ lvE x < ((cjT 1 (2 ^ j) x).take m).length := by
      rw [List.length_take]
      have := Nat.two_pow_pos (lvE x)
      omega
    have e : ((cjT 1 (2 ^ j) x).take m)[m - 2 ^ lvE x] = frob m x := by
      rw [List.getElem_take, cjT_at, Nat.mul_one]
      have h3 : frob (m - 2 ^ lvE x) (frob (2 ^ lvE x) x) = frob (m - 2 ^ lvE x) x := by rw [hfull]
      rw [frob_frob, show 2 ^ lvE x + (m - 2 ^ lvE x) = m by omega] at h3
      exact h3.symm
    rw [← e]
    exact List.getElem_mem hlt
end Go.Proofs.Ytlegcabfgkccmaa.Br
