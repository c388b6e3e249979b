/- Values by coefficients, and coefficients by values: what the code comes to. Conditions: those that each theorem names. -/
import Derived.Test.YthnaalocgoeddaaBrAwake
import Derived.Test.YthnaalocgoeddaaLnB
import Derived.Test.YthnaalocgoeddaaBrRefMul
import Derived.Test.YthnaalocgoeddaaPx13
import Derived.Test.YthnaalocgoeddaaPx14
import Derived.Test.YthnaalocgoeddaaPx15
set_option linter.unusedVariables false
set_option linter.unusedSimpArgs false
namespace Go.Proofs.Ythnaalocgoeddaa.Br
open Go.RowKit Go.Proofs.YthnaalocgoeddaaT Go.Proofs.Ythnaalocgoeddaa.P Go.Proofs.YthnaalocgoeddaaW.PrintWords Go.Proofs.YthnaalocgoeddaaW.PrintLast Go.Proofs.YthnaalocgoeddaaW.PrintMore
theorem horner_l0 {j : Nat} (hj : j ≤ 7) {x : T 7} (hx : InL j x) (L : List (T 7)) (hL : L.length < 1000) (hin : ∀ c ∈ L, InL j c) : ∀ i : Nat, i ≤ L.length →
    Ev (fun k => line_horner.l0 k (j : Int) (L.map elS) ((i : Int) - 1) (hiW x) (loW x) (hiW (hv (L.drop i) x)) (loW (hv (L.drop i) x))) (hiW (hv L x), loW (hv L x))
  | 0, _ => by
    refine Ev.succ ?_
    simp only [line_horner.l0]
    rw [List.drop_zero]
    exact Ev.neg (by omega) (Ev.now _)
  | i + 1, h => by
    have hi : i < L.length := by omega
    refine Ev.succ ?_
    simp only [line_horner.l0]
    rw [show ((i + 1 : Nat) : Int) - 1 = (i : Int) by omega]
    refine Ev.pos (by omega) ?_
    refine Ev.bind (Mul_ev _ _ _) ?_
    have hd := hv_in hj hx (L.drop (i + 1)) (fun c hc => hin c (List.mem_of_mem_drop hc))
    rw [mulE_in hj hd hx]
    refine Ev.pos (by omega) (Ev.pos (by rw [List.length_map]; omega) ?_)
    rw [rd_elS hi, elS_f0, elS_f1]
    refine Ev.bind (Ev.const (Add_f _ _)) ?_
    rw [show wrap64 ((i : Int) - 1) = (i : Int) - 1 by unfold wrap64; omega]
    have e : hv (L.drop (i + 1)) x * x + L[i] = hv (L.drop i) x := by
      rw [List.drop_eq_getElem_cons hi, hv_cons, mul_comm x, add_comm]
    rw [e]
    exact horner_l0 hj hx L hL hin i (by omega)
theorem horner_ev {j : Nat} (hj : j ≤ 7) {x : T 7} (hx : InL j x) (L : List (T 7)) (hL : L.length < 1000) (hin : ∀ c ∈ L, InL j c) :
    Ev (fun k => line_horner.f k (j : Int) (L.map elS) (hiW x) (loW x)) (hiW (hv L x), loW (hv L x)) := by
  unfold line_horner.f
  rw [List.length_map, show wrap64 ((L.length : Int) - 1) = (L.length : Int) - 1 by unfold wrap64; omega]
  have := horner_l0 hj hx L hL hin L.length (Nat.le_refl _)
  rw [List.drop_of_length_le (Nat.le_refl _), hv_nil, hi_zero, lo_zero] at this
  exact this
theorem z28_el : z28 = elS 0 := by
  show (⟨0, 0⟩ : S28) = ⟨hiW 0, loW 0⟩
  rw [hi_zero, lo_zero]
/-! Newton's way. -/
theorem set_el (l : List (T 7)) (m : Nat) (c : T 7) : (l.map elS).set m (⟨hiW c, loW c⟩ : S28) = (l.set m c).map elS := by
  rw [List.map_set]
  rfl
theorem P_l1 {j n i : Nat} (hj : j ≤ 7) {b x : T 7} (hb : InL j b) (hx : InL j x) (L o z : List (T 7)) (hz : z.length ≤ o.length) (hol : o.length < 1000) (ho : ∀ c ∈ o, InL j c) (hzi : ∀ c ∈ z, InL j c) {r : List S28 × Int}
    (hr : Ev (fun k => line_Powers.l0 k (j : Int) ((addS b o z).map elS) ((mulX x 0 z).map elS) (L.map elS) (n : Int) ((i + 1 : Nat) : Int)) r) (hi : i < 1000) : ∀ d m : Nat, m + d = z.length →
    Ev (fun k => line_Powers.l1 k (j : Int) ((addS b o (z.take m)).map elS) ((mulX x 0 (z.take m) ++ List.replicate d 0).map elS) (L.map elS) (n : Int) (i : Int) (z.map elS) (z.length : Int) (m : Int) (hiW x) (loW x) (hiW b) (loW b)) r
  | 0, m, h => by
    refine Ev.succ ?_
    simp only [line_Powers.l1]
    refine Ev.neg (by omega) ?_
    rw [wrap_succ i (by omega), List.take_of_length_le (by omega), List.replicate_zero, List.append_nil]
    exact hr
  | d + 1, m, h => by
    have hm : m < z.length := by omega
    have hmo : m < (addS b o (z.take m)).length := by rw [addS_length]; omega
    have hmo' : m < o.length := by omega
    have hzm := hzi z[m] (List.getElem_mem _)
    have hom := ho o[m] (List.getElem_mem _)
    have hlt : (z.take m).length = m := by rw [List.length_take]; omega
    have hlen : (mulX x 0 (z.take m) ++ List.replicate (d + 1) (0 : T 7)).length = z.length + 1 := by rw [List.length_append, mulX_length, hlt, List.length_replicate]; omega
    have hmn : m < (mulX x 0 (z.take m) ++ List.replicate (d + 1) (0 : T 7)).length := by omega
    have hget : (addS b o (z.take m))[m] = o[m] := addS_get b o (z.take m) m hmo' (by omega)
    have hlast : (mulX x 0 (z.take m) ++ List.replicate (d + 1) (0 : T 7))[m] = lastK 0 (z.take m) := by
      have := mulX_last x (List.replicate (d + 1) (0 : T 7)) (z.take m) 0 (by omega)
      simpa only [hlt] using this
    have hlk : ∀ (l : List (T 7)) (q : T 7), InL j q → (∀ c ∈ l, InL j c) → InL j (lastK q l) := by
      intro l
      induction l with
      | nil => exact fun q hq _ => hq
      | cons c l ih => exact fun q _ hl => ih c (hl c List.mem_cons_self) (fun y hy => hl y (List.mem_cons_of_mem _ hy))
    refine Ev.succ ?_
    simp only [line_Powers.l1]
    refine Ev.pos (by omega) (Ev.pos (by omega) (Ev.pos (by rw [List.length_map]; omega) (Ev.pos (by rw [List.length_map]; omega) ?_)))
    rw [rd_elS hm, rd_elS hmo, hget, elS_f0, elS_f1, elS_f0, elS_f1, wrap_succ m (by omega)]
    refine Ev.bind (Mul_ev _ _ _) ?_
    rw [mulE_in hj hb hzm]
    refine Ev.bind (Ev.const (Add_f _ _)) ?_
    refine Ev.pos (by rw [List.length_map]; omega) ?_
    rw [rd_elS hmn, hlast, elS_f0, elS_f1]
    refine Ev.bind (Mul_ev _ _ _) ?_
    rw [mulE_in hj hzm hx]
    refine Ev.bind (Ev.const (Add_f _ _)) ?_
    refine Ev.bind (Ev.now _) ?_
    refine Ev.pos (by omega) (Ev.pos (by rw [List.length_map]; omega) ?_)
    rw [Int.toNat_natCast, Int.toNat_natCast]
    have e1 : ((mulX x 0 (z.take m) ++ List.replicate (d + 1) (0 : T 7)).map elS).set m (⟨hiW (lastK 0 (z.take m) + z[m] * x), loW (lastK 0 (z.take m) + z[m] * x)⟩ : S28) = ((mulX x 0 (z.take m) ++ List.replicate (d + 1) (0 : T 7)).set m (lastK 0 (z.take m) + z[m] * x)).map elS := by
      rw [List.map_set]
      rfl
    rw [e1]
    have hm1 : m + 1 < ((mulX x 0 (z.take m) ++ List.replicate (d + 1) (0 : T 7)).set m (lastK 0 (z.take m) + z[m] * x)).length := by rw [List.length_set]; omega
    have hnx : ((mulX x 0 (z.take m) ++ List.replicate (d + 1) (0 : T 7)).set m (lastK 0 (z.take m) + z[m] * x))[m + 1] = 0 := by
      have := mulX_next x z[m] (List.replicate d (0 : T 7)) (z.take m) 0 (lastK 0 (z.take m) + z[m] * x) (by rw [hlt]; exact hm1)
      simpa only [hlt, ← List.replicate_succ] using this
    rw [rd_elS hm1, hnx, elS_f0, elS_f1]
    refine Ev.bind (Ev.const (Add_f _ _)) ?_
    have e2 : (((mulX x 0 (z.take m) ++ List.replicate (d + 1) (0 : T 7)).set m (lastK 0 (z.take m) + z[m] * x)).map elS).set (m + 1) (⟨hiW (0 + z[m]), loW (0 + z[m])⟩ : S28) = (mulX x 0 (z.take (m + 1)) ++ List.replicate d (0 : T 7)).map elS := by
      have := mulX_snoc x z[m] (List.replicate d (0 : T 7)) (z.take m) 0
      rw [hlt, ← List.replicate_succ] at this
      rw [List.take_succ_eq_append_getElem hm, ← this]
      exact set_el _ _ _
    have e3 : ((addS b o (z.take m)).map elS).set m (⟨hiW (o[m] + b * z[m]), loW (o[m] + b * z[m])⟩ : S28) = (addS b o (z.take (m + 1))).map elS := by
      rw [← addS_set b o z m hm hmo']
      exact set_el _ _ _
    rw [e2, e3]
    exact P_l1 hj hb hx L o z hz hol ho hzi hr hi d (m + 1) (by omega)
/-- The product of all places before. -/
def zP (t : T 7) : Nat → T 7
  | 0 => 1
  | i + 1 => (t + pl i) * zP t i
theorem zP_ne {i : Nat} : ∀ m, m ≤ i → i < 1000 → zP (pl i) m ≠ 0
  | 0, _, _ => one_ne_zero
  | m + 1, h, hi => by
    have big : 1000 ≤ 2 ^ 2 ^ 7 := by decide
    intro e
    rcases mul_eq_zero.1 e with e | e
    · exact pl_ne (by omega) (by omega) (by omega) e
    · exact zP_ne m (by omega) hi e
theorem zP_zero : ∀ {i m : Nat}, m < i → zP (pl m) i = 0
  | i + 1, m, h => by
    show (pl m + pl i) * zP (pl m) i = 0
    by_cases e : m = i
    · rw [e, add_self, zero_mul]
    · rw [zP_zero (show m < i by omega), mul_zero]
theorem P_l0 {j : Nat} (hj : j ≤ 7) {L : List (T 7)} (hL : L.length ≤ 9) (hp : ∀ m, m < L.length → InL j (pl m)) (hin : ∀ c ∈ L, InL j c) : ∀ d i : Nat, i + d = L.length → ∀ o z : List (T 7), o.length = L.length → z.length = i + 1 → (∀ c ∈ o, InL j c) → (∀ c ∈ z, InL j c) →
    (∀ m (h : m < L.length), m < i → hv o (pl m) = L[m]) → (∀ t, hv z t = zP t i) →
    ∃ c : List (T 7), c.length = L.length ∧ (∀ y ∈ c, InL j y) ∧ (∀ m (h : m < L.length), hv c (pl m) = L[m]) ∧ Ev (fun k => line_Powers.l0 k (j : Int) (o.map elS) (z.map elS) (L.map elS) (L.length : Int) (i : Int)) (c.map elS, (0 : Int))
  | 0, i, h, o, z, h1, h2, h3, h4, h5, h6 => by
    refine ⟨o, h1, h3, fun m hm => h5 m hm (by omega), Ev.succ ?_⟩
    simp only [line_Powers.l0]
    exact Ev.neg (by omega) (Ev.now _)
  | d + 1, i, h, o, z, h1, h2, h3, h4, h5, h6 => by
    have hi : i < L.length := by omega
    have hx := hp i hi
    have hho := hv_in hj hx o h3
    have hhz := hv_in hj hx z h4
    have hzn : hv z (pl i) ≠ 0 := by rw [h6]; exact zP_ne i (Nat.le_refl _) (by omega)
    have hLi := hin L[i] (List.getElem_mem _)
    have hb : InL j ((L[i] + hv o (pl i)) * inv 7 (hv z (pl i))) := inL_mul hj (inL_add hLi hho) (inL_inv hj hhz)
    have hval : ∀ t, hv (addS ((L[i] + hv o (pl i)) * inv 7 (hv z (pl i))) o z) t = hv o t + (L[i] + hv o (pl i)) * inv 7 (hv z (pl i)) * hv z t := fun t => hv_addS _ t o z (by omega)
    obtain ⟨c, c1, c2, c3, c4⟩ := P_l0 hj hL hp hin d (i + 1) (by omega) (addS ((L[i] + hv o (pl i)) * inv 7 (hv z (pl i))) o z) (mulX (pl i) 0 z) (by rw [addS_length, h1]) (by rw [mulX_length, h2]) (addS_in hj hb o z h3 h4) (mulX_in hj hx z 0 inL_zero h4)
      (fun m hm hmi => by
        rw [hval]
        by_cases e : m = i
        · subst e
          rw [mul_assoc, mul_comm (inv 7 _), mul_inv hzn, mul_one, add_comm L[m], add_left_self]
        · rw [h6 (pl m), zP_zero (show m < i by omega), mul_zero, add_zero]
          exact h5 m hm (by omega))
      (fun t => by rw [hv_mulX, zero_add, h6]; rfl)
    refine ⟨c, c1, c2, c3, Ev.succ ?_⟩
    simp only [line_Powers.l0]
    refine Ev.pos (by omega) (Ev.pos (by omega) (Ev.pos (by rw [List.length_map]; omega) ?_))
    refine Ev.bind (Ev.const (place_f (by omega))) ?_
    rw [rd_elS hi, elS_f0, elS_f1]
    refine Ev.bind (horner_ev hj hx o (by omega) h3) ?_
    refine Ev.bind (Ev.const (Add_f _ _)) ?_
    refine Ev.bind (horner_ev hj hx z (by omega) h4) ?_
    refine Ev.bind (Div_ev _ _ _) ?_
    rw [invE_in hj hhz, mulE_in hj (inL_add hLi hho) (inL_inv hj hhz), List.length_map, wrap_succ z.length (by omega)]
    refine Ev.pos (by omega) (Ev.pos (by omega) ?_)
    rw [Int.toNat_natCast]
    have := P_l1 (n := L.length) (i := i) hj hb hx L o z (by omega) (by omega) h3 h4 c4 (by omega) z.length 0 (by omega)
    have e0 : addS ((L[i] + hv o (pl i)) * inv 7 (hv z (pl i))) o [] = o := by cases o <;> rfl
    rw [List.take_zero, e0, mulX_nil] at this
    have e1 : (([0] ++ List.replicate z.length (0 : T 7)).map elS) = List.replicate (z.length + 1) z28 := by
      rw [List.singleton_append, ← List.replicate_succ, List.map_replicate, z28_el]
    rw [e1] at this
    exact this
theorem Powers_ok {a : Int} {L : List (T 7)} (h : mayE a L = 0) : ∃ c : List (T 7), c.length = L.length ∧ (∀ y ∈ c, ofB a y = true) ∧ (∀ m (h : m < L.length), hv c (pl m) = L[m]) ∧ Ev (fun k => line_Powers.f k a (L.map elS)) (c.map elS, (0 : Int)) := by
  obtain ⟨j, rfl, hj, h0, h9, hp, hin⟩ := may_ok h
  obtain ⟨c, c1, c2, c3, c4⟩ := P_l0 hj h9 hp hin L.length 0 (by omega) (List.replicate L.length 0) [1] (by rw [List.length_replicate]) rfl
    (fun y hy => by rw [(List.mem_replicate.1 hy).2]; exact inL_zero) (fun y hy => by rw [List.mem_singleton.1 hy]; exact inL_one) (fun m _ hm => absurd hm (Nat.not_lt_zero m))
    (fun t => by rw [hv_cons, hv_nil, mul_zero, add_zero]; rfl)
  refine ⟨c, c1, fun y hy => ofB_nat hj (c2 y hy), c3, ?_⟩
  unfold line_Powers.f
  rw [List.length_map]
  have ha := ask_ev (j : Int) L (by omega)
  rw [h] at ha
  refine Ev.bind ha (Ev.pos rfl (Ev.pos (by omega) (Ev.pos (by omega) ?_)))
  refine Ev.bind (Ev.const One_f) ?_
  rw [Int.toNat_natCast, z28_el, ← List.map_replicate]
  exact c4
theorem Powers_bad {a : Int} {L : List (T 7)} (hl : L.length < 1000) (h : mayE a L ≠ 0) : Ev (fun k => line_Powers.f k a (L.map elS)) (([] : List S28), mayE a L) := by
  unfold line_Powers.f
  rw [List.length_map]
  exact Ev.bind (ask_ev a L hl) (Ev.neg h (Ev.now _))
/-! Values. -/
def valL (c : List (T 7)) (n : Nat) : List (T 7) := (List.range n).map fun i => hv c (pl i)
theorem valL_length (c : List (T 7)) (n : Nat) : (valL c n).length = n := by
  unfold valL
  rw [List.length_map, List.length_range]
theorem valL_get {c : List (T 7)} {n i : Nat} (h : i < (valL c n).length) : (valL c n)[i] = hv c (pl i) := by
  have h' : i < n := by rw [valL_length] at h; exact h
  have : (valL c n)[i]? = some (hv c (pl i)) := by
    unfold valL
    rw [List.getElem?_map, List.getElem?_range h']
    rfl
  rw [List.getElem?_eq_getElem h] at this
  exact Option.some.inj this
theorem Values_l0 {j n : Nat} (hj : j ≤ 7) (hn : n ≤ 9) (c : List (T 7)) (hc : c.length < 1000) (hp : ∀ m, m < n → InL j (pl m)) (hin : ∀ y ∈ c, InL j y) : ∀ d i : Nat, i + d = n →
    Ev (fun k => line_Values.l0 k (j : Int) (c.map elS) ((valL c i).map elS) (n : Int) (i : Int)) ((valL c n).map elS, (0 : Int))
  | 0, i, h => by
    obtain rfl : i = n := by omega
    refine Ev.succ ?_
    simp only [line_Values.l0]
    exact Ev.neg (by omega) (Ev.now _)
  | d + 1, i, h => by
    refine Ev.succ ?_
    simp only [line_Values.l0]
    refine Ev.pos (by omega) ?_
    refine Ev.bind (Ev.const (place_f (by omega))) ?_
    refine Ev.bind (horner_ev hj (hp i (by omega)) c hc hin) ?_
    refine Ev.pos (by rw [List.length_map, valL_length]; omega) ?_
    rw [wrap_succ i (by omega)]
    have e : (valL c i).map elS ++ [(⟨hiW (hv c (pl i)), loW (hv c (pl i))⟩ : S28)] = (valL c (i + 1)).map elS := by
      unfold valL
      rw [List.range_succ, List.map_append, List.map_append]
      rfl
    rw [e]
    exact Values_l0 hj hn c hc hp hin d (i + 1) (by omega)
/-- What hinders values at places up to d. -/
def valE (a : Int) (d : Int) (c : List (T 7)) : Int := if a < 0 ∨ a > 7 then 1 else if d < 0 ∨ fitsB a.toNat d.toNat = false ∨ c.length = 0 ∨ (c.length : Int) > d + 1 then 6 else if c.all (ofB a) = true then 0 else 5
theorem Fits_int {j : Nat} (hj : j ≤ 7) {d : Int} (hd : d < 2 ^ 40 ∨ d ≥ 0) (hw : (Lit.int .i64 d).wf = true) : Ev (fun k => line_Fits.f k (j : Int) d) (decide (0 ≤ d ∧ fitsB j d.toNat = true)) := by
  by_cases h0 : 0 ≤ d
  · obtain ⟨n, rfl⟩ := Int.eq_ofNat_of_zero_le h0
    rw [Int.toNat_natCast]
    by_cases hn : n < 2 ^ 40
    · have := Fits_ev hj hn
      have e : decide (0 ≤ (n : Int) ∧ fitsB j n = true) = fitsB j n := by
        cases hf : fitsB j n with
        | true => exact decide_eq_true ⟨h0, rfl⟩
        | false => exact decide_eq_false (fun h => by cases h.2)
      rw [e]
      exact this
    · have hf : fitsB j n = false := decide_eq_false (by omega)
      rw [hf]
      unfold line_Fits.f
      obtain ⟨t, ht0, ht⟩ := Wide_some hj
      refine Ev.bind ht (Ev.neg ht0 (Ev.pos (by omega) (Ev.neg (by omega) ?_)))
      exact Ev.const (by simp)
  · unfold line_Fits.f
    obtain ⟨t, ht0, ht⟩ := Wide_some hj
    refine Ev.bind ht (Ev.neg ht0 (Ev.neg (by omega) ?_))
    exact Ev.const (by rw [decide_eq_false (by omega)])
theorem refFits_int {j : Nat} (hj : j ≤ 7) {d : Int} : steepleref17_Fits.f (j : Int) d = some (decide (0 ≤ d ∧ fitsB j d.toNat = true)) := by
  by_cases h0 : 0 ≤ d
  · obtain ⟨n, rfl⟩ := Int.eq_ofNat_of_zero_le h0
    rw [Int.toNat_natCast, refFits_f hj]
    congr 1
    cases hf : fitsB j n with
    | true => exact (decide_eq_true ⟨h0, rfl⟩).symm
    | false => exact (decide_eq_false (fun h => by cases h.2)).symm
  · unfold steepleref17_Fits.f
    rw [Option.bind_some, if_neg (by omega), if_neg (by omega), if_pos (by omega), decide_eq_false (by omega)]
theorem Values_ev {a d : Int} {c : List (T 7)} (hc : c.length < 1000) (hw : (Lit.int .i64 d).wf = true) :
    (valE a d c = 0 → Ev (fun k => line_Values.f k a (c.map elS) d) ((valL c (d.toNat + 1)).map elS, (0 : Int))) ∧ (valE a d c ≠ 0 → Ev (fun k => line_Values.f k a (c.map elS) d) (([] : List S28), valE a d c)) := by
  unfold line_Values.f valE
  by_cases h1 : a < 0 ∨ a > 7
  · rw [if_pos h1]
    refine ⟨fun h => absurd h (by decide), fun _ => ?_⟩
    refine Ev.bind (Wide_none h1) (Ev.pos rfl (Ev.succ ?_))
    simp only [line_Values.j0]
    refine Ev.neg (by decide) ?_
    have : Ev (fun k => line_ask.f k a d (c.map elS)) 1 := by
      unfold line_ask.f
      exact Ev.bind (Wide_none h1) (Ev.pos rfl (Ev.now _))
    exact Ev.bind this (Ev.neg (by decide) (Ev.now _))
  · rw [if_neg h1]
    obtain ⟨j, rfl⟩ := Int.eq_ofNat_of_zero_le (show 0 ≤ a by omega)
    rw [Int.toNat_natCast]
    have hj : j ≤ 7 := by omega
    obtain ⟨t, ht0, ht⟩ := Wide_some hj
    have hdw := i64_wf.1 hw
    have hF := Fits_int hj (d := d) (by omega) hw
    by_cases hf : 0 ≤ d ∧ fitsB j d.toNat = true
    · obtain ⟨n, rfl⟩ := Int.eq_ofNat_of_zero_le hf.1
      rw [Int.toNat_natCast] at hf hF ⊢
      rw [decide_eq_true hf] at hF
      have hf' := hf.2
      unfold fitsB at hf'
      rw [decide_eq_true_eq] at hf'
      have start : ∀ {r : List S28 × Int}, Ev (fun k => ((line_ask.f k (j : Int) (n : Int) (c.map elS)).bind fun t436 => (if t436 = 0 then (line_Values.l0 k (j : Int) (c.map elS) ([] : List S28) (wrap64 ((n : Int) + 1)) 0) else (some (([] : List S28), t436))))) r →
          Ev (fun k => ((octet_Wide.f k (j : Int)).bind fun t434 => (if t434 = 0 then (line_Values.j0 k (j : Int) (c.map elS) (n : Int) false) else ((line_Fits.f k (j : Int) (n : Int)).bind fun t435 => (line_Values.j0 k (j : Int) (c.map elS) (n : Int) (!t435)))))) r := by
        intro r hr
        refine Ev.bind ht (Ev.neg ht0 (Ev.bind hF ?_))
        refine Ev.succ ?_
        simp only [line_Values.j0]
        exact Ev.neg (by decide) hr
      by_cases hl : c.length = 0 ∨ c.length > n + 1
      · rw [if_pos (by omega)]
        refine ⟨fun h => absurd h (by decide), fun _ => start ?_⟩
        have : Ev (fun k => line_ask.f k (j : Int) (n : Int) (c.map elS)) 6 := by
          unfold line_ask.f
          have j0t : Ev (fun k => line_ask.j0 k (j : Int) (c.map elS) true) 6 := by
            refine Ev.succ ?_
            simp only [line_ask.j0]
            exact Ev.pos trivial (Ev.now _)
          refine Ev.bind ht (Ev.neg ht0 ?_)
          rw [List.length_map]
          by_cases h0 : c.length = 0
          · exact Ev.pos (by omega) j0t
          · rw [wrap_succ n (by omega)]
            exact Ev.neg (by omega) (Ev.pos (by omega) j0t)
        exact Ev.bind this (Ev.neg (by decide) (Ev.now _))
      · rw [if_neg (by rintro (h | h | h | h); omega; rw [h] at hf; exact absurd hf.2 (by decide); omega; omega)]
        have hA : Ev (fun k => line_ask.f k (j : Int) (n : Int) (c.map elS)) (if c.all (ofB (j : Int)) = true then 0 else 5) := by
          unfold line_ask.f
          refine Ev.bind ht (Ev.neg ht0 ?_)
          rw [List.length_map, wrap_succ n (by omega)]
          refine Ev.neg (by omega) (Ev.neg (by omega) (Ev.bind hF ?_))
          refine Ev.succ ?_
          simp only [line_ask.j0]
          refine Ev.neg (by decide) (Ev.bind (lineOf_ev _ c) ?_)
          cases hq : c.all (ofB (j : Int)) with
          | true =>
            rw [if_pos (rfl : true = true)]
            exact Ev.const rfl
          | false =>
            rw [if_neg (by decide : ¬ (false = true))]
            exact Ev.const rfl
        cases hq : c.all (ofB (j : Int)) with
        | true =>
          rw [hq] at hA
          rw [if_pos (rfl : true = true)] at hA ⊢
          refine ⟨fun _ => start (Ev.bind hA (Ev.pos rfl ?_)), fun h => absurd rfl h⟩
          rw [wrap_succ n (by omega)]
          have hin : ∀ y ∈ c, InL j y := fun y hy => by
            have := List.all_eq_true.1 hq y hy
            obtain ⟨j', e, _, hi⟩ := ofB_iff.1 this
            obtain rfl : j = j' := by omega
            exact hi
          exact Values_l0 hj (by omega) c hc (fun m hm => by
            show enc 7 (pl m) < _
            rw [enc_pl (Nat.lt_of_le_of_lt (show m ≤ 8 by omega) (by decide))]
            omega) hin (n + 1) 0 (by omega)
        | false =>
          rw [hq] at hA
          rw [if_neg (by decide : ¬ (false = true))] at hA ⊢
          exact ⟨fun h => absurd h (by decide), fun _ => start (Ev.bind hA (Ev.neg (by decide) (Ev.now _)))⟩
    · rw [decide_eq_false hf] at hF
      rw [if_pos (by
        by_cases h0 : d < 0
        · exact .inl h0
        · refine .inr (.inl ?_)
          cases hq : fitsB j d.toNat with
          | true => exact absurd ⟨by omega, hq⟩ hf
          | false => rfl)]
      refine ⟨fun h => absurd h (by decide), fun _ => ?_⟩
      refine Ev.bind ht (Ev.neg ht0 (Ev.bind hF (Ev.succ ?_)))
      simp only [line_Values.j0]
      exact Ev.pos rfl (Ev.now _)
end Go.Proofs.Ythnaalocgoeddaa.Br
