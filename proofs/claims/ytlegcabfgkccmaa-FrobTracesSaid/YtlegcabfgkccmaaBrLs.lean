/- The least polynomial: what frob.Least comes to. Conditions: those that each theorem names. -/
import Derived.Test.YtlegcabfgkccmaaLsM
import Derived.Test.YtlegcabfgkccmaaBrCj
import Derived.Test.YtlegcabfgkccmaaBrList
import Derived.Test.YtlegcabfgkccmaaBrLev
import Derived.Test.YtlegcabfgkccmaaHLeast
import Derived.Test.YtlegcabfgkccmaaPx4
set_option linter.unusedVariables false
set_option linter.unusedSimpArgs false
namespace Go.Proofs.Ytlegcabfgkccmaa.Br
open Go.RowKit Go.Proofs.YtlegcabfgkccmaaT Go.Proofs.Ytlegcabfgkccmaa.P Go.Proofs.YtlegcabfgkccmaaW.PrintWords Go.Proofs.YtlegcabfgkccmaaW.PrintLast Go.Proofs.YtlegcabfgkccmaaW.PrintMore
theorem cjL_T (s : Nat) : ∀ (n : Nat) (x : T 7), cjL s n x = cjT s n x
  | 0, _ => rfl
  | n + 1, x => congrArg (x :: ·) (cjL_T s n (frob s x))
theorem rd_mid (A : List (T 7)) (u : T 7) (Z : List (T 7)) {i : Nat} (h : A.length = i) : rd_T24 ((A ++ u :: Z).map elS) (i : Int) = elS u := by
  subst h
  rw [rd_elS (by rw [List.length_append, List.length_cons]; omega), List.getElem_append_right (Nat.le_refl _)]
  simp
theorem set_mid (A : List (T 7)) (u v : T 7) (Z : List (T 7)) {i : Nat} (h : A.length = i) : ((A ++ u :: Z).map elS).set ((i : Nat) : Int).toNat (elS v) = (A ++ v :: Z).map elS := by
  subst h
  rw [Int.toNat_natCast, ← List.map_set, List.set_append_right _ _ (Nat.le_refl _), Nat.sub_self]
  rfl
theorem elS_mk (v : T 7) : (⟨hiW v, loW v⟩ : S24) = elS v := (rfl)
theorem ls_in_ev {j : Nat} (hj : j ≤ 7) {c : T 7} (hc : InL j c) : ∀ (rest pre A : List (T 7)) (u : T 7), pre.length + rest.length < 1000 → A.length = pre.length → (∀ y ∈ rest, InL j y) →
    Ev (fun k => ls_in k (j : Int) ((A ++ u :: List.replicate rest.length 0).map elS) ((pre ++ rest).map elS) ((pre.length + rest.length : Nat) : Int) ((pre.length : Nat) : Int) (hiW c) (loW c)) ((A ++ ml c u rest).map elS)
  | [], pre, A, u, h, hA, _ => by
    refine Ev.succ ?_
    simp only [ls_in]
    exact Ev.neg (by rw [List.length_nil]; omega) (Ev.now _)
  | y :: l, pre, A, u, h, hA, hl => by
    rw [List.length_cons] at h ⊢
    refine Ev.succ ?_
    simp only [ls_in]
    refine Ev.pos (by omega) (Ev.pos (by omega) (Ev.pos (by rw [List.length_map, List.length_append, List.length_cons]; omega) (Ev.pos (by rw [List.length_map, List.length_append, List.length_cons, List.length_replicate]; omega) ?_)))
    rw [rd_mid pre y l rfl, rd_mid A u (List.replicate (l.length + 1) 0) hA, elS_f0, elS_f1, elS_f0, elS_f1]
    have hy := hl y List.mem_cons_self
    refine Ev.bind (Mul_ev _ c y) ?_
    rw [mulE_in hj hc hy]
    refine Ev.bind (Ev.const (Add_f u (c * y))) (Ev.bind (Ev.now _) ?_)
    rw [elS_mk, set_mid A u (u + c * y) _ hA, wrap_succ pre.length (by omega), List.replicate_succ]
    have e1 : A ++ (u + c * y) :: 0 :: List.replicate l.length 0 = (A ++ [u + c * y]) ++ 0 :: List.replicate l.length 0 := by rw [List.append_assoc, List.singleton_append]
    have hA2 : (A ++ [u + c * y]).length = pre.length + 1 := by rw [List.length_append, hA, List.length_singleton]
    rw [e1]
    refine Ev.pos (by omega) (Ev.pos (by rw [List.length_map, List.length_append, List.length_cons, List.length_cons, List.length_replicate]; omega) ?_)
    rw [rd_mid (A ++ [u + c * y]) 0 (List.replicate l.length 0) hA2, elS_f0, elS_f1]
    refine Ev.bind (Ev.const (Add_f 0 y)) ?_
    rw [zero_add, elS_mk, set_mid (A ++ [u + c * y]) 0 y _ hA2]
    have ih := ls_in_ev hj hc l (pre ++ [y]) (A ++ [u + c * y]) y (by rw [List.length_append, List.length_singleton]; omega) (by rw [hA2, List.length_append, List.length_singleton]) (fun z hz => hl z (List.mem_cons_of_mem _ hz))
    have e2 : (pre ++ [y]).length = pre.length + 1 := by rw [List.length_append, List.length_singleton]
    rw [e2, List.append_assoc pre, List.singleton_append, List.append_assoc A _ (ml c y l), List.singleton_append, show pre.length + 1 + l.length = pre.length + (l.length + 1) by omega] at ih
    exact ih
theorem ls_step {j : Nat} (hj : j ≤ 7) {c : T 7} (hc : InL j c) (p : List (T 7)) (hp : ∀ y ∈ p, InL j y) (hl : p.length < 1000) :
    Ev (fun k => ls_in k (j : Int) (List.replicate ((p.map elS).length + 1) z24) (p.map elS) (((p.map elS).length : Nat) : Int) 0 (hiW c) (loW c)) ((ml c 0 p).map elS) := by
  have h := ls_in_ev hj hc p [] [] 0 (by rw [List.length_nil]; omega) rfl hp
  rw [List.nil_append, List.nil_append, List.nil_append, List.length_nil, Nat.zero_add] at h
  have e : List.replicate ((p.map elS).length + 1) z24 = ((0 : T 7) :: List.replicate p.length 0).map elS := by
    rw [List.length_map, List.replicate_succ, List.map_cons, List.map_replicate]
    have e2 : elS 0 = z24 := by
      show (⟨hiW 0, loW 0⟩ : S24) = z24
      rw [hi_zero, lo_zero]
      rfl
    rw [e2]
  rw [e, List.length_map]
  exact h
theorem ls_all_ev {j : Nat} (hj : j ≤ 7) : ∀ (l p : List (T 7)), (∀ y ∈ l, InL j y) → (∀ y ∈ p, InL j y) → p.length + l.length < 1000 → Ev (fun k => ls_all k (j : Int) (p.map elS) (l.map elP)) ((prodL p l).map elS)
  | [], p, _, _, _ => Ev.now _
  | c :: l, p, hl, hp, hlen => by
    rw [List.length_cons] at hlen
    have hc := hl c List.mem_cons_self
    refine Ev.bind (ls_step hj hc p hp (by omega)) ?_
    exact ls_all_ev hj l (ml c 0 p) (fun y hy => hl y (List.mem_cons_of_mem _ hy)) (ml_in hj hc p 0 inL_zero hp) (by rw [ml_len]; omega)
/-- Not nought. -/
def nzB (y : T 7) : Bool := (!(hiW y == 0) || (!(loW y == 0)))
theorem ls_out_ev (L : List (T 7)) (hL : L.length < 1000) : ∀ d i : Nat, i + d = L.length → Ev (fun k => ls_out k ((L.take i).map nzB) (L.map elS) (((L.map elS).length : Nat) : Int) (i : Int)) (L.map nzB)
  | 0, i, h => by
    refine Ev.succ ?_
    simp only [ls_out]
    refine Ev.neg (by rw [List.length_map]; omega) ?_
    rw [List.take_of_length_le (by omega)]
    exact Ev.now _
  | d + 1, i, h => by
    have hi : i < L.length := by omega
    refine Ev.succ ?_
    simp only [ls_out]
    refine Ev.pos (by rw [List.length_map]; omega) (Ev.pos (by omega) (Ev.pos (by rw [List.length_map]; omega) (Ev.pos (by rw [List.length_map, List.length_take]; omega) ?_)))
    rw [rd_elS hi, wrap_succ i (by omega), elS_f0, elS_f1]
    have e : (L.take i).map nzB ++ [(!(hiW L[i] == 0) || (!(loW L[i] == 0)))] = (L.take (i + 1)).map nzB := by
      rw [List.take_succ_eq_append_getElem hi, List.map_append]
      rfl
    rw [e]
    exact ls_out_ev L hL d (i + 1) (by omega)
/-- The least polynomial's coefficients. -/
def lsP (x : T 7) : List (T 7) := prodL [1] (cjT 1 (2 ^ lvE x) x)
theorem lsP_len (x : T 7) : (lsP x).length = 2 ^ lvE x + 1 := by
  unfold lsP
  rw [prodL_len, cjT_len, List.length_singleton, Nat.add_comm]
theorem two_le (x : T 7) : 2 ^ lvE x ≤ 128 := Nat.pow_le_pow_right (by decide) (show lvE x ≤ 7 from lvE_le x)
theorem Least_ev {j : Nat} (hj : j ≤ 7) {x : T 7} (hx : InL j x) : Ev (fun k => frob_Least.f k (j : Int) (hiW x) (loW x)) ((lsP x).map nzB) := by
  unfold frob_Least.f frob_ls
  refine Ev.bind (Of_ev _ x) (Ev.pos (ofB_nat hj hx) (Ev.bind (Ev.const One_f) (Ev.bind (Level_ev x) ?_)))
  have hn := lvE_le x
  refine Ev.pos (by omega) ?_
  rw [Int.toNat_natCast]
  refine Ev.bind (cj_ev hn 1 (2 ^ lvE x) x (lvE_in x)) ?_
  rw [cjL_T]
  have h2 := two_le x
  have hj2 : lvE x ≤ j := lvE_of hx
  have hin : ∀ y ∈ cjT 1 (2 ^ lvE x) x, InL j y := by
    rw [← cjL_T]
    exact cjL_in hj 1 _ x hx
  have e1 : [(⟨hiW (1 : T 7), loW 1⟩ : S24)] = [(1 : T 7)].map elS := rfl
  rw [e1]
  refine Ev.bind (ls_all_ev hj (cjT 1 (2 ^ lvE x) x) [1] hin (fun y hy => ?_) (by rw [cjT_len, List.length_singleton]; omega)) ?_
  · rcases List.mem_cons.1 hy with h | h
    · rw [h]; exact inL_one
    · cases h
  · have hlen := lsP_len x
    exact ls_out_ev (lsP x) (by omega) (lsP x).length 0 (by omega)
theorem Least_bad {a : Int} {x : T 7} (h : ofB a x = false) : Ev (fun k => frob_Least.f k a (hiW x) (loW x)) ([] : List Bool) := by
  unfold frob_Least.f frob_ls
  refine Ev.bind (Of_ev _ x) (Ev.neg (by rw [h]; decide) (Ev.now _))
end Go.Proofs.Ytlegcabfgkccmaa.Br
