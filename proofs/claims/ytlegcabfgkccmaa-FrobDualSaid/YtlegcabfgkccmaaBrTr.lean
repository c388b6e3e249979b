/- Traces as the reference has them, and that the trace over level 0 is the sum of all conjugates. Conditions: those that each theorem names. -/
import Derived.Test.YtlegcabfgkccmaaLsM
import Derived.Test.YtlegcabfgkccmaaBrCj
import Derived.Test.YtlegcabfgkccmaaBrList
import Derived.Test.YtlegcabfgkccmaaBrRefMul
import Derived.Test.YtlegcabfgkccmaaFrH
import Derived.Test.YtlegcabfgkccmaaPx7
import Derived.Test.YtlegcabfgkccmaaPx8
set_option linter.unusedVariables false
set_option linter.unusedSimpArgs false
namespace Go.Proofs.Ytlegcabfgkccmaa.Br
open Go.RowKit Go.Proofs.YtlegcabfgkccmaaT Go.Proofs.Ytlegcabfgkccmaa.P Go.Proofs.YtlegcabfgkccmaaW.PrintWords Go.Proofs.YtlegcabfgkccmaaW.PrintLast Go.Proofs.YtlegcabfgkccmaaW.PrintMore
theorem shl1_8 : ∀ k : Nat, k < 8 → shl .i64 1 (k : Int) = ((2 ^ k : Nat) : Int) := by decide
theorem pow_le7 {j : Nat} (hj : j ≤ 7) : 2 ^ j ≤ 128 := Nat.pow_le_pow_right (by decide) (show j ≤ 7 from hj)
theorem refPower_l0 {n : Nat} (hn : n ≤ 128) (d : Nat) : ∀ i : Nat, i + d = n → ∀ x : T 7, Ev (fun k => steepleref33_Power.l0 k (n : Int) (i : Int) (hiW x) (loW x)) (hiW (frob d x), loW (frob d x)) := by
  induction d with
  | zero =>
    intro i h x
    have e : frob 0 x = x := rfl
    rw [e]
    refine Ev.succ ?_
    simp only [steepleref33_Power.l0]
    exact Ev.neg (by omega) (Ev.now _)
  | succ d ih =>
    intro i h x
    have e : frob (d + 1) x = frob d (x * x) := rfl
    rw [e]
    refine Ev.succ ?_
    simp only [steepleref33_Power.l0]
    refine Ev.pos (by omega) (Ev.bind (Product_ev x x) ?_)
    rw [wrap_succ i (by omega)]
    exact ih (i + 1) (by omega) (x * x)
theorem refPower_ev {n : Nat} (hn : n ≤ 128) (x : T 7) : Ev (fun k => steepleref33_Power.f k (hiW x) (loW x) (n : Int)) (hiW (frob n x), loW (frob n x)) := by
  unfold steepleref33_Power.f
  exact refPower_l0 hn n 0 (by omega) x
theorem two_all : ∀ j : Nat, j < 8 → steepleref15_Two.f 10 (j : Int) = some ((2 ^ j : Nat) : Int) := by decide +kernel
theorem Two_ev {j : Nat} (hj : j ≤ 7) : Ev (fun k => steepleref15_Two.f k (j : Int)) ((2 ^ j : Nat) : Int) := Ev.of (fun k => steepleref15_Two.mono _ k) (k := 10) (two_all j (by omega))
theorem cjL_T (s : Nat) : ∀ (n : Nat) (x : T 7), cjL s n x = cjT s n x
  | 0, _ => rfl
  | n + 1, x => congrArg (x :: ·) (cjL_T s n (frob s x))
def elR (x : T 7) : S37 := ⟨hiW x, loW x⟩
theorem elR_f0 (x : T 7) : (elR x).f0 = hiW x := (rfl)
theorem elR_f1 (x : T 7) : (elR x).f1 = loW x := (rfl)
theorem elR_mk (v : T 7) : (⟨hiW v, loW v⟩ : S37) = elR v := (rfl)
theorem rd_elR {m : List (T 7)} {i : Nat} (h : i < m.length) : rd_T37 (m.map elR) (i : Int) = elR m[i] := by
  unfold rd_T37
  rw [Int.toNat_natCast, List.getD_eq_getElem?_getD, List.getElem?_map, List.getElem?_eq_getElem h]
  rfl
theorem rdR_mid (A : List (T 7)) (u : T 7) (Z : List (T 7)) {i : Nat} (h : A.length = i) : rd_T37 ((A ++ u :: Z).map elR) (i : Int) = elR u := by
  subst h
  rw [rd_elR (by rw [List.length_append, List.length_cons]; omega), List.getElem_append_right (Nat.le_refl _)]
  simp
theorem refConj_l0 {j t : Nat} (ht : t ≤ j) (hj : j ≤ 7) (d : Nat) : ∀ (i : Nat) (acc : List (T 7)) (y : T 7), i + d = 2 ^ (j - t) → acc.length = i → Ev (fun k => steepleref33_Conjugates.l0 k (j : Int) (t : Int) (acc.map elR) (i : Int) (hiW y) (loW y)) ((acc ++ cjT (2 ^ t) d y).map elR) := by
  have h7 := pow_le7 (show t ≤ 7 by omega)
  have h8 := pow_le7 (show j - t ≤ 7 by omega)
  induction d with
  | zero =>
    intro i acc y h hl
    refine Ev.succ ?_
    simp only [steepleref33_Conjugates.l0]
    rw [show wrap64 ((j : Int) - (t : Int)) = ((j - t : Nat) : Int) by unfold wrap64; omega]
    refine Ev.bind (Two_ev (show j - t ≤ 7 by omega)) (Ev.neg (by omega) ?_)
    show Ev _ ((acc ++ []).map elR)
    rw [List.append_nil]
    exact Ev.now _
  | succ d ih =>
    intro i acc y h hl
    refine Ev.succ ?_
    simp only [steepleref33_Conjugates.l0]
    rw [show wrap64 ((j : Int) - (t : Int)) = ((j - t : Nat) : Int) by unfold wrap64; omega]
    refine Ev.bind (Two_ev (show j - t ≤ 7 by omega)) (Ev.pos (by omega) (Ev.pos (by rw [List.length_map]; omega) (Ev.bind (Two_ev (show t ≤ 7 by omega)) (Ev.bind (refPower_ev h7 y) ?_))))
    have e : acc.map elR ++ [(⟨hiW y, loW y⟩ : S37)] = (acc ++ [y]).map elR := by
      rw [List.map_append]
      rfl
    rw [e, wrap_succ i (by omega)]
    have := ih (i + 1) (acc ++ [y]) (frob (2 ^ t) y) (by omega) (by rw [List.length_append, List.length_singleton, hl])
    rw [List.append_assoc, List.singleton_append] at this
    exact this
theorem refConj_ev {j t : Nat} (ht : t ≤ j) (hj : j ≤ 7) (x : T 7) : Ev (fun k => steepleref33_Conjugates.f k (j : Int) (t : Int) (hiW x) (loW x)) ((cjT (2 ^ t) (2 ^ (j - t)) x).map elR) := by
  unfold steepleref33_Conjugates.f
  exact refConj_l0 ht hj (2 ^ (j - t)) 0 [] x (by omega) rfl
theorem refTr_l0 (L : List (T 7)) (hL : L.length < 1000) : ∀ (d i : Nat) (p : T 7), i + d = L.length → Ev (fun k => steepleref33_Trace.l0 k (L.map elR) (i : Int) (hiW p) (loW p)) (elP ((L.drop i).foldl (addOp 7).op p))
  | 0, i, p, h => by
    refine Ev.succ ?_
    simp only [steepleref33_Trace.l0]
    refine Ev.neg (by rw [List.length_map]; omega) ?_
    rw [List.drop_of_length_le (by omega), List.foldl_nil, elP_def]
    exact Ev.now _
  | d + 1, i, p, h => by
    have hi : i < L.length := by omega
    refine Ev.succ ?_
    simp only [steepleref33_Trace.l0]
    refine Ev.pos (by rw [List.length_map]; omega) (Ev.pos (by omega) ?_)
    rw [rd_elR hi, elR_f0, elR_f1, wrap_succ i (by omega), List.drop_eq_getElem_cons hi, List.foldl_cons]
    refine Ev.bind (Ev.const (refAdd_f p L[i])) ?_
    exact refTr_l0 L hL d (i + 1) (p + L[i]) (by omega)
theorem short {j k : Nat} (hj : j ≤ k) (hk : k ≤ 7) (x : T 7) : (cjT (2 ^ j) (2 ^ (k - j)) x).length ≤ 128 := by
  rw [cjT_len]
  exact pow_le7 (by omega)
theorem refTrace_ev {j k : Nat} (hj : j ≤ k) (hk : k ≤ 7) (x : T 7) : Ev (fun n => steepleref33_Trace.f n (k : Int) (j : Int) (hiW x) (loW x)) (elP (conjE (addOp 7) k j x)) := by
  unfold steepleref33_Trace.f
  refine Ev.bind (refConj_ev hj hk x) ?_
  have h := refTr_l0 (cjT (2 ^ j) (2 ^ (k - j)) x) (by have := short hj hk x; omega) _ 0 0 (Nat.zero_add _)
  rw [List.drop_zero, ← cjL_T, fold_cjL, hi_zero, lo_zero] at h
  have e : (addOp 7).op 0 (gfold (addOp 7) (2 ^ j) (2 ^ (k - j)) x) = conjE (addOp 7) k j x := zero_add _
  rw [e, cjL_T] at h
  exact h
/-! The trace over level 0. -/
theorem gfold_fsum (x : T 7) : ∀ n : Nat, gfold (addOp 7) 1 n x = fsum n x
  | 0 => rfl
  | n + 1 => by
    show gfold (addOp 7) 1 n x + frob (n * 1) x = fsum n x + frob n x
    rw [gfold_fsum x n, Nat.mul_one]
theorem emb_fsum {k : Nat} (hk : k ≤ 7) (b : T k) : ∀ n : Nat, emb 7 k (fsum n b) = fsum n (emb 7 k b)
  | 0 => emb_zero 7 k
  | n + 1 => by
    show emb 7 k (fsum n b + frob n b) = fsum n (emb 7 k b) + frob n (emb 7 k b)
    rw [emb_add, emb_fsum hk b n, emb_frob hk]
theorem conj_tr {k : Nat} (hk : k ≤ 7) (b : T k) : conjE (addOp 7) k 0 (emb 7 k b) = bit (tr k b) := by
  have e : conjE (addOp 7) k 0 (emb 7 k b) = gfold (addOp 7) 1 (2 ^ k) (emb 7 k b) := rfl
  rw [e, gfold_fsum, ← emb_fsum hk, fsum_full]
  cases tr k b with
  | true => exact emb_one 7 k
  | false => exact emb_zero 7 k
end Go.Proofs.Ytlegcabfgkccmaa.Br
