/- The sum and the product of all conjugates: what frob.Trace and frob.Norm come to. Conditions: those that each theorem names. -/
import Derived.Test.YtlegcabfgkccmaaFrM
import Derived.Test.YtlegcabfgkccmaaBrSq
import Derived.Test.YtlegcabfgkccmaaHTrace
import Derived.Test.YtlegcabfgkccmaaHNorm
import Derived.Test.YtlegcabfgkccmaaPx3
set_option linter.unusedVariables false
set_option linter.unusedSimpArgs false
namespace Go.Proofs.Ytlegcabfgkccmaa.Br
open Go.RowKit Go.Proofs.YtlegcabfgkccmaaT Go.Proofs.Ytlegcabfgkccmaa.P Go.Proofs.YtlegcabfgkccmaaW.PrintWords Go.Proofs.YtlegcabfgkccmaaW.PrintLast Go.Proofs.YtlegcabfgkccmaaW.PrintMore
def elP (x : T 7) : Int × Int := (hiW x, loW x)
/-- The pair of words stays shut. -/
theorem elP_def (x : T 7) : elP x = (hiW x, loW x) := rfl
theorem sqs_ev {j : Nat} (hj : j ≤ 7) (n : Nat) : ∀ x : T 7, InL j x → Ev (fun k => sqs (tower_Square.f k) (j : Int) n (elP x)) (elP (frob n x)) := by
  induction n with
  | zero =>
    intro x _
    have e : frob 0 x = x := rfl
    rw [e]
    unfold sqs
    exact Ev.now _
  | succ n ih =>
    intro x hx
    unfold sqs
    refine Ev.bind (Square_ev _ x) ?_
    rw [sqE_in hj hx]
    exact ih (x * x) (inL_mul hj hx hx)
/-- The conjugates, s squarings apart. -/
def cjL (s : Nat) : Nat → T 7 → List (T 7)
  | 0, _ => []
  | n + 1, x => x :: cjL s n (frob s x)
theorem cjL_in {j : Nat} (hj : j ≤ 7) (s : Nat) (n : Nat) : ∀ x : T 7, InL j x → ∀ y ∈ cjL s n x, InL j y := by
  induction n with
  | zero => intro x _ y h; cases h
  | succ n ih =>
    intro x hx y h
    rcases List.mem_cons.1 h with h | h
    · rw [h]
      exact hx
    · exact ih _ (inL_frob hj s hx) y h
theorem cj_ev {j : Nat} (hj : j ≤ 7) (s : Nat) (n : Nat) : ∀ x : T 7, InL j x → Ev (fun k => cj (tower_Square.f k) (j : Int) s n (elP x)) ((cjL s n x).map elP) := by
  induction n with
  | zero =>
    intro x _
    unfold cj
    exact Ev.now _
  | succ n ih =>
    intro x hx
    unfold cj
    refine Ev.bind (sqs_ev hj s x hx) ?_
    exact Ev.bind (ih (frob s x) (inL_frob hj s hx)) (Ev.now _)
theorem gfold_left (o : Op2 7) (s n : Nat) (p x : T 7) : o.op (o.op p x) (gfold o s n (frob s x)) = o.op p (gfold o s (n + 1) x) := by
  rw [Nat.add_comm n 1, gfold_add, o.assoc, gfold_frob, Nat.one_mul]
  show o.op p (o.op x _) = o.op p (o.op (o.op o.e (frob (0 * s) x)) _)
  rw [o.unit, Nat.zero_mul]
  rfl
theorem fold_cjL (o : Op2 7) (s : Nat) (n : Nat) : ∀ p x : T 7, (cjL s n x).foldl o.op p = o.op p (gfold o s n x) := by
  induction n with
  | zero => intro p x; exact (o.unit' p).symm
  | succ n ih =>
    intro p x
    show (cjL s n (frob s x)).foldl o.op (o.op p x) = _
    rw [ih, gfold_left]
theorem addl_f (L : List (T 7)) : ∀ p : T 7, addl (elP p) (L.map elP) = some (elP (L.foldl (addOp 7).op p)) := by
  induction L with
  | nil => intro p; rfl
  | cons x L ih =>
    intro p
    show ((tower_Add.f (hiW p) (loW p) (hiW x) (loW x)).bind fun o => addl o (L.map elP)) = _
    rw [Add_f, Option.bind_some]
    exact ih (p + x)
theorem mull_ev {j : Nat} (hj : j ≤ 7) (L : List (T 7)) : ∀ p : T 7, InL j p → (∀ y ∈ L, InL j y) → Ev (fun k => mull k (j : Int) (elP p) (L.map elP)) (elP (L.foldl (mulOp 7).op p)) := by
  induction L with
  | nil =>
    intro p _ _
    show Ev (fun k => mull k _ _ []) _
    unfold mull
    exact Ev.now _
  | cons x L ih =>
    intro p hp hL
    have hx := hL x List.mem_cons_self
    show Ev (fun k => mull k _ _ (elP x :: L.map elP)) _
    unfold mull
    refine Ev.bind (Mul_ev _ p x) ?_
    have e : (mulOp 7).op p x = p * x := rfl
    rw [mulE_in hj hp hx, List.foldl_cons, e]
    exact ih (p * x) (inL_mul hj hp hx) (fun y hy => hL y (List.mem_cons_of_mem _ hy))
/-- Are there such levels, and such an element? -/
def fitE (a b : Int) (x : T 7) : Bool := ofB a x && decide (0 ≤ b ∧ b ≤ a)
theorem fits_ev (a b : Int) (x : T 7) : Ev (fun k => frob_fits.f k a b (hiW x) (loW x)) (fitE a b x) := by
  unfold frob_fits.f fitE
  refine Ev.bind (Of_ev a x) ?_
  cases ofB a x with
  | true =>
    refine Ev.pos rfl ?_
    by_cases h : b ≥ 0
    · refine Ev.pos h ?_
      rw [Bool.true_and, show decide (0 ≤ b ∧ b ≤ a) = decide (b ≤ a) from by
        by_cases h2 : b ≤ a
        · rw [decide_eq_true h2, decide_eq_true ⟨h, h2⟩]
        · rw [decide_eq_false h2, decide_eq_false (fun h3 => h2 h3.2)]]
      exact Ev.now _
    · refine Ev.neg h ?_
      rw [Bool.true_and, decide_eq_false (fun h3 => h h3.1)]
      exact Ev.now _
  | false =>
    refine Ev.neg (by decide) ?_
    rw [Bool.false_and]
    exact Ev.now _
theorem fitE_iff {a b : Int} {x : T 7} : fitE a b x = true ↔ ∃ k j : Nat, a = (k : Int) ∧ b = (j : Int) ∧ j ≤ k ∧ k ≤ 7 ∧ InL k x := by
  unfold fitE
  rw [Bool.and_eq_true, decide_eq_true_eq]
  constructor
  · rintro ⟨h, h0, h1⟩
    obtain ⟨k, rfl, hk, hx⟩ := ofB_iff.1 h
    obtain ⟨j, rfl⟩ := Int.eq_ofNat_of_zero_le h0
    exact ⟨k, j, rfl, rfl, by omega, hk, hx⟩
  · rintro ⟨k, j, rfl, rfl, hj, hk, hx⟩
    exact ⟨ofB_nat hk hx, by omega, by omega⟩
theorem Trace_ev {j k : Nat} (hj : j ≤ k) (hk : k ≤ 7) {x : T 7} (hx : InL k x) : Ev (fun n => frob_Trace.f n (k : Int) (j : Int) (hiW x) (loW x)) (elP (conjE (addOp 7) k j x)) := by
  unfold frob_Trace.f frob_tr
  refine Ev.bind (fits_ev _ _ x) ?_
  refine Ev.pos (fitE_iff.2 ⟨k, j, rfl, rfl, hj, hk, hx⟩) (Ev.pos (by omega) ?_)
  rw [show ((k : Int) - (j : Int)) = ((k - j : Nat) : Int) by omega, Int.toNat_natCast, Int.toNat_natCast]
  refine Ev.bind (cj_ev hk (2 ^ j) (2 ^ (k - j)) x hx) (Ev.const ?_)
  have := addl_f (cjL (2 ^ j) (2 ^ (k - j)) x) 0
  rw [fold_cjL] at this
  unfold elP at this
  rw [hi_zero, lo_zero] at this
  refine this.trans ?_
  show some (elP ((0 : T 7) + _)) = _
  rw [zero_add]
  rfl
theorem Norm_ev {j k : Nat} (hj : j ≤ k) (hk : k ≤ 7) {x : T 7} (hx : InL k x) : Ev (fun n => frob_Norm.f n (k : Int) (j : Int) (hiW x) (loW x)) (elP (conjE (mulOp 7) k j x)) := by
  unfold frob_Norm.f frob_nm
  refine Ev.bind (fits_ev _ _ x) ?_
  refine Ev.pos (fitE_iff.2 ⟨k, j, rfl, rfl, hj, hk, hx⟩) (Ev.pos (by omega) ?_)
  rw [show ((k : Int) - (j : Int)) = ((k - j : Nat) : Int) by omega, Int.toNat_natCast, Int.toNat_natCast]
  refine Ev.bind (cj_ev hk (2 ^ j) (2 ^ (k - j)) x hx) (Ev.bind (Ev.const One_f) ?_)
  have := mull_ev hk (cjL (2 ^ j) (2 ^ (k - j)) x) 1 inL_one (cjL_in hk _ _ x hx)
  rw [fold_cjL] at this
  have e : (mulOp 7).op 1 (gfold (mulOp 7) (2 ^ j) (2 ^ (k - j)) x) = conjE (mulOp 7) k j x := one_mul _
  rw [e] at this
  exact this
theorem Trace_bad {a b : Int} {x : T 7} (h : fitE a b x = false) : Ev (fun n => frob_Trace.f n a b (hiW x) (loW x)) ((0 : Int), (0 : Int)) := by
  unfold frob_Trace.f frob_tr
  refine Ev.bind (fits_ev _ _ x) (Ev.neg (by rw [h]; decide) (Ev.now _))
theorem Norm_bad {a b : Int} {x : T 7} (h : fitE a b x = false) : Ev (fun n => frob_Norm.f n a b (hiW x) (loW x)) ((0 : Int), (0 : Int)) := by
  unfold frob_Norm.f frob_nm
  refine Ev.bind (fits_ev _ _ x) (Ev.neg (by rw [h]; decide) (Ev.now _))
end Go.Proofs.Ytlegcabfgkccmaa.Br
