/- Short lists of short texts (layer 12). Conditions: those that each theorem names. -/
import Derived.Test.YtmibjgjgfombaaaBrBits
import Derived.Test.YtmibjgjgfombaaaPx1
set_option linter.unusedVariables false
set_option linter.unusedSimpArgs false
namespace Go.Proofs.Ytmibjgjgfombaaa.Br
open Go.RowKit Go.Proofs.YtmibjgjgfombaaaT Go.Proofs.Ytmibjgjgfombaaa.P Go.Proofs.YtmibjgjgfombaaaW.PrintWords Go.Proofs.YtmibjgjgfombaaaW.PrintLast
theorem rdOf_at {L : List ByteArray} {i : Nat} (h : i < L.length) : rdOf ByteArray.empty L (i : Int) = L[i] := by
  unfold rdOf
  rw [Int.toNat_natCast, List.getD_eq_getElem?_getD, List.getElem?_eq_getElem h, Option.getD_some]
/-- No more than m texts, of no more than n bytes each? -/
def fewB (L : List ByteArray) (m n : Nat) : Bool := decide (L.length ≤ m) && L.all (fun t => decide (t.size ≤ n))
theorem Few_l0 (L : List ByteArray) (hL : L.length < 2 ^ 60) (n : Nat) : ∀ d i : Nat, i + d = L.length → Ev (fun k => steeplelaw01_Few.l0 k L (n : Int) (i : Int)) ((L.drop i).all (fun t => decide (t.size ≤ n)))
  | 0, i, h => by
    refine Ev.succ ?_
    simp only [steeplelaw01_Few.l0]
    refine Ev.neg (by omega) ?_
    rw [List.drop_of_length_le (by omega)]
    exact Ev.now _
  | d + 1, i, h => by
    have hi : i < L.length := by omega
    refine Ev.succ ?_
    simp only [steeplelaw01_Few.l0]
    refine Ev.pos (by omega) (Ev.pos (by omega) ?_)
    rw [rdOf_at hi, List.drop_eq_getElem_cons hi, List.all_cons]
    by_cases e : L[i].size ≤ n
    · rw [decide_eq_true e, Bool.true_and, wrap_succ i (by omega)]
      exact Ev.neg (by omega) (Few_l0 L hL n d (i + 1) (by omega))
    · rw [decide_eq_false e, Bool.false_and]
      exact Ev.pos (by omega) (Ev.now _)
theorem Few_ev (L : List ByteArray) (hL : L.length < 2 ^ 60) (m n : Nat) : Ev (fun k => steeplelaw01_Few.f k L (m : Int) (n : Int)) (fewB L m n) := by
  unfold steeplelaw01_Few.f fewB
  by_cases h : L.length ≤ m
  · rw [decide_eq_true h, Bool.true_and]
    exact Ev.neg (by omega) (Few_l0 L hL n L.length 0 (by omega))
  · rw [decide_eq_false h, Bool.false_and]
    exact Ev.pos (by omega) (Ev.now _)
theorem fewB_iff {L : List ByteArray} {m n : Nat} (h : fewB L m n = true) : L.length ≤ m ∧ ∀ t ∈ L, t.size ≤ n := by
  unfold fewB at h
  rw [Bool.and_eq_true, decide_eq_true_eq, List.all_eq_true] at h
  exact ⟨h.1, fun t ht => of_decide_eq_true (h.2 t ht)⟩
end Go.Proofs.Ytmibjgjgfombaaa.Br
