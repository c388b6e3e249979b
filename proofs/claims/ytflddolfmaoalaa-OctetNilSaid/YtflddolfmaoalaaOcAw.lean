/- The page's examples of layer 1, and short lists of short texts. Conditions: those that each theorem names. -/
import Derived.Test.YtflddolfmaoalaaOcB
import Derived.Test.YtflddolfmaoalaaPx3
import Derived.Test.YtflddolfmaoalaaPx4
set_option linter.unusedVariables false
set_option linter.unusedSimpArgs false
namespace Go.Proofs.Ytflddolfmaoalaa.Br
open Go.RowKit Go.Proofs.YtflddolfmaoalaaT Go.Proofs.Ytflddolfmaoalaa.P Go.Proofs.YtflddolfmaoalaaW.PrintWords Go.Proofs.YtflddolfmaoalaaW.PrintLast
theorem awake_ev : Ev (fun k => steeplelaw01_awake.f k) true := by
  unfold steeplelaw01_awake.f
  have h1 : octet_Elem.f 5 4 0 258 = some (strOfNums [2, 1]) := by decide +kernel
  have h2 : octet_Elem.f 5 3 0 258 = some (⟨#[]⟩ : ByteArray) := by decide +kernel
  have h3 : octet_Reader_Num.f ⟨#[0, 0, 0, 7]⟩ 0 9 = some (7, ⟨#[]⟩, 0) := by decide +kernel
  refine Ev.bind (Ev.const (Num_f 258)) (Ev.pos (by rw [ByteArray.toList_eq]; decide +kernel) (Ev.bind (Ev.const (Text_f (by decide))) (Ev.pos (by rw [ByteArray.toList_eq]; decide +kernel) (Ev.bind (Ev.of (octet_Elem.mono _ _ _) h1) (Ev.pos (by rw [ByteArray.toList_eq]; decide +kernel) (Ev.bind (Ev.of (octet_Elem.mono _ _ _) h2) (Ev.pos (by rw [ByteArray.toList_eq]) (Ev.bind (Ev.now _) (Ev.bind (Ev.const h3) ?_)))))))))
  exact Ev.const (by decide)
/-- No more than m texts, of no more than n bytes each? -/
def fewB (L : List ByteArray) (m n : Nat) : Bool := decide (L.length ≤ m) && L.all (fun t => decide (t.size ≤ n))
theorem Few_l0 (L : List ByteArray) (hL : L.length < 2 ^ 60) (n : Nat) : ∀ d i : Nat, i + d = L.length → Ev (fun k => steeplelaw01_Few.l0 k L (n : Int) (i : Int)) ((L.drop i).all (fun t => decide (t.size ≤ n)))
  | 0, i, h => by
    refine Ev.succ ?_
    simp only [steeplelaw01_Few.l0]
    refine Ev.neg (by omega) ?_
    rw [List.drop_of_length_le (by omega)]
    exact Ev.now _
  | d + 1, i, h => by
    have hi : i < L.length := by omega
    refine Ev.succ ?_
    simp only [steeplelaw01_Few.l0]
    refine Ev.pos (by omega) (Ev.pos (by omega) ?_)
    rw [rdOf_at hi, List.drop_eq_getElem_cons hi, List.all_cons]
    by_cases e : L[i].size ≤ n
    · rw [decide_eq_true e, Bool.true_and, wrap_succ i (by omega)]
      exact Ev.neg (by omega) (Few_l0 L hL n d (i + 1) (by omega))
    · rw [decide_eq_false e, Bool.false_and]
      exact Ev.pos (by omega) (Ev.now _)
theorem Few_ev (L : List ByteArray) (hL : L.length < 2 ^ 60) (m n : Nat) : Ev (fun k => steeplelaw01_Few.f k L (m : Int) (n : Int)) (fewB L m n) := by
  unfold steeplelaw01_Few.f fewB
  by_cases h : L.length ≤ m
  · rw [decide_eq_true h, Bool.true_and]
    exact Ev.neg (by omega) (Few_l0 L hL n L.length 0 (by omega))
  · rw [decide_eq_false h, Bool.false_and]
    exact Ev.pos (by omega) (Ev.now _)
theorem fewB_iff {L : List ByteArray} {m n : Nat} (h : fewB L m n = true) : L.length ≤ m ∧ ∀ t ∈ L, t.size ≤ n := by
  unfold fewB at h
  rw [Bool.and_eq_true, decide_eq_true_eq, List.all_eq_true] at h
  exact ⟨h.1, fun t ht => of_decide_eq_true (h.2 t ht)⟩
theorem few_size {L : List ByteArray} (h : fewB L 20 300 = true) : (listB L).size ≤ 140737488355328 := by
  obtain ⟨h1, h2⟩ := fewB_iff h
  have h3 := lstB_few L (numB (L.length : Int)) h2
  have h4 := numB_le (L.length : Int)
  have h5 : L.length * (300 + 4) ≤ 20 * (300 + 4) := Nat.mul_le_mul_right _ h1
  unfold listB
  omega
end Go.Proofs.Ytflddolfmaoalaa.Br
