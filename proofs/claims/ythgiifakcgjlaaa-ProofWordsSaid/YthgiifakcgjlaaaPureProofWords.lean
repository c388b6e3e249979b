/- The pure statement of the law ProofWords: its printed function answers true. Conditions: none but the arguments' kinds. -/
import Derived.Test.YthgiifakcgjlaaaPwW
import Derived.Test.YthgiifakcgjlaaaPx11
set_option linter.unusedVariables false
namespace Go.Proofs.Ythgiifakcgjlaaa.Pure
open Go.RowKit Go.Proofs.YthgiifakcgjlaaaT Go.Proofs.Ythgiifakcgjlaaa.P Go.Proofs.Ythgiifakcgjlaaa.Br Go.Proofs.YthgiifakcgjlaaaW.PrintWords Go.Proofs.YthgiifakcgjlaaaW.PrintLast
theorem ProofWords_end (L : List (List Int)) (t : ByteArray) (hL : L.length ≤ 20) (h : ∀ l ∈ L, l.length ≤ 20 ∧ ∀ a ∈ l, isW a) (ht : t.size ≤ 2000) : Ev (fun k => steeplelaw29_ProofWords.l0 k L t (L.length : Int)) true := by
  have hc : ∀ l ∈ L, isC l := fun l hl => ⟨by have := (h l hl).1; omega, (h l hl).2⟩
  have h4 : ∀ l ∈ L, l.length ≤ 4096 := fun l hl => (hc l hl).1
  have hz := wordsB_size (L := L) (m := 20) (fun l hl => (h l hl).1)
  have hm : L.length * (4 + 20 * 8) ≤ 20 * (4 + 20 * 8) := Nat.mul_le_mul_right _ hL
  obtain ⟨Y, e, hY, hs⟩ := ReadWords_snd t (by omega)
  refine Ev.succ ?_
  simp only [steeplelaw29_ProofWords.l0]
  refine Ev.neg (by omega) (Ev.bind (Ev.const (Words_f (by omega) h4)) (Ev.bind (ReadWords_cmp (by omega) hc (by omega)) (Ev.pos rfl (Ev.pos rfl (Ev.bind (refWords_ev (by omega) hc) (Ev.pos rfl (Ev.bind (columns_ev (L := L) (by omega) h4) (Ev.pos rfl (Ev.bind hY ?_)))))))))
  rcases hs with ⟨rfl, hY1, hY2, hY3⟩ | ⟨rfl, rfl⟩
  · refine Ev.pos rfl (Ev.bind awake_ev (Ev.pos rfl (Ev.bind (refWords_ev hY1 hY2) ?_)))
    rw [← hY3]
    have e : (t.toList == t.toList) = true := by simp
    exact Ev.const (by rw [e])
  · exact Ev.neg (by decide) (Ev.bind awake_ev (Ev.pos rfl (Ev.pos rfl (Ev.now _))))
theorem ProofWords_l0 (L : List (List Int)) (t : ByteArray) (hL : L.length ≤ 20) (h : ∀ l ∈ L, ∀ a ∈ l, isW a) (hbig : ∀ l ∈ L, l.length < 2 ^ 60) (ht : t.size ≤ 2000) :
    ∀ d j : Nat, j + d = L.length → (∀ i, (q : i < L.length) → i < j → L[i].length ≤ 20) → Ev (fun k => steeplelaw29_ProofWords.l0 k L t (j : Int)) true
  | 0, j, hj, hs => by
    obtain rfl : j = L.length := by omega
    refine ProofWords_end L t hL (fun l hl => ⟨?_, h l hl⟩) ht
    obtain ⟨i, hi, rfl⟩ := List.mem_iff_getElem.1 hl
    exact hs i hi hi
  | d + 1, j, hj, hs => by
    have hjl : j < L.length := by omega
    refine Ev.succ ?_
    simp only [steeplelaw29_ProofWords.l0]
    rw [rdC hjl, wrapS j (by omega)]
    refine Ev.pos (by omega) (Ev.pos (by omega) ?_)
    by_cases c : (L[j].length : Int) > 20
    · exact Ev.pos c (Ev.bind awake_ev (Ev.now _))
    · refine Ev.neg c (ProofWords_l0 L t hL h hbig ht d (j + 1) (by omega) (fun i q hi => ?_))
      by_cases e : i = j
      · subst e
        omega
      · exact hs i q (by omega)
theorem ProofWords : steeplelaw29_ProofWords.Pure := by
  intro L t hL ht
  refine Ev.rounds (g := fun k => steeplelaw29_ProofWords.f k L t) ?_
  have far : Ev (fun k => steeplelaw29_ProofWords.j0 k L t true) true := by
    refine Ev.succ ?_
    simp only [steeplelaw29_ProofWords.j0]
    exact Ev.pos (by trivial) (Ev.bind awake_ev (Ev.now _))
  unfold steeplelaw29_ProofWords.f
  by_cases c : (L.length : Int) > 20
  · exact Ev.pos c far
  refine Ev.neg c ?_
  by_cases c2 : (t.size : Int) > 2000
  · rw [decide_eq_true c2]
    exact far
  rw [decide_eq_false c2]
  refine Ev.succ ?_
  simp only [steeplelaw29_ProofWords.j0]
  exact Ev.neg (by decide) (ProofWords_l0 L t (by omega) (fun l hl a ha => u64_wf.1 ((hL.2.2 l hl).2.2 a ha)) (fun l hl => by have := (hL.2.2 l hl).2.1; omega) (by omega) L.length 0 (by omega) (fun i _ hi => absurd hi (Nat.not_lt_zero i)))
end Go.Proofs.Ythgiifakcgjlaaa.Pure
