/- The page's example of layer 29 answers true; the bytes of numbers. Conditions: none. -/
import Derived.Test.YthgiifakcgjlaaaOcR
import Derived.Test.YthgiifakcgjlaaaHNums
import Derived.Test.YthgiifakcgjlaaaPx4
import Derived.Test.YthgiifakcgjlaaaPx5
set_option linter.unusedVariables false
set_option linter.unusedSimpArgs false
namespace Go.Proofs.Ythgiifakcgjlaaa.Br
open Go.RowKit Go.Proofs.YthgiifakcgjlaaaT Go.Proofs.Ythgiifakcgjlaaa.P Go.Proofs.YthgiifakcgjlaaaW.PrintWords Go.Proofs.YthgiifakcgjlaaaW.PrintLast
def fitsB (a b c d : Int) : Bool := decide (2 ≤ a ∧ a ≤ 7 ∧ 0 ≤ b ∧ b ≤ 6 ∧ 1 ≤ c ∧ c ≤ 3 ∧ 1 ≤ d ∧ d ≤ 64)
theorem Fits_f (a b c d : Int) : proof_Fits.f a b c d = some (fitsB a b c d) := by
  unfold proof_Fits.f
  repeat' split
  all_goals refine congrArg some (Bool.eq_iff_iff.2 ?_)
  all_goals unfold fitsB
  all_goals simp only [decide_eq_true_eq, Bool.false_eq_true, false_iff]
  all_goals omega
def parB (a b c d : Int) : ByteArray := numB a ++ numB b ++ numB c ++ numB d
theorem nums_l0 (L : List Int) (hL : L.length < 2 ^ 40) : ∀ (d i : Nat) (s : ByteArray), i + d = L.length → s.size ≤ 4 * i → Ev (fun k => proof_nums.l0 k L s (i : Int)) ((L.drop i).foldl (fun s n => s ++ numB n) s)
  | 0, i, s, h, _ => by
    refine Ev.succ ?_
    simp only [proof_nums.l0]
    refine Ev.neg (by omega) ?_
    rw [List.drop_of_length_le (by omega)]
    exact Ev.now _
  | d + 1, i, s, h, hs => by
    have hi : i < L.length := by omega
    have hn := numB_le L[i]
    have hr : rd L (i : Int) = L[i] := by
      unfold rd
      rw [Int.toNat_natCast, List.getD_eq_getElem?_getD, List.getElem?_eq_getElem hi, Option.getD_some]
    refine Ev.succ ?_
    simp only [proof_nums.l0]
    refine Ev.pos (by omega) (Ev.pos (by omega) ?_)
    rw [hr]
    refine Ev.bind (Ev.const (Num_f _)) (Ev.pos (by omega) ?_)
    rw [show wrap64 ((i : Int) + 1) = ((i + 1 : Nat) : Int) by unfold wrap64; omega, List.drop_eq_getElem_cons hi, List.foldl_cons]
    exact nums_l0 L hL d (i + 1) _ (by omega) (by rw [ByteArray.size_append]; omega)
theorem nums_ev (a b c d : Int) : Ev (fun k => proof_nums.f k [a, b, c, d]) (parB a b c d) := by
  have := nums_l0 [a, b, c, d] (by show 4 < 2 ^ 40; decide) 4 0 noB rfl (by decide)
  simp only [List.drop_zero, List.foldl_cons, List.foldl_nil] at this
  rw [show noB ++ numB a = numB a from ByteArray.empty_append] at this
  exact this
theorem Params_ev (a b c d : Int) : Ev (fun k => proof_Params.f k a b c d) (if fitsB a b c d = true then (parB a b c d, 0) else (noB, 1)) := by
  unfold proof_Params.f
  refine Ev.bind (Ev.const (Fits_f a b c d)) ?_
  by_cases h : fitsB a b c d = true
  · rw [if_pos h]
    exact Ev.pos h (Ev.bind (nums_ev a b c d) (Ev.now _))
  · rw [if_neg h]
    exact Ev.neg h (Ev.now _)
theorem End_f (r : ByteArray) (e : Int) : octet_Reader_End.f r e = some (if e = 0 then (if (r.size : Int) > 0 then 3 else 0) else e, r, e) := by
  unfold octet_Reader_End.f octet_Reader_Fail.f
  rw [Option.bind_some]
  by_cases h : e = 0
  · rw [if_pos h, if_pos h]
    split <;> rfl
  · rw [if_neg h, if_neg h, Option.bind_some]
theorem awake_ev : Ev (fun k => steeplelaw29_awake.f k) true := by
  have hp := Params_ev 3 0 1 2
  rw [if_pos (by decide)] at hp
  have hr : proof_ReadParams.f (parB 3 0 1 2) = some (3, 0, 1, 2, 0) := by decide +kernel
  have hl : (parB 3 0 1 2).toList = ([0, 0, 0, 3, 0, 0, 0, 0, 0, 0, 0, 1, 0, 0, 0, 2] : List UInt8) := by
    rw [ByteArray.toList_eq]
    decide +kernel
  unfold steeplelaw29_awake.f
  refine Ev.bind hp (Ev.bind (Ev.const hr) (Ev.pos rfl (Ev.pos rfl (Ev.pos (by decide) ?_))))
  show Ev (fun k => some ((parB 3 0 1 2).toList == ([0, 0, 0, 3, 0, 0, 0, 0, 0, 0, 0, 1, 0, 0, 0, 2] : List UInt8))) true
  rw [hl]
  exact Ev.const (by decide)
end Go.Proofs.Ythgiifakcgjlaaa.Br
