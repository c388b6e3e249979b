/- The bytes of any parameters, and which parameters any bytes are. Conditions: none but the arguments' kinds. -/
import Derived.Test.YthgiifakcgjlaaaOcN
import Derived.Test.YthgiifakcgjlaaaHNums
import Derived.Test.YthgiifakcgjlaaaPx2
import Derived.Test.YthgiifakcgjlaaaPx3
import Derived.Test.YthgiifakcgjlaaaPx4
set_option linter.unusedVariables false
set_option linter.unusedSimpArgs false
namespace Go.Proofs.Ythgiifakcgjlaaa.Pure
open Go.RowKit Go.Proofs.YthgiifakcgjlaaaT Go.Proofs.Ythgiifakcgjlaaa.P Go.Proofs.Ythgiifakcgjlaaa.Br Go.Proofs.YthgiifakcgjlaaaW.PrintWords Go.Proofs.YthgiifakcgjlaaaW.PrintLast
def fitsB (a b c d : Int) : Bool := decide (2 ≤ a ∧ a ≤ 7 ∧ 0 ≤ b ∧ b ≤ 6 ∧ 1 ≤ c ∧ c ≤ 3 ∧ 1 ≤ d ∧ d ≤ 64)
theorem Fits_f (a b c d : Int) : proof_Fits.f a b c d = some (fitsB a b c d) := by
  unfold proof_Fits.f
  repeat' split
  all_goals refine congrArg some (Bool.eq_iff_iff.2 ?_)
  all_goals unfold fitsB
  all_goals simp only [decide_eq_true_eq, Bool.false_eq_true, false_iff]
  all_goals omega
theorem refFits_f (a b c d : Int) : steepleref29_Fits.f a b c d = some (fitsB a b c d) := Fits_f a b c d
def parB (a b c d : Int) : ByteArray := numB a ++ numB b ++ numB c ++ numB d
theorem nums_l0 (L : List Int) (hL : L.length < 2 ^ 40) : ∀ (d i : Nat) (s : ByteArray), i + d = L.length → s.size ≤ 4 * i → Ev (fun k => proof_nums.l0 k L s (i : Int)) ((L.drop i).foldl (fun s n => s ++ numB n) s)
  | 0, i, s, h, _ => by
    refine Ev.succ ?_
    simp only [proof_nums.l0]
    refine Ev.neg (by omega) ?_
    rw [List.drop_of_length_le (by omega)]
    exact Ev.now _
  | d + 1, i, s, h, hs => by
    have hi : i < L.length := by omega
    have hn := numB_le L[i]
    have hr : rd L (i : Int) = L[i] := by
      unfold rd
      rw [Int.toNat_natCast, List.getD_eq_getElem?_getD, List.getElem?_eq_getElem hi, Option.getD_some]
    refine Ev.succ ?_
    simp only [proof_nums.l0]
    refine Ev.pos (by omega) (Ev.pos (by omega) ?_)
    rw [hr]
    refine Ev.bind (Ev.const (Num_f _)) (Ev.pos (by omega) ?_)
    rw [show wrap64 ((i : Int) + 1) = ((i + 1 : Nat) : Int) by unfold wrap64; omega, List.drop_eq_getElem_cons hi, List.foldl_cons]
    exact nums_l0 L hL d (i + 1) _ (by omega) (by rw [ByteArray.size_append]; omega)
theorem nums_ev (a b c d : Int) : Ev (fun k => proof_nums.f k [a, b, c, d]) (parB a b c d) := by
  have := nums_l0 [a, b, c, d] (by show 4 < 2 ^ 40; decide) 4 0 noB rfl (by decide)
  simp only [List.drop_zero, List.foldl_cons, List.foldl_nil] at this
  rw [show noB ++ numB a = numB a from ByteArray.empty_append] at this
  exact this
theorem refBytes_f (a b c d : Int) : steepleref29_Params_Bytes.f a b c d = some (parB a b c d) := by
  have h1 := numB_le a
  have h2 := numB_le b
  have h3 := numB_le c
  have h4 := numB_le d
  unfold steepleref29_Params_Bytes.f
  rw [refNum_f, refNum_f, refNum_f, refNum_f, Option.bind_some, Option.bind_some, if_pos (by omega), Option.bind_some, if_pos (by rw [ByteArray.size_append]; omega), Option.bind_some, if_pos (by rw [ByteArray.size_append, ByteArray.size_append]; omega)]
  rfl
theorem Params_ev (a b c d : Int) : Ev (fun k => proof_Params.f k a b c d) (if fitsB a b c d = true then (parB a b c d, 0) else (noB, 1)) := by
  unfold proof_Params.f
  refine Ev.bind (Ev.const (Fits_f a b c d)) ?_
  by_cases h : fitsB a b c d = true
  · rw [if_pos h]
    exact Ev.pos h (Ev.bind (nums_ev a b c d) (Ev.now _))
  · rw [if_neg h]
    exact Ev.neg h (Ev.now _)
theorem End_f (r : ByteArray) (e : Int) : octet_Reader_End.f r e = some (if e = 0 then (if (r.size : Int) > 0 then 3 else 0) else e, r, e) := by
  unfold octet_Reader_End.f octet_Reader_Fail.f
  rw [Option.bind_some]
  by_cases h : e = 0
  · rw [if_pos h, if_pos h]
    split <;> rfl
  · rw [if_neg h, if_neg h, Option.bind_some]
theorem Read_snd (s : ByteArray) (hs : s.size ≤ 60) : ∃ a b c d e : Int, proof_ReadParams.f s = some (a, b, c, d, e) ∧ ((e = 0 ∧ fitsB a b c d = true ∧ s = parB a b c d) ∨ (e = 3 ∧ a = 0 ∧ b = 0 ∧ c = 0 ∧ d = 0)) := by
  obtain ⟨n1, r1, e1, h1, _, _, s1⟩ := Num_snd s 0 1048576
  obtain ⟨n2, r2, e2, h2, _, _, s2⟩ := Num_snd r1 e1 1048576
  obtain ⟨n3, r3, e3, h3, _, _, s3⟩ := Num_snd r2 e2 1048576
  obtain ⟨n4, r4, e4, h4, _, _, s4⟩ := Num_snd r3 e3 1048576
  have ha : proof_ask.f s = some 0 := by
    unfold proof_ask.f
    rw [if_neg (by omega)]
  unfold proof_ReadParams.f
  rw [ha, Option.bind_some, if_pos rfl]
  show ∃ a b c d e : Int, ((octet_Reader_Num.f s 0 1048576).bind fun bt132 => ((octet_Reader_Num.f bt132.2.1 bt132.2.2 1048576).bind fun bt135 => ((octet_Reader_Num.f bt135.2.1 bt135.2.2 1048576).bind fun bt138 => ((octet_Reader_Num.f bt138.2.1 bt138.2.2 1048576).bind fun bt141 => ((octet_Reader_End.f bt141.2.1 bt141.2.2).bind fun bt145 => (if bt145.1 = 0 then ((proof_Fits.f bt132.1 bt135.1 bt138.1 bt141.1).bind fun t148 => (if t148 = true then (some (bt132.1, bt135.1, bt138.1, bt141.1, 0)) else (some (0, 0, 0, 0, 3)))) else (some (0, 0, 0, 0, 3)))))))) = some (a, b, c, d, e) ∧ _
  rw [h1, Option.bind_some, h2, Option.bind_some, h3, Option.bind_some, h4, Option.bind_some, End_f, Option.bind_some, Fits_f, Option.bind_some]
  by_cases hE : (if e4 = 0 then (if (r4.size : Int) > 0 then 3 else 0) else e4) = (0 : Int)
  · rw [if_pos hE]
    by_cases hf : fitsB (n1 : Int) (n2 : Int) (n3 : Int) (n4 : Int) = true
    · rw [if_pos hf]
      refine ⟨_, _, _, _, _, rfl, .inl ⟨rfl, hf, ?_⟩⟩
      have he4 : e4 = 0 := by
        by_cases h : e4 = 0
        · exact h
        · rw [if_neg h] at hE
          exact hE
      rw [if_pos he4] at hE
      have hr : r4.size = 0 := by
        by_cases h : (r4.size : Int) > 0
        · rw [if_pos h] at hE
          exact absurd hE (by decide)
        · omega
      obtain ⟨he3, _, hb4⟩ := s4 he4
      obtain ⟨he2, _, hb3⟩ := s3 he3
      obtain ⟨he1, _, hb2⟩ := s2 he2
      obtain ⟨_, _, hb1⟩ := s1 he1
      have hr4 : r4 = noB := ByteArray.ext_getElem hr (fun i hi => by omega)
      unfold parB
      rw [hb1, hb2, hb3, hb4, hr4, show numB (n4 : Int) ++ noB = numB (n4 : Int) from ByteArray.append_empty, ByteArray.append_assoc, ByteArray.append_assoc]
    · rw [if_neg hf]
      exact ⟨_, _, _, _, _, rfl, .inr ⟨rfl, rfl, rfl, rfl, rfl⟩⟩
  · rw [if_neg hE]
    exact ⟨_, _, _, _, _, rfl, .inr ⟨rfl, rfl, rfl, rfl, rfl⟩⟩
theorem awake_ev : Ev (fun k => steeplelaw29_awake.f k) true := by
  have hp := Params_ev 3 0 1 2
  rw [if_pos (by decide)] at hp
  have hr : proof_ReadParams.f (parB 3 0 1 2) = some (3, 0, 1, 2, 0) := by decide +kernel
  have hl : (parB 3 0 1 2).toList = ([0, 0, 0, 3, 0, 0, 0, 0, 0, 0, 0, 1, 0, 0, 0, 2] : List UInt8) := by
    rw [ByteArray.toList_eq]
    decide +kernel
  unfold steeplelaw29_awake.f
  refine Ev.bind hp (Ev.bind (Ev.const hr) (Ev.pos rfl (Ev.pos rfl (Ev.pos (by decide) ?_))))
  show Ev (fun k => some ((parB 3 0 1 2).toList == ([0, 0, 0, 3, 0, 0, 0, 0, 0, 0, 0, 1, 0, 0, 0, 2] : List UInt8))) true
  rw [hl]
  exact Ev.const (by decide)
theorem ProofParams_j0 (s : ByteArray) {a b c d e : Int} (h : (e = 0 ∧ fitsB a b c d = true ∧ s = parB a b c d) ∨ (e = 3 ∧ a = 0 ∧ b = 0 ∧ c = 0 ∧ d = 0)) : Ev (fun k => steeplelaw29_ProofParams.j0 k s e false a b c d) true := by
  refine Ev.succ ?_
  simp only [steeplelaw29_ProofParams.j0]
  refine Ev.neg (by decide) ?_
  rcases h with ⟨rfl, hf, rfl⟩ | ⟨rfl, rfl, rfl, rfl, rfl⟩
  · refine Ev.pos rfl (Ev.bind awake_ev (Ev.pos rfl (Ev.bind (Ev.const (refFits_f a b c d)) (Ev.pos hf (Ev.bind (Ev.const (refBytes_f a b c d)) ?_)))))
    rw [beq_self_eq_true]
    exact Ev.now _
  · exact Ev.neg (by decide) (Ev.bind awake_ev (Ev.pos rfl (Ev.pos rfl (Ev.const (by decide)))))
theorem ProofParams : steeplelaw29_ProofParams.Pure := by
  intro x s hx hs
  obtain ⟨a, b, c, d⟩ := x
  refine Ev.rounds ?_
  show Ev (fun k => steeplelaw29_ProofParams.f k a b c d s) true
  unfold steeplelaw29_ProofParams.f
  by_cases h : (s.size : Int) > 60
  · exact Ev.pos h (Ev.bind awake_ev (Ev.now _))
  · obtain ⟨a', b', c', d', e, hr, hq⟩ := Read_snd s (by omega)
    have hp := Params_ev a b c d
    refine Ev.neg h ?_
    by_cases hf : fitsB a b c d = true
    · rw [if_pos hf] at hp
      refine Ev.bind hp (Ev.bind (Ev.const hr) (Ev.bind (Ev.const (refFits_f a b c d)) (Ev.bind (Ev.const (Fits_f a b c d)) ?_)))
      rw [hf]
      exact Ev.neg (by decide) (Ev.neg (show ¬(((0 : Int) == 0) != true) = true by decide) (Ev.pos rfl (Ev.pos rfl (Ev.bind (Ev.const (refBytes_f a b c d)) (Ev.pos rfl (ProofParams_j0 s hq))))))
    · rw [if_neg hf] at hp
      refine Ev.bind hp (Ev.bind (Ev.const hr) (Ev.bind (Ev.const (refFits_f a b c d)) (Ev.bind (Ev.const (Fits_f a b c d)) ?_)))
      rw [Bool.eq_false_iff.2 hf]
      refine Ev.neg (by decide) (Ev.neg (show ¬(((1 : Int) == 0) != false) = true by decide) (Ev.neg (show ¬((1 : Int) = 0) by decide) (Ev.pos (show (1 : Int) = 1 from rfl) (Ev.neg (by decide) ?_))))
      show Ev (fun k => steeplelaw29_ProofParams.j0 k s e (noB.toList != ([] : List UInt8)) a' b' c' d') true
      rw [ByteArray.toList_eq, show (noB.data.toList != ([] : List UInt8)) = false by decide]
      exact ProofParams_j0 s hq
end Go.Proofs.Ythgiifakcgjlaaa.Pure
