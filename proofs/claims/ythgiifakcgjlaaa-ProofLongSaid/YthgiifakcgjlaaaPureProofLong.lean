/- The pure statement of the law ProofLong: its printed function answers true. Conditions: none but the argument's kind. -/
import Derived.Test.YthgiifakcgjlaaaPwN
import Derived.Test.YthgiifakcgjlaaaPx12
import Derived.Test.YthgiifakcgjlaaaPx5
set_option linter.unusedVariables false
namespace Go.Proofs.Ythgiifakcgjlaaa.Pure
open Go.RowKit Go.Proofs.YthgiifakcgjlaaaT Go.Proofs.Ythgiifakcgjlaaa.P Go.Proofs.Ythgiifakcgjlaaa.Br Go.Proofs.YthgiifakcgjlaaaW.PrintWords Go.Proofs.YthgiifakcgjlaaaW.PrintLast
theorem long_n {a : Int} (ha : (Lit.int .i64 a).wf = true) : ∃ n : Nat, 1 ≤ n ∧ n ≤ 100 ∧ wrap64 (1 + Int.tmod (wrap64 (Int.tmod a 100 + 100)) 100) = (n : Int) := by
  have h1 := Int.tmod_lt_of_pos a (show (0 : Int) < 100 by decide)
  have h2 : -100 < Int.tmod a 100 := by
    have h3 := Int.tmod_lt_of_pos (-a) (show (0 : Int) < 100 by decide)
    rw [Int.neg_tmod] at h3
    omega
  obtain ⟨x, hx⟩ : ∃ x, x = Int.tmod a 100 := ⟨_, rfl⟩
  rw [← hx] at h1 h2 ⊢
  have e : wrap64 (x + 100) = x + 100 := by unfold wrap64; omega
  rw [e]
  obtain ⟨y, hy⟩ : ∃ y : Nat, x + 100 = (y : Int) := ⟨(x + 100).toNat, by omega⟩
  rw [hy, Int.tmod_eq_emod_of_nonneg (by omega)]
  refine ⟨1 + y % 100, by omega, by omega, ?_⟩
  unfold wrap64
  omega
theorem long_w {n m : Nat} (hn : n ≤ 100) (hm : m ≤ 2000000) : wrap64 ((m : Int) + (n : Int)) = ((m + n : Nat) : Int) := by unfold wrap64; omega
theorem ReadParams_long {s : ByteArray} (h : s.size > 1048576) : proof_ReadParams.f s = some (0, 0, 0, 0, 2) := by
  unfold proof_ReadParams.f
  rw [ask_long h, Option.bind_some]
  exact if_neg (by decide)
theorem ReadWords_long {s : ByteArray} (h : s.size > 1048576) : Ev (fun k => proof_ReadWords.f k s) ([], 2) := by
  unfold proof_ReadWords.f
  exact Ev.bind (Ev.const (ask_long h)) (Ev.neg (by decide) (Ev.now _))
theorem ReadSystem_long {s : ByteArray} (h : s.size > 1048576) : proof_ReadSystem.f s = some (0, 0, 0, 0, 0, [], 2) := by
  unfold proof_ReadSystem.f
  exact if_pos h
theorem ReadProof_long {s : ByteArray} (h : s.size > 1048576) : proof_ReadProof.f s = some (0, ⟨#[]⟩, [], [], [], 0, 0, [], [], 0, 0, [], [], [], 2) := by
  unfold proof_ReadProof.f
  exact if_pos h
theorem Words_many {L : List (List Int)} (h : L.length > 4096) (h2 : L.length < 1000000000) : proof_Words.f L = some (⟨#[]⟩, 2) := by
  unfold proof_Words.f
  rw [if_pos (Or.inl h), if_pos h2]
theorem Words_long {l : List Int} (h : l.length > 4096) : proof_Words.f [l] = some (⟨#[]⟩, 2) := by
  unfold proof_Words.f
  rw [if_pos (Or.inr (by simp [h])), if_pos (by rw [List.length_singleton]; decide)]
theorem ProofLong : steeplelaw29_ProofLong.Pure := by
  intro a ha
  refine Ev.rounds (g := fun k => steeplelaw29_ProofLong.f k a) ?_
  obtain ⟨n, h1, h2, hn⟩ := long_n ha
  obtain ⟨M, hM⟩ : ∃ M : Nat, M = 1048576 + n := ⟨_, rfl⟩
  obtain ⟨K, hK⟩ : ∃ K : Nat, K = 4096 + n := ⟨_, rfl⟩
  have e1 : wrap64 (1048576 + (n : Int)) = (M : Int) := by rw [hM]; exact long_w h2 (by decide)
  have e2 : wrap64 (4096 + (n : Int)) = (K : Int) := by rw [hK]; exact long_w h2 (by decide)
  obtain ⟨s, hs⟩ : ∃ s, s = strOfNums (List.replicate M 0) := ⟨_, rfl⟩
  have hz : s.size > 1048576 := by
    rw [hs, strOfNums_size, List.length_replicate]
    omega
  unfold steeplelaw29_ProofLong.f
  rw [hn, e1, e2, Int.toNat_natCast, Int.toNat_natCast]
  refine Ev.pos (by omega) (Ev.pos (by omega) (Ev.bind (Ev.now _) ?_))
  rw [← hs]
  refine Ev.bind (Ev.const (ReadParams_long hz)) (Ev.bind (Ev.const (ReadSystem_long hz)) (Ev.bind (ReadWords_long hz) (Ev.bind (Ev.const (ReadProof_long hz)) (Ev.pos (by omega) (Ev.pos (by omega) ?_)))))
  refine Ev.bind (Ev.const (Words_many (by rw [List.length_replicate]; omega) (by rw [List.length_replicate]; omega))) (Ev.pos (by omega) (Ev.bind (Ev.const (Words_long (by rw [List.length_replicate]; omega))) (Ev.bind awake_ev ?_)))
  exact Ev.pos rfl (Ev.pos rfl (Ev.pos rfl (Ev.pos rfl (Ev.pos rfl (Ev.pos rfl (Ev.now _))))))
end Go.Proofs.Ythgiifakcgjlaaa.Pure
