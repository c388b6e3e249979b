/- Boxes and products of bytes: the document's are the code's (layer 10). Conditions: those that each theorem names. -/
import Derived.Test.YtmibjgjgfombaaaPmNum
import Derived.Test.YtmibjgjgfombaaaBrAll
set_option linter.unusedVariables false
namespace Go.Proofs.Ytmibjgjgfombaaa.Br
open Go.RowKit Go.Proofs.YtmibjgjgfombaaaT Go.Proofs.Ytmibjgjgfombaaa.P Go.Proofs.YtmibjgjgfombaaaW.PrintWords Go.Proofs.YtmibjgjgfombaaaW.PrintLast Go.Proofs.YtmibjgjgfombaaaW.PrintMore
theorem byte_el (b : Nat) (hb : b < 256) : ∃ x : T 7, hiW x = 0 ∧ loW x = (b : Int) := by
  obtain ⟨x, h1, h2⟩ := el_of (a := 0) (b := (b : Int)) (by decide) (u64_wf.2 (by omega))
  exact ⟨x, h1.symm, h2.symm⟩
theorem byte_of {b : Nat} (hb : b < 256) {x : T 7} (h0 : hiW x = 0) (h1 : loW x = (b : Int)) : ofB 3 x = true := by
  have e1 : enc 6 x.1 = 0 := Int.ofNat.inj h0
  have e2 : enc 6 x.2 = b := Int.ofNat.inj h1
  have e : enc 7 x = b := by rw [enc7, e1, e2, Nat.zero_mul, Nat.zero_add]
  unfold ofB
  rw [e, decide_eq_true_eq]
  exact ⟨by decide, by decide, hb⟩
theorem Ev.same {α : Type} {f : Nat → Option α} {r s : α} (h : Ev f r) (h2 : Ev f s) : r = s := by
  obtain ⟨N, hN⟩ := h
  obtain ⟨M, hM⟩ := h2
  have e := (hN (N + M) (by omega)).symm.trans (hM (N + M) (by omega))
  exact Option.some.inj e
theorem refTimes_ev (b q : Nat) (hb : b < 256) (hq : q ∈ mixL) : Ev (fun k => steepleref10_Times.f k (q : Int) (b : Int)) (mlN q b : Int) := by
  have hq7 := mixL_le hq
  obtain ⟨x, x0, x1⟩ := byte_el q (by omega)
  obtain ⟨y, y0, y1⟩ := byte_el b hb
  have hm := Mul_ev 3 x y
  have e : mulE 3 x y = x * y := if_pos ⟨byte_of (by omega) x0 x1, byte_of hb y0 y1⟩
  rw [e, x0, x1, y0, y1] at hm
  have hv := (mulPair_f b q hb hq)
  have hs := Ev.same hm (Ev.of (tower_Mul.mono _ _ _ _ _) hv.1)
  have h2 : loW (x * y) = (mlN q b : Int) := congrArg Prod.snd hs
  have hp := Product_ev x y
  rw [x0, x1, y0, y1] at hp
  unfold steepleref10_Times.f
  rw [wrap_u64 q (by omega), wrap_u64 b (by omega)]
  refine Ev.bind hp ?_
  have e2 : wrap64 (loW (x * y)) = (mlN q b : Int) := by
    rw [h2]
    have := hv.2.1
    unfold wrap64
    omega
  show Ev (fun k => some (wrap64 (loW (x * y)))) _
  rw [e2]
  exact Ev.now _
theorem refBox_ev (b : Nat) (hb : b < 256) : Ev (fun k => steepleref10_Box.f k (b : Int)) (bxN b : Int) := by
  obtain ⟨y, y0, y1⟩ := byte_el b hb
  obtain ⟨hi1, hi2, ht⟩ := invPair_f b hb
  have hm := Inv_ev 3 y
  have hr := refInv_ev 3 y
  rw [y0, y1] at hm hr
  have hs := Ev.same hm (Ev.of (tower_Inv.mono _ _ _) hi1)
  rw [hs] at hr
  unfold steepleref10_Box.f
  rw [wrap_u64 b (by omega)]
  refine Ev.bind hr ?_
  unfold tailF at ht
  obtain ⟨t1, e1, ht⟩ := Option.bind_eq_some_iff.1 ht
  obtain ⟨t2, e2, ht⟩ := Option.bind_eq_some_iff.1 ht
  obtain ⟨t3, e3, ht⟩ := Option.bind_eq_some_iff.1 ht
  obtain ⟨t4, e4, ht⟩ := Option.bind_eq_some_iff.1 ht
  exact Ev.bind (Ev.of (steepleref10_left.mono _ _) e1) (Ev.bind (Ev.of (steepleref10_left.mono _ _) e2) (Ev.bind (Ev.of (steepleref10_left.mono _ _) e3) (Ev.bind (Ev.of (steepleref10_left.mono _ _) e4) (Ev.const ht))))
theorem ev_all {P : Nat → Nat → Prop} : ∀ n : Nat, (∀ b, b < n → ∃ N, ∀ k, N ≤ k → P b k) → ∃ N, ∀ k, N ≤ k → ∀ b, b < n → P b k
  | 0, _ => ⟨0, fun k _ b hb => absurd hb (by omega)⟩
  | n + 1, h => by
    obtain ⟨N, hN⟩ := ev_all n (fun b hb => h b (by omega))
    obtain ⟨M, hM⟩ := h n (by omega)
    refine ⟨N + M, fun k hk b hb => ?_⟩
    by_cases e : b = n
    · subst e
      exact hM k (by omega)
    · exact hN k (by omega) b (by omega)
theorem refs_at : ∃ K, (∀ b : Nat, b < 256 → steepleref10_Box.f K (b : Int) = some (bxN b : Int)) ∧ (∀ b q : Nat, b < 256 → q ∈ mixL → steepleref10_Times.f K (q : Int) (b : Int) = some (mlN q b : Int)) := by
  obtain ⟨N, hN⟩ := ev_all (P := fun b k => steepleref10_Box.f k (b : Int) = some (bxN b : Int)) 256 (fun b hb => refBox_ev b hb)
  obtain ⟨M, hM⟩ := ev_all (P := fun q k => ∀ b : Nat, b < 256 → q ∈ mixL → steepleref10_Times.f k (q : Int) (b : Int) = some (mlN q b : Int)) 8 (fun q _ => by
    by_cases hq : q ∈ mixL
    · obtain ⟨L, hL⟩ := ev_all (P := fun b k => steepleref10_Times.f k (q : Int) (b : Int) = some (mlN q b : Int)) 256 (fun b hb => refTimes_ev b q hb hq)
      exact ⟨L, fun k hk b hb _ => hL k hk b hb⟩
    · exact ⟨0, fun k _ b _ h => absurd h hq⟩)
  exact ⟨N + M, fun b hb => hN _ (by omega) b hb, fun b q hb hq => hM _ (by omega) q (by have := mixL_le hq; omega) b hb hq⟩
end Go.Proofs.Ytmibjgjgfombaaa.Br
