/- Boxes and products of bytes: the document's are the code's (layer 10). Conditions: those that each theorem names. -/
import Derived.Test.YtmibjgjgfombaaaPmNum
import Derived.Test.YtmibjgjgfombaaaBrAll
set_option linter.unusedVariables false
namespace Go.Proofs.Ytmibjgjgfombaaa.Br
open Go.RowKit Go.Proofs.YtmibjgjgfombaaaT Go.Proofs.Ytmibjgjgfombaaa.P Go.Proofs.YtmibjgjgfombaaaW.PrintWords Go.Proofs.YtmibjgjgfombaaaW.PrintLast Go.Proofs.YtmibjgjgfombaaaW.PrintMore
theorem byte_el (b : Nat) (hb : b < 256) : ∃ x : T 7, hiW x = 0 ∧ loW x = (b : Int) := by
  obtain ⟨x, h1, h2⟩ := el_of (a := 0) (b := (b : Int)) (by decide) (u64_wf.2 (by omega))
  exact ⟨x, h1.symm, h2.symm⟩
theorem byte_of {b : Nat} (hb : b < 256) {x : T 7} (h0 : hiW x = 0) (h1 : loW x = (b : Int)) : ofB 3 x = true := by
  have e1 : enc 6 x.1 = 0 := Int.ofNat.inj h0
  have e2 : enc 6 x.2 = b := Int.ofNat.inj h1
  have e : enc 7 x = b := by rw [enc7, e1, e2, Nat.zero_mul, Nat.zero_add]
  unfold ofB
  rw [e, decide_eq_true_eq]
  exact ⟨by decide, by decide, hb⟩
theorem Ev.same {α : Type} {f : Nat → Option α} {r s : α} (h : Ev f r) (h2 : Ev f s) : r = s := by
  obtain ⟨N, hN⟩ := h
  obtain ⟨M, hM⟩ := h2
  have e := (hN (N + M) (by omega)).symm.trans (hM (N + M) (by omega))
  exact Option.some.inj e
theorem refBox_ev (b : Nat) (hb : b < 256) : Ev (fun k => steepleref10_Box.f k (b : Int)) (bxN b : Int) := by
  obtain ⟨y, y0, y1⟩ := byte_el b hb
  obtain ⟨hi1, hi2, ht⟩ := invPair_f b hb
  have hm := Inv_ev 3 y
  have hr := refInv_ev 3 y
  rw [y0, y1] at hm hr
  have hs := Ev.same hm (Ev.of (tower_Inv.mono _ _ _) hi1)
  rw [hs] at hr
  unfold steepleref10_Box.f
  rw [wrap_u64 b (by omega)]
  refine Ev.bind hr ?_
  unfold tailF at ht
  obtain ⟨t1, e1, ht⟩ := Option.bind_eq_some_iff.1 ht
  obtain ⟨t2, e2, ht⟩ := Option.bind_eq_some_iff.1 ht
  obtain ⟨t3, e3, ht⟩ := Option.bind_eq_some_iff.1 ht
  obtain ⟨t4, e4, ht⟩ := Option.bind_eq_some_iff.1 ht
  exact Ev.bind (Ev.of (steepleref10_left.mono _ _) e1) (Ev.bind (Ev.of (steepleref10_left.mono _ _) e2) (Ev.bind (Ev.of (steepleref10_left.mono _ _) e3) (Ev.bind (Ev.of (steepleref10_left.mono _ _) e4) (Ev.const ht))))
end Go.Proofs.Ytmibjgjgfombaaa.Br
