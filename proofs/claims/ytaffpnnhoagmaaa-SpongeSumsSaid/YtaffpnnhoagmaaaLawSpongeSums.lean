/- The law SpongeSums: for every input it returns true, and the input reads as it did. Conditions: none. -/
import Derived.Test.YtaffpnnhoagmaaaRows
import Derived.Test.YtaffpnnhoagmaaaHLsum
import Derived.Test.YtaffpnnhoagmaaaOcFew
import Derived.Test.YtaffpnnhoagmaaaPmSpR
import Derived.Test.YtaffpnnhoagmaaaOpens
import Derived.WalkKit
import Derived.ProofKit
import Derived.OpenShut
import Derived.ShutString
import Derived.ChangeOld
import Derived.Below
import Derived.SizedLaws
import Derived.Carry
namespace Go.Proofs.Ytaffpnnhoagmaaa.spongeSums
open Go.ChangeShapes Go.WideShapes Go.ChangeAt Go.ChangeMaps Go.RowKit Go.Proofs.YtaffpnnhoagmaaaQ Go.Proofs.YtaffpnnhoagmaaaW.PrintWords Go.Proofs.Ytaffpnnhoagmaaa.P Go.Proofs.Ytaffpnnhoagmaaa.Br
set_option linter.unusedVariables false
set_option linter.unusedSimpArgs false
theorem own : ownKnob Try.prog.godebug = none := by kernel_rfl
theorem laidOut : laidOutB Try.prog = true := by kernel_rfl
theorem u8_wf {a : Int} (h : (Lit.int .u8 a).wf = true) : 0 ≤ a ∧ a < 256 := by
  simp [Lit.wf, IntKind.min, IntKind.max, IntKind.bits, IntKind.signed] at h
  omega
theorem walked (s : ByteArray) (PA : Option Addr) (pc : Nat) (L : List ByteArray) (ws : s.size ≤ maxLen) (wL : L.length ≤ maxLen ∧ L.length * 16 ≤ 140737488351232 ∧ ∀ y0 ∈ L, y0.size ≤ 140737488351232) (w : World) (hr : Kd.C Kd.string w PA L.length L) (hc : L.length ≤ pc) : Calls Try.prog 5 #[.string s, .slice PA L.length pc] w fun e w' => e = .returned (.bool true) ∧ Below w.heap.size w w' := by
  by_cases c1 : 300 < s.size
  · exact lsum_far s PA L.length pc c1 w
  have hs : s.size ≤ 300 := by omega
  obtain ⟨F, hF⟩ := Few_ev L (by omega) 6 60
  cases hb : fewB L 6 60 with
  | false =>
    rw [hb] at hF
    exact lsum_few (KK := F) s PA pc L hs (hF F (Nat.le_refl _)) w hr hc
  | true =>
    rw [hb] at hF
    obtain ⟨h1, h2⟩ := fewB_iff hb
    have hz : (listB L).size ≤ 388 := by
      have h3 := lstB_few L (numB (L.length : Int)) h2
      have h4 := numB_le (L.length : Int)
      have h5 : L.length * (60 + 4) ≤ 6 * (60 + 4) := Nat.mul_le_mul_right _ h1
      unfold listB
      omega
    obtain ⟨A, hA⟩ := Make_ev
    obtain ⟨B, hB⟩ := Fill_ev s (by omega)
    obtain ⟨C, hC⟩ := Sum_ev s (by omega)
    obtain ⟨D, hD⟩ := List_ev (L := L) (by omega) (by omega)
    obtain ⟨E, hE⟩ := refList_ev (L := L) (by omega) (by omega)
    obtain ⟨G, hG⟩ := Sum_ev (listB L) (by omega)
    have hbk : sponge_Blocks.f (s.size : Int) = some ((nB s.size : Nat) : Int) := by
      rw [blocksOf (by omega) (by omega)]
      unfold nB
      congr 1
    exact lsum_yes (KK := A + B + C + D + E + F + G) (hA _ (by omega)) s PA pc L (fillS s) (nB s.size) (listB L) hs (hF _ (by omega)) rfl (fillS_size s) (by unfold nB; omega) hbk (hB _ (by omega)) (hC _ (by omega)) (hD _ (by omega)) (hE _ (by omega)) (by omega) (hG _ (by omega)) w hr hc
theorem op1 : Opens Try.prog 38 (Kd.slice 9 Kd.string) (fun x => (x.length ≤ maxLen ∧ x.length * 16 ≤ 140737488351232 ∧ ∀ y0 ∈ x, y0.size ≤ 140737488351232)) :=
  (Opens.slice (Opens.string Try.underlying9 (by kernel_rfl)) Try.underlying38 (by kernel_rfl) (B := 16) (by kernel_rfl)).imp (fun _ h => by first | exact h | (simp only [and_assoc] at h ⊢; exact h))
set_option maxRecDepth 100000 in
theorem lifted (os : Os) (started : os.Started) (H : Type) (enc : TypeId × Value → H) :
    ReturnsInHanded {} Try.checked os 5 .any (Rows.spongeSumsSpec.pre6 enc Try.prog Try.f5 Rows.spongeSumsRow.domain false) (Rows.spongeSumsSpec.post enc Try.prog Try.f5 false true false false) := by
  refine returnsInHanded_of_change_sized (C := Try.checked) own started (by kernel_rfl) Try.func5
    (ChangeSpec.witness6 (enc := enc) (C := Try.checked) false ⟨#[], #[.string ⟨#[]⟩, .slice none 0 0], []⟩ 8 (by kernel_rfl) (by kernel_rfl) (by kernel_rfl) (by kernel_rfl)) ?_
  intro W base args ds gs before hval0 hW hcnd hsz0 _
  have hsz : (DataW.weightsEach Try.prog (Try.f5.params.toList ++ Rows.spongeSumsSpec.plain.varTypes Try.prog) (ds ++ gs)).all (· ≤ reachBytes) = true := hsz0
  have hval : ∀ (j : Nat) t v, Try.f5.params[j]? = some t → args[j]? = some v → Value.okWide Try.prog W .any base t v := hval0
  have hW' := hW
  obtain ⟨p, q, hA0, hV, rfl, hfz, hnd⟩ := hW
  have hA : DataW.TrodAll enc Try.prog W 0 (fun _ => true) true Try.f5.params.toList args.toList ds p := hA0
  rw [Try.params5] at hA hval hsz
  obtain ⟨v0, vs0, d0, ds0, p0, q0, hargs, rfl, rfl, h0, r0⟩ := trodAll_cons hA
  obtain ⟨v1, vs1, d1, ds1, p1, q1, rfl, rfl, rfl, h1, r1⟩ := trodAll_cons r0
  obtain ⟨rfl, rfl, rfl⟩ := trodAll_nil r1
  obtain rfl : args = #[v0, v1] := by cases args; simp_all
  obtain ⟨rfl, rfl⟩ := trodVars_none hV
  obtain ⟨a0, rfl, rfl, rfl, w0⟩ := open_string Try.underlying9 (hval 0 9 v0 rfl rfl) h0
  have k1 := h1
  have lt1 : ∀ x ∈ p1, x.block < W.heap.size := by obtain ⟨m, hm⟩ := k1; exact DataW.trod_lt m _ _ _ hm
  obtain ⟨a1, K1, w1⟩ := op1.arg hsz 1 rfl rfl h1
  obtain ⟨aa1, len1, cap1, rfl⟩ := okWide_slice Try.underlying38 (hval 1 38 v1 rfl rfl)
  obtain ⟨A1, c1, e1, hc1, hr1⟩ := K1
  obtain ⟨rfl, rfl, rfl⟩ : aa1 = A1 ∧ len1 = a1.length ∧ cap1 = c1 := by simpa [Value.cells] using e1
  clear hA0 hval0 hsz0
  refine (walked a0 _ _ a1 w0 w1 W hr1 hc1).mono fun e W' ⟨he, bel0⟩ => ?_
  have bel : Below W.heap.size W W' := bel0
  subst he
  exact ⟨_, rfl, _, _, _, [], _, [], hW', trodAll_mk1 (shut_bool Try.underlying4 _), (trodAll_cons_mk (shut_string Try.underlying9 w0) (trodAll_cons_mk (Below.trod laidOut (by kernel_rfl) (of_decide_eq_true (by kernel_rfl)) k1 bel lt1) trodAll_mk0)), rfl, bel.frame _, fun h => by cases h⟩
theorem over : Rows.spongeSumsRow.holds Try.pinned (OpenSpec.ofChange Rows.spongeSumsSpec) :=
  OpenClaim.holds_of_wide 5 Try.f5 rfl rfl rfl rfl rfl rfl rfl ⟨rfl, rfl, rfl, rfl, rfl⟩ rfl rfl rfl rfl rfl (by kernel_rfl) Try.func5 (by kernel_rfl)
    (of_decide_eq_true (by kernel_rfl)) (by unfold Func.isWrapper; first | (rw [if_pos (by decide +kernel)]; kernel_rfl) | (rw [if_neg (by decide +kernel)]; exact ⟨rfl, rfl⟩))
    (fun os started H enc _ => lifted os started H enc)
theorem proved : Rows.SpongeSumsSaid := over
#print axioms proved
end Go.Proofs.Ytaffpnnhoagmaaa.spongeSums
namespace Go.Proofs.Ytaffpnnhoagmaaa
/-- The row, under a short name, for the claim. -/
theorem spongeSums_holds : Rows.SpongeSumsSaid := spongeSums.proved
end Go.Proofs.Ytaffpnnhoagmaaa
