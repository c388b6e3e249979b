/- The law SpongeStreams: for every input it returns true, and the input reads as it did. Conditions: none. -/
import Derived.Test.YtaffpnnhoagmaaaRows
import Derived.Test.YtaffpnnhoagmaaaHLstr
import Derived.Test.YtaffpnnhoagmaaaOpens
import Derived.WalkKit
import Derived.ProofKit
import Derived.OpenShut
import Derived.ShutString
import Derived.ChangeOld
import Derived.Below
import Derived.SizedLaws
import Derived.Carry
namespace Go.Proofs.Ytaffpnnhoagmaaa.spongeStreams
open Go.ChangeShapes Go.WideShapes Go.ChangeAt Go.ChangeMaps Go.RowKit Go.Proofs.YtaffpnnhoagmaaaQ Go.Proofs.YtaffpnnhoagmaaaW.PrintWords Go.Proofs.Ytaffpnnhoagmaaa.P Go.Proofs.Ytaffpnnhoagmaaa.Br
set_option linter.unusedVariables false
set_option linter.unusedSimpArgs false
theorem own : ownKnob Try.prog.godebug = none := by kernel_rfl
theorem laidOut : laidOutB Try.prog = true := by kernel_rfl
theorem u8_wf {a : Int} (h : (Lit.int .u8 a).wf = true) : 0 ≤ a ∧ a < 256 := by
  simp [Lit.wf, IntKind.min, IntKind.max, IntKind.bits, IntKind.signed] at h
  omega
theorem stream_pre (s : ByteArray) (j : Nat) : ∀ (d k : Nat), j ≤ 32 * k → (streamB s (k + d)).extract 0 j = (streamB s k).extract 0 j
  | 0, k, _ => rfl
  | d + 1, k, h => by
    have h1 := stream_pre s j d k h
    show ((streamB s (k + d)) ++ sumS (s ++ numS (k + d))).extract 0 j = _
    rw [← h1]
    refine ByteArray.ext (Array.toList_inj.1 ?_)
    rw [ByteArray.data_extract, Array.toList_extract, ByteArray.data_append, Array.toList_append, ByteArray.data_extract, Array.toList_extract, List.extract_eq_drop_take', List.extract_eq_drop_take', List.drop_zero, List.drop_zero]
    refine List.take_append_of_le_length ?_
    rw [Array.length_toList]
    show j - 0 ≤ (streamB s (k + d)).size
    rw [streamB_size]
    omega
theorem walked (s : ByteArray) (n less : Int) (ws : s.size ≤ maxLen) (wn : (Lit.int .i64 n).wf = true) (wl : (Lit.int .i64 less).wf = true) (w : World) : Calls Try.prog 6 #[.string s, .int .i64 n, .int .i64 less] w fun e w' => e = .returned (.bool true) ∧ Below w.heap.size w w' := by
  by_cases c1 : 100 < s.size
  · exact lstr_far1 s n less c1 w
  by_cases c2 : n < 0
  · exact lstr_neg s n less (by omega) c2 w
  by_cases c3 : 1048576 < n
  · exact lstr_big s n less (by omega) c3 w
  by_cases c4 : 150 < n
  · exact lstr_far2 s n less (by omega) c4 (by omega) w
  obtain ⟨m, rfl⟩ := Int.eq_ofNat_of_zero_le (show 0 ≤ n by omega)
  have hm : m ≤ 150 := by omega
  obtain ⟨x, ex⟩ : ∃ x, x = Int.tmod less ((m : Int) + 1) := ⟨_, rfl⟩
  have hx : -(m : Int) ≤ x ∧ x ≤ m := by
    have h1 := Int.tmod_lt_of_pos less (show 0 < (m : Int) + 1 by omega)
    have h2 := Int.natAbs_tmod less ((m : Int) + 1)
    have h3 : (Int.tmod less ((m : Int) + 1)).natAbs < m + 1 := by rw [h2, show ((m : Int) + 1).natAbs = m + 1 by omega]; exact Nat.mod_lt _ (by omega)
    rw [ex]
    omega
  obtain ⟨j, ej⟩ := Int.eq_ofNat_of_zero_le (show 0 ≤ Int.tmod (x + (m : Int) + 1) ((m : Int) + 1) from by rw [Int.tmod_eq_emod_of_nonneg (by omega)]; exact Int.emod_nonneg _ (by omega))
  have hj : j ≤ m := by
    have h1 := Int.tmod_lt_of_pos (x + (m : Int) + 1) (show 0 < (m : Int) + 1 by omega)
    omega
  obtain ⟨A, hA⟩ := Make_ev
  obtain ⟨B, hB⟩ := Stream_ev s (by omega) m (by omega)
  have hz : ((streamB s ((m + 31) / 32)).extract 0 m).size = m := by rw [ByteArray.size_extract, streamB_size]; omega
  refine lstr_yes (hA (A + B) (by omega)) s m less j _ (by omega) hm (hB (A + B) (by omega)) rfl hz (Or.inr trivial) (by rw [← ex]; omega) (by rw [← ex]; exact ej) hj ?_ w
  rw [ByteArray.extract_extract]
  have h := stream_pre s j ((m + 31) / 32 - (j + 31) / 32) ((j + 31) / 32) (by omega)
  rw [show (j + 31) / 32 + ((m + 31) / 32 - (j + 31) / 32) = (m + 31) / 32 by omega] at h
  rw [← h]
  congr 1
  omega
set_option maxRecDepth 100000 in
theorem lifted (os : Os) (started : os.Started) (H : Type) (enc : TypeId × Value → H) :
    ReturnsInHanded {} Try.checked os 6 .any (Rows.spongeStreamsSpec.pre6 enc Try.prog Try.f6 Rows.spongeStreamsRow.domain false) (Rows.spongeStreamsSpec.post enc Try.prog Try.f6 false true false false) := by
  refine returnsInHanded_of_change_sized (C := Try.checked) own started (by kernel_rfl) Try.func6
    (ChangeSpec.witness6 (enc := enc) (C := Try.checked) false ⟨#[], #[.string ⟨#[]⟩, .int .i64 0, .int .i64 0], []⟩ 8 (by kernel_rfl) (by kernel_rfl) (by kernel_rfl) (by kernel_rfl)) ?_
  intro W base args ds gs before hval0 hW hcnd hsz0 _
  have hval : ∀ (j : Nat) t v, Try.f6.params[j]? = some t → args[j]? = some v → Value.okWide Try.prog W .any base t v := hval0
  have hW' := hW
  obtain ⟨p, q, hA0, hV, rfl, hfz, hnd⟩ := hW
  have hA : DataW.TrodAll enc Try.prog W 0 (fun _ => true) true Try.f6.params.toList args.toList ds p := hA0
  rw [Try.params6] at hA hval
  obtain ⟨v0, vs0, d0, ds0, p0, q0, hargs, rfl, rfl, h0, r0⟩ := trodAll_cons hA
  obtain ⟨v1, vs1, d1, ds1, p1, q1, rfl, rfl, rfl, h1, r1⟩ := trodAll_cons r0
  obtain ⟨v2, vs2, d2, ds2, p2, q2, rfl, rfl, rfl, h2, r2⟩ := trodAll_cons r1
  obtain ⟨rfl, rfl, rfl⟩ := trodAll_nil r2
  obtain rfl : args = #[v0, v1, v2] := by cases args; simp_all
  obtain ⟨rfl, rfl⟩ := trodVars_none hV
  obtain ⟨a0, rfl, rfl, rfl, w0⟩ := open_string Try.underlying9 (hval 0 9 v0 rfl rfl) h0
  obtain ⟨a1, rfl, rfl, rfl, w1⟩ := open_int Try.underlying3 (hval 1 3 v1 rfl rfl) h1
  obtain ⟨a2, rfl, rfl, rfl, w2⟩ := open_int Try.underlying3 (hval 2 3 v2 rfl rfl) h2
  clear hA0 hval0 hsz0
  refine (walked a0 a1 a2 w0 w1 w2 W).mono fun e W' ⟨he, bel0⟩ => ?_
  have bel : Below W.heap.size W W' := bel0
  subst he
  exact ⟨_, rfl, _, _, _, [], _, [], hW', trodAll_mk1 (shut_bool Try.underlying4 _), (trodAll_cons_mk (shut_string Try.underlying9 w0) (trodAll_cons_mk (shut_int Try.underlying3 w1) (trodAll_cons_mk (shut_int Try.underlying3 w2) trodAll_mk0))), rfl, bel.frame _, fun h => by cases h⟩
theorem over : Rows.spongeStreamsRow.holds Try.pinned (OpenSpec.ofChange Rows.spongeStreamsSpec) :=
  OpenClaim.holds_of_wide 6 Try.f6 rfl rfl rfl rfl rfl rfl rfl ⟨rfl, rfl, rfl, rfl, rfl⟩ rfl rfl rfl rfl rfl (by kernel_rfl) Try.func6 (by kernel_rfl)
    (of_decide_eq_true (by kernel_rfl)) (by unfold Func.isWrapper; first | (rw [if_pos (by decide +kernel)]; kernel_rfl) | (rw [if_neg (by decide +kernel)]; exact ⟨rfl, rfl⟩))
    (fun os started H enc _ => lifted os started H enc)
theorem proved : Rows.SpongeStreamsSaid := over
#print axioms proved
end Go.Proofs.Ytaffpnnhoagmaaa.spongeStreams
namespace Go.Proofs.Ytaffpnnhoagmaaa
/-- The row, under a short name, for the claim. -/
theorem spongeStreams_holds : Rows.SpongeStreamsSaid := spongeStreams.proved
end Go.Proofs.Ytaffpnnhoagmaaa
