/- A copy of a list of words (slices.Clone). Conditions: the list takes no more bytes than there may be. -/
import Derived.Test.YtceneggampgboaaPx0
import Derived.Lib.SliceRun
set_option linter.unusedVariables false
namespace Go.Proofs.Ytceneggampgboaa.P
open Go.RowKit Go.Proofs.YtceneggampgboaaX Go.Proofs.YtceneggampgboaaW.PrintWords Go.Proofs.YtceneggampgboaaW.PrintLast Go.Proofs.YtceneggampgboaaW.PrintMore
def slices_Clone_uint64_uint64.f (l0 : List Int) : Option (List Int) := if l0.length * 8 ≤ 140737488355328 then some l0 else none
set_option maxHeartbeats 1000000 in
set_option maxRecDepth 100000 in
theorem slices_Clone_uint64_uint64.calls (A0 : Option Addr) (c0 : Nat) (l0 : List Int) (r : List Int) (w : World) (hr0 : Kd.C (Kd.int .u64) w A0 l0.length l0) (hc0 : l0.length ≤ c0) (h : slices_Clone_uint64_uint64.f l0 = some r) :
    Calls Try.prog 43 #[.slice A0 l0.length c0] w fun e w' => ∃ v0_ : Value, e = .returned (v0_) ∧ Kd.R (Kd.int .u64) 23 w' w.heap.size (fun _ => True) v0_ r ∧ Below w.heap.size w w' := by
  have hu := Try.underlying29
  unfold slices_Clone_uint64_uint64.f at h
  by_cases hz : l0.length * 8 ≤ 140737488355328
  · rw [if_pos hz] at h
    obtain rfl := Option.some.inj h
    clear h
    have HZ := Aside0.mk hz
    clear hz
    have HR := Aside0.mk hr0
    clear hr0
    have HB := Aside0.mk (Below.refl w.heap.size w)
    cases A0 with
    | none =>
      have hl : l0 = [] := by
        by_cases e : l0 = []
        · exact e
        · obtain ⟨ad, h1, _⟩ := HR.out.2.2 (List.length_pos_iff.2 e)
          cases h1
      subst hl
      have hq : ∀ W : World, (binOp .eql 29 (.slice none 0 c0) (.slice none 0 0)).run Try.prog W = .ok (.bool true) W := fun W => Lib.run_eql_slice_nil W _ _ none 0 c0 0 0 hu
      go_enter Try.func43, Try.ntmps43
      go_wp2
      go_ret
      exact ⟨_, rfl, Kd.R_nil _ _ _ _ _, Below.refl _ _⟩
    | some ad =>
      have hq : ∀ W : World, (binOp .eql 29 (.slice (some ad) l0.length c0) (.slice none 0 0)).run Try.prog W = .ok (.bool false) W := fun W => Lib.run_eql_slice_nil W _ _ (some ad) l0.length c0 0 0 hu
      go_enter Try.func43, Try.ntmps43
      go_wp2_with (first
        | ((with_reducible refine gate_dst (N := 5) rfl ?_); refine Kd.R_lit (Kd.int .u64) _ 23 ?hg (N := 5) ?hd (xs := ([] : List Int)) (inner := []) (ok := fun _ => True) (okp := fun _ => True) ?hr ?hp (fun _ hk => hk) trivial HB.out (Nat.le_refl _) (by simp) ?_; (case hd => rfl); (case hg => rfl); (case hr => first | (go_simp; done) | (go_simp; rfl)); (case hp => exact ⟨rfl, fun j p hj => by simp at hj⟩); intro v5 w5 ho hb hg hat; have HO := Aside0.mk ho; replace HB := Aside0.mk hb; replace HR := Aside0.mk (Kd.C_below HR.out hb); clear ho hb hg hat)
        | ((with_reducible refine gate_builtin (b := .append) (xs := #[.tmp 5, .tmp 6]) rfl ?_); at_builtin; refine Kd.R_append_row (w0 := w) (Value.int .u64) (0 : Int) w.heap.size rfl (.tmp 5) (.tmp 6) 29 23 (.int .u64 0) 8 rfl Try.underlying29 info23 rfl (by decide) _ [] l0 (some ad) l0.length c0 (fun _ => True) rfl rfl (fun _ _ => trivial) HO.out HR.out HB.out HB.out.size (by have := HZ.out; simpa using this) ?_; intro v7 w7 ho hb hg hat; replace HO := Aside0.mk ho; replace HB := Aside0.mk hb; clear ho hb hg hat))
      go_ret
      exact ⟨_, rfl, HO.out, HB.out⟩
  · rw [if_neg hz] at h
    cases h
end Go.Proofs.Ytceneggampgboaa.P
