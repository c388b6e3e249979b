/- Elements cut down to a level, and the page's examples of layer 2. Conditions: those that each theorem names. -/
import Derived.Test.YtbjjjdallodbgaaBrMul
import Derived.Test.YtbjjjdallodbgaaBr02A
import Derived.Test.YtbjjjdallodbgaaBrList
import Derived.Test.YtbjjjdallodbgaaPx3
set_option linter.unusedVariables false
namespace Go.Proofs.Ytbjjjdallodbgaa.Br
open Go.RowKit Go.Proofs.YtbjjjdallodbgaaT Go.Proofs.Ytbjjjdallodbgaa.P Go.Proofs.YtbjjjdallodbgaaW.PrintWords Go.Proofs.YtbjjjdallodbgaaW.PrintLast Go.Proofs.YtbjjjdallodbgaaW.PrintMore
theorem cut_7 (x : T 7) : (⟨hiW x, loW x⟩ : S24) = elS (cutE 7 x) := by rw [cutE_self (inL_top x)]; rfl
theorem cut_6 (x : T 7) : (⟨0, loW x⟩ : S24) = elS (cutE 6 x) := by
  unfold elS
  rw [hi_in (Nat.le_refl 6) (cutE_in (by omega) x), lo_cutE (Nat.le_refl 6), Nat.mod_eq_of_lt (lt64 (k := 6) (by omega) x.2)]
  rfl
theorem cut_low {j : Nat} (h : j < 6) (x : T 7) : (⟨0, Go.bits .and .u64 (loW x) (IntKind.u64.wrap (shl .u64 1 (shl .u64 1 (j : Int)) - 1))⟩ : S24) = elS (cutE j x) := by
  unfold elS
  have h1 : 2 ^ j ≤ 64 := Nat.le_trans (Nat.pow_le_pow_right (by decide) (show j ≤ 6 by omega)) (by decide)
  have h2 : 2 ^ 2 ^ j - 1 < 2 ^ 64 := Nat.lt_of_lt_of_le (Nat.sub_lt (Nat.two_pow_pos _) (by decide)) (Nat.pow_le_pow_right (by decide) h1)
  rw [hi_in (show j ≤ 6 by omega) (cutE_in (by omega) x), lo_cutE (by omega), shl1_u64 j (by omega), mask_u64 j (by omega)]
  unfold loW
  rw [bits_and _ _ (lt64 (by omega) _) h2, Nat.and_two_pow_sub_one_eq_mod]
theorem of_l0 {j : Nat} (hj : j ≤ 7) (m : List (T 7)) (hm : m.length < 1000) : ∀ (d i : Nat), i + d = m.length → ∀ out : List (T 7), out.length ≤ i →
    Ev (fun k => steeplelaw02_of.l0 k (m.map elS) (j : Int) (out.map elS) (i : Int)) ((j : Int), (out ++ (m.drop i).map (cutE j)).map elS)
  | 0, i, h, out, _ => by
    refine Ev.succ ?_
    simp only [steeplelaw02_of.l0]
    refine Ev.neg (by rw [List.length_map]; omega) ?_
    rw [List.drop_of_length_le (by omega), List.map_nil, List.append_nil]
    exact Ev.now _
  | d + 1, i, h, out, ho => by
    refine Ev.succ ?_
    simp only [steeplelaw02_of.l0]
    have hi : i < m.length := by omega
    refine Ev.pos (by rw [List.length_map]; omega) (Ev.pos (by omega) ?_)
    rw [rd_elS hi, wrap_succ i (by omega), wrap_u64 j (by omega), elS_f0, elS_f1]
    have e : (out ++ (m.drop i).map (cutE j)).map elS = ((out ++ [cutE j m[i]]) ++ (m.drop (i + 1)).map (cutE j)).map elS := by
      rw [List.drop_eq_getElem_cons hi, List.map_cons, List.append_assoc]
      rfl
    have nx := of_l0 hj m hm d (i + 1) (by omega) (out ++ [cutE j m[i]]) (by rw [List.length_append]; show out.length + 1 ≤ i + 1; omega)
    rw [e]
    have e2 : ∀ s : S24, s = elS (cutE j m[i]) → out.map elS ++ [s] = (out ++ [cutE j m[i]]).map elS := fun s hs => by
      rw [List.map_append, hs]
      rfl
    by_cases h7 : j < 7
    · refine Ev.pos (by omega) ?_
      by_cases h6 : j < 6
      · refine Ev.pos (by omega) (Ev.pos (by omega) (Ev.pos (by rw [List.length_map]; omega) ?_))
        rw [e2 _ (cut_low h6 m[i])]
        exact nx
      · obtain rfl : j = 6 := by omega
        refine Ev.neg (by omega) (Ev.pos (by rw [List.length_map]; omega) ?_)
        rw [e2 _ (cut_6 m[i])]
        exact nx
    · obtain rfl : j = 7 := by omega
      refine Ev.neg (by omega) (Ev.neg (by omega) (Ev.pos (by rw [List.length_map]; omega) ?_))
      rw [e2 _ (cut_7 m[i])]
      exact nx
theorem of_ev {a : Int} (ha : (Lit.int .i64 a).wf = true) (m : List (T 7)) (hm : m.length < 1000) : Ev (fun k => steeplelaw02_of.f k a (m.map elS)) ((lev a : Int), (m.map (cutE (lev a))).map elS) := by
  unfold steeplelaw02_of.f
  rw [lev_eq ha]
  have := of_l0 (lev_le a) m hm m.length 0 (by omega) [] (by decide)
  rw [List.drop_zero, List.nil_append] at this
  exact this

end Go.Proofs.Ytbjjjdallodbgaa.Br
