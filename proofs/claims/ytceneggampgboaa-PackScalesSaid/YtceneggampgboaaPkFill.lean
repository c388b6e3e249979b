/- A vector of one element again and again, on bits. Conditions: those that each theorem names. -/
import Derived.Test.YtceneggampgboaaPkRef
import Derived.Test.YtceneggampgboaaPx19
set_option linter.unusedVariables false
set_option linter.unusedSimpArgs false
namespace Go.Proofs.Ytceneggampgboaa.Br
open Go.RowKit Go.Proofs.YtceneggampgboaaT Go.Proofs.Ytceneggampgboaa.P Go.Proofs.YtceneggampgboaaW.PrintWords Go.Proofs.YtceneggampgboaaW.PrintLast Go.Proofs.YtceneggampgboaaW.PrintMore
theorem rep_l0 (n : Nat) : ∀ d c : Nat, n - c ≤ d → c ≤ n → (n = 0 ∨ 0 < c) → Ev (fun k => api_Elem.l0 k c n) ()
  | 0, c, h, hc, _ => by
    refine Ev.succ ?_
    simp only [api_Elem.l0]
    exact Ev.neg (by omega) (Ev.now _)
  | d + 1, c, h, hc, h0 => by
    refine Ev.succ ?_
    simp only [api_Elem.l0]
    by_cases hlt : c < n
    · exact Ev.pos hlt (rep_l0 n d _ (by omega) (by omega) (by omega))
    · exact Ev.neg hlt (Ev.now _)
theorem rep_ev (x : T 7) {n : Nat} (hn : n ≤ 65536) : Ev (fun k => api_Elem.f k [(⟨hiW x, loW x⟩ : S25)] (n : Int)) ((List.replicate n x).map elS) := by
  unfold api_Elem.f
  refine Ev.pos rfl (Ev.pos (by omega) (Ev.pos (by omega) ?_))
  rw [Int.toNat_natCast]
  refine Ev.bind (rep_l0 n n (min 1 n) (by omega) (by omega) (by omega)) ?_
  rw [List.map_replicate]
  exact Ev.now _
theorem ask_neg (a : Int) {n : Int} (h : n < 0) : Ev (fun k => pack_ask.f k a n) 1 := by
  unfold pack_ask.f
  by_cases h0 : a < 0
  · refine Ev.pos h0 (Ev.succ ?_)
    simp only [pack_ask.j0]
    exact Ev.pos trivial (Ev.now _)
  · refine Ev.neg h0 ?_
    by_cases h6 : a > 6
    · refine Ev.pos h6 (Ev.succ ?_)
      simp only [pack_ask.j0]
      exact Ev.pos trivial (Ev.now _)
    · refine Ev.neg h6 (Ev.succ ?_)
      simp only [pack_ask.j0]
      exact Ev.pos (decide_eq_true h) (Ev.now _)
theorem Fill_neg (a : Int) {n : Int} (h : n < 0) (x : T 7) : Ev (fun k => pack_Fill.f k a n (hiW x) (loW x)) ((0 : Int), (0 : Int), ([] : List Int), (1 : Int)) := by
  unfold pack_Fill.f
  exact Ev.bind (ask_neg a h) (Ev.neg (by decide) (Ev.now _))
theorem Fill_err {a : Int} {n : Nat} (h : askE a n ≠ 0) (x : T 7) : Ev (fun k => pack_Fill.f k a (n : Int) (hiW x) (loW x)) ((0 : Int), (0 : Int), ([] : List Int), askE a n) := by
  unfold pack_Fill.f
  exact Ev.bind (ask_ev a n) (Ev.neg h (Ev.now _))
theorem Fill_ok {j n : Nat} (hj : j ≤ 6) (hn : n ≤ 65536) {x : T 7} (hx : n = 0 ∨ InL j x) :
    Ev (fun k => pack_Fill.f k (j : Int) (n : Int) (hiW x) (loW x)) ((j : Int), (n : Int), wordsB (lb j (List.replicate n x)) (sz j n), (0 : Int)) := by
  unfold pack_Fill.f
  refine Ev.bind (ask_ev _ _) (Ev.pos (by unfold askE; rw [if_neg (by omega), if_neg (by omega)]) ?_)
  refine Ev.bind (rep_ev x hn) ?_
  have := Make_ok hj (List.replicate n x) (by rw [List.length_replicate]; exact hn) (fun y hy => by
    obtain ⟨h1, rfl⟩ := List.mem_replicate.1 hy
    rcases hx with hx | hx
    · exact absurd hx h1
    · exact hx)
  rw [List.length_replicate] at this
  exact Ev.bind this (Ev.now _)
theorem Fill_bad {j n : Nat} (hj : j ≤ 6) (hn : n ≤ 65536) (h0 : 0 < n) {x : T 7} (hx : ¬ InL j x) :
    Ev (fun k => pack_Fill.f k (j : Int) (n : Int) (hiW x) (loW x)) ((0 : Int), (0 : Int), ([] : List Int), (5 : Int)) := by
  unfold pack_Fill.f
  refine Ev.bind (ask_ev _ _) (Ev.pos (by unfold askE; rw [if_neg (by omega), if_neg (by omega)]) ?_)
  refine Ev.bind (rep_ev x hn) ?_
  have := Make_bad hj (List.replicate n x) (by rw [List.length_replicate]; exact hn) (m := 0) (by rw [List.length_replicate]; exact h0) (by rw [List.getElem_replicate]; exact hx) (fun i _ hi => absurd hi (Nat.not_lt_zero i))
  exact Ev.bind this (Ev.now _)
theorem el_rep {j n i : Nat} (hj : j ≤ 7) {x : T 7} (hx : InL j x) (hi : i < n) : el j (lb j (List.replicate n x)) i = x := by
  rw [el_lb hj (fun y hy => by obtain ⟨_, rfl⟩ := List.mem_replicate.1 hy; exact hx) (by rw [List.length_replicate]; exact hi), List.getElem_replicate]
theorem InL_of {j : Nat} {x : T 7} (h : ofB (j : Int) x = true) : InL j x := by
  obtain ⟨j', e, _, h1⟩ := ofB_iff.1 h
  obtain rfl : j = j' := by omega
  exact h1
end Go.Proofs.Ytceneggampgboaa.Br
