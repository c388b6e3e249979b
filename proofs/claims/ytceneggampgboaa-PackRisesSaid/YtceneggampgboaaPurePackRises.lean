/- The same words are the level above, two by two, and the level below; they lead back and forth; sums rise to sums. Conditions: none but the arguments' kinds. -/
import Derived.Test.YtceneggampgboaaPkRise
import Derived.Test.YtceneggampgboaaPk03
import Derived.Test.YtceneggampgboaaPx17
set_option linter.unusedVariables false
namespace Go.Proofs.Ytceneggampgboaa.Pure
open Go.RowKit Go.Proofs.YtceneggampgboaaT Go.Proofs.Ytceneggampgboaa.P Go.Proofs.Ytceneggampgboaa.Br Go.Proofs.YtceneggampgboaaW.PrintWords Go.Proofs.YtceneggampgboaaW.PrintLast Go.Proofs.YtceneggampgboaaW.PrintMore
theorem szl (b : Nat → Bool) {j n : Nat} (hn : n ≤ 400) : (wordsB b (sz j n)).length ≤ 2 ^ 40 := by
  have := sz_le j n
  rw [wordsB_length]
  omega
/-- The end where the level below is told of. -/
theorem Rises_j1 {j n : Nat} (hj : j < 6) (hn : n ≤ 200) {b : Nat → Bool} (hb : Zb (j + 1) n b) :
    Ev (fun k => steeplelaw03_PackRises.j1 k 0 ((j + 1 : Nat) : Int) ((els (j + 1) b n).map elR) (j : Int) ((2 * n : Nat) : Int) (wordsB b (sz (j + 1) n))) true := by
  refine Ev.succ ?_
  simp only [steeplelaw03_PackRises.j1]
  refine Ev.pos trivial ?_
  refine Ev.bind (Rise_ev hj (by omega) (szl b (by omega))) ?_
  refine Ev.bind awake_ev (Ev.pos rfl (Ev.pos rfl ?_))
  exact Ev.bind (same_ev (by omega) (by omega) b hb) (Ev.now _)
theorem Rises_j1' {g : Int} (hg : g ≠ 0) (a : Int) (l : List S44) (p q : Int) (w : List Int) : Ev (fun k => steeplelaw03_PackRises.j1 k g a l p q w) true := by
  refine Ev.succ ?_
  simp only [steeplelaw03_PackRises.j1]
  refine Ev.neg hg ?_
  exact Ev.bind awake_ev (Ev.now _)
/-- The level below, both ways of telling it: what is gone on with. -/
theorem fall_any {j n : Nat} (hj : j ≤ 6) (hn : n ≤ 200) {b : Nat → Bool} (hb : Zb j n b) :
    ∃ (p q : Nat) (w : List Int) (l : List S44) (g : Int), Ev (fun k => pack_Fall.f k (j : Int) (n : Int) (wordsB b (sz j n))) ((p : Int), (q : Int), w, g) ∧ Ev (fun k => steepleref03_Fall.f k (j : Int) ((els j b n).map elR)) ((p : Int), l, g) ∧
      Ev (fun k => steeplelaw03_same.f k (p : Int) (q : Int) w (p : Int) l) true ∧ Ev (fun k => steeplelaw03_PackRises.j1 k g (j : Int) ((els j b n).map elR) (p : Int) (q : Int) w) true := by
  cases j with
  | zero =>
    have s0 := same_ev (j := 0) (n := 0) (by omega) (by omega) (fun _ => false) (fun _ _ => rfl)
    rw [wordsB_zero] at s0
    exact ⟨0, 0, [], [], 6, Fall_err _, refFall_err _, s0, Rises_j1' (by decide) _ _ _ _ _⟩
  | succ j =>
    have h6 : j < 6 := by omega
    have e : sz (j + 1) n = sz j (2 * n) := sz_up h6 n
    refine ⟨j, 2 * n, wordsB b (sz (j + 1) n), (els j b (2 * n)).map elR, 0, Fall_ev h6 (by omega) (szl b (by omega)), refFall_ev h6 (by omega) b, ?_, Rises_j1 h6 hn hb⟩
    rw [e]
    exact same_ev (by omega) (by omega) b (Zb_down hb)
theorem Rises_j0 {g : Int} {j m : Nat} (hj : j < 6) (hm : m ≤ 100) {b c : Nat → Bool} {l : List S44} {p q : Int} {w : List Int}
    (h1 : Ev (fun k => steeplelaw03_PackRises.j1 k g (j : Int) l p q w) true) :
    Ev (fun k => steeplelaw03_PackRises.j0 k g true (j : Int) l ((j + 1 : Nat) : Int) (m : Int) (wordsB b (sz j (2 * m))) p q w (j : Int) ((2 * m : Nat) : Int) (wordsB (xorB b c) (sz j (2 * m))) ((j + 1 : Nat) : Int) (m : Int) (wordsB c (sz j (2 * m)))) true := by
  refine Ev.succ ?_
  simp only [steeplelaw03_PackRises.j0]
  refine Ev.pos trivial ?_
  refine Ev.bind (Rise_ev hj (by omega) (szl _ (by omega))) ?_
  rw [← sz_up hj]
  refine Ev.bind (Add_ev (by omega) b c) ?_
  refine Ev.pos rfl (Ev.pos rfl ?_)
  refine Ev.bind (Elems_ev (by omega) (by omega) _) ?_
  refine Ev.bind (Elems_ev (by omega) (by omega) _) ?_
  refine Ev.bind (Ref_ev _ (by rw [els_length]; omega)) ?_
  exact Ev.bind (Same_ev _ (by rw [els_length]; omega)) (Ev.pos rfl h1)
theorem Rises_j0' {g : Int} {a : Int} {l : List S44} {u0 u1 : Int} {u2 : List Int} {p q : Int} {w : List Int} {s0 s1 : Int} {s2 : List Int} {t0 t1 : Int} {t2 : List Int}
    (h1 : Ev (fun k => steeplelaw03_PackRises.j1 k g a l p q w) true) :
    Ev (fun k => steeplelaw03_PackRises.j0 k g false a l u0 u1 u2 p q w s0 s1 s2 t0 t1 t2) true := by
  refine Ev.succ ?_
  simp only [steeplelaw03_PackRises.j0]
  exact Ev.neg (by decide) h1
theorem rise_any {j n : Nat} (hj : j ≤ 6) (hn : n ≤ 200) {l : List Int} (hl : l.length ≤ 2 ^ 40) : ∃ (p q : Int) (w : List Int) (g : Int), Ev (fun k => pack_Rise.f k (j : Int) (n : Int) l) (p, q, w, g) := by
  by_cases h : j = 6 ∨ n % 2 = 1
  · exact ⟨_, _, _, _, Rise_err h l⟩
  · obtain ⟨m, rfl⟩ : ∃ m, n = 2 * m := ⟨n / 2, by omega⟩
    exact ⟨_, _, _, _, Rise_ev (show j < 6 by omega) (by omega) hl⟩
theorem PackRises : steeplelaw03_PackRises.Pure := by
  intro x ⟨h1, h2, ⟨_, _, h3⟩, ⟨_, _, h4⟩⟩
  obtain ⟨L, e3⟩ := elS_of h3
  obtain ⟨L', e4⟩ := elS_of h4
  rw [e3, e4]
  generalize x.f0 = a
  generalize x.f1 = a'
  refine Ev.rounds ?_
  unfold steeplelaw03_PackRises.f
  rcases made_ev a a' L L' with ⟨v, w, hm⟩ | ⟨j, j', rfl, rfl, hj, hj', hl, hl', hin, hin', hm⟩
  · refine Ev.bind hm (Ev.neg (by show ¬ (false = true); decide) ?_)
    exact Ev.bind awake_ev (Ev.now _)
  · refine Ev.bind hm (Ev.pos rfl ?_)
    refine Ev.bind (Ref_ev L (by omega)) ?_
    have eL : L.map elR = (els j (lb j L) L.length).map elR := by rw [els_lb (by omega) hin]
    rw [eL]
    have hb := Zb_lb j L
    have hc := Zb_lb j' L'
    generalize lb j L = b at hb ⊢
    generalize lb j' L' = c at hc ⊢
    generalize L.length = n at hb hl ⊢
    generalize L'.length = n' at hc hl' ⊢
    obtain ⟨p, q, w, l, g, f1, f2, f3, f4⟩ := fall_any hj hl hb
    by_cases h : j = 6 ∨ n % 2 = 1
    · refine Ev.bind (Rise_err h _) ?_
      refine Ev.bind (refRise_err h b) ?_
      refine Ev.bind f1 (Ev.bind f2 ?_)
      refine Ev.pos rfl ?_
      have s0 := same_ev (j := 0) (n := 0) (by omega) (by omega) (fun _ => false) (fun _ _ => rfl)
      rw [wordsB_zero] at s0
      refine Ev.bind s0 (Ev.pos rfl (Ev.pos rfl ?_))
      refine Ev.bind f3 (Ev.pos rfl (Ev.neg (by decide) ?_))
      exact f4
    · obtain ⟨m, rfl⟩ : ∃ m, n = 2 * m := ⟨n / 2, by omega⟩
      have h6 : j < 6 := by omega
      have e := sz_up h6 m
      refine Ev.bind (Rise_ev h6 (by omega) (szl b (by omega))) ?_
      refine Ev.bind (refRise_ev h6 (by omega) b) ?_
      refine Ev.bind f1 (Ev.bind f2 ?_)
      refine Ev.pos rfl ?_
      have s1 := same_ev (j := j + 1) (n := m) (by omega) (by omega) b (Zb_up hb)
      rw [e] at s1
      refine Ev.bind s1 (Ev.pos rfl (Ev.pos rfl ?_))
      refine Ev.bind f3 (Ev.pos rfl (Ev.pos rfl ?_))
      refine Ev.bind (Fall_ev h6 (by omega) (szl b (by omega))) (Ev.pos rfl ?_)
      refine Ev.bind (same_ev hj (by omega) b hb) (Ev.pos rfl ?_)
      by_cases hs : j = j' ∧ 2 * m = n'
      · obtain ⟨rfl, rfl⟩ := hs
        refine Ev.bind (Add_ev (by omega) b c) ?_
        refine Ev.bind (Rise_ev h6 (by omega) (szl c (by omega))) ?_
        exact Ev.pos rfl (Rises_j0 h6 (by omega) f4)
      · refine Ev.bind (Add_err hs) ?_
        obtain ⟨p', q', w', g', hr⟩ := rise_any hj' hl' (szl c (j := j') (n := n') (by omega))
        refine Ev.bind hr ?_
        exact Ev.neg (by show ¬ ((6 : Int) = 0); decide) (Rises_j0' f4)
end Go.Proofs.Ytceneggampgboaa.Pure
