/- copy(v[o:], ys) onto a row of one's own, whose elements hold no rows: its elements from place o on are ys' then. Conditions: those that each theorem names. -/
import Derived.Test.YtceneggampgboaaX
import Derived.Laws.CopyRow
set_option linter.unusedVariables false
set_option linter.unusedSimpArgs false
namespace Go.Proofs.Ytceneggampgboaa.H
open Go.RowKit Go.Proofs.YtceneggampgboaaW.PrintWords Go.Proofs.YtceneggampgboaaW.PrintWords.Kd
variable {P : Program} {α : Type} {d : Kd α}
/-- The first k elements of a row that is read, as cells. -/
theorem cells_of_C {W : World} {A : Option Addr} {m : Nat} {ys : List α} (h : d.C W A m ys) {ad : Addr} (hA : A = some ad) : ∀ k, k ≤ m →
    ∃ cs, Reps (d.K W) d.sz (ys.take k) cs ∧ cs.length = k * d.sz ∧ (∀ u ∈ cs, u.oneCell' = true) ∧ ∀ j u, cs[j]? = some u → W.cell? (ad.add j) = some u
  | 0, _ => ⟨[], by simpa using Reps.none (d.K W) d.sz, by simp, by simp, by simp⟩
  | k + 1, hk => by
    obtain ⟨cs, h1, h2, h3, h4⟩ := cells_of_C h hA k (by omega)
    have hl : k < ys.length := by have := h.1; omega
    obtain ⟨ad', e, hc⟩ := h.2.2 (by omega)
    obtain rfl : ad = ad' := by rw [hA] at e; injection e
    obtain ⟨c, hs, hr, hcell⟩ := hc k ys[k] (List.getElem?_eq_getElem hl)
    refine ⟨cs ++ c, ?_, ?_, ?_, ?_⟩
    · rw [List.take_succ_eq_append_getElem hl]
      exact h1.snoc hr hs
    · rw [List.length_append, h2, hs, Nat.add_mul, Nat.one_mul]
    · intro u hu
      rcases List.mem_append.1 hu with hu | hu
      · exact h3 u hu
      · exact d.K_one hr u hu
    · intro j u hj
      rcases Nat.lt_or_ge j cs.length with hlt | hge
      · rw [List.getElem?_append_left hlt] at hj
        exact h4 j u hj
      · rw [List.getElem?_append_right hge] at hj
        have := hcell (j - cs.length) u hj
        rwa [← h2, show cs.length + (j - cs.length) = j by omega] at this
theorem run_copy_k (w : World) (dT sT ty elem : TypeId) (g o dLen dCap : Nat) (a : Addr) (sLen sCap s : Nat) (cur : Array Value) (t : TypeId) (cs : List Value)
    (hu : P.underlying dT = some (.slice elem)) (hs : (P.info? elem).map (·.size) = some s)
    (hg : w.heap[g]? = some (.cells cur t (0, 0))) (hn : cs.length = Nat.min sLen dLen * s)
    (hsrc : ∀ j v, cs[j]? = some v → w.cell? (a.add j) = some v) (hfit : o + cs.length ≤ cur.size) (h1 : ∀ v ∈ cs, v.oneCell' = true) :
    (Builtin.copy_ #[dT, sT] ty #[.slice (some ⟨g, o, none⟩) dLen dCap, .slice (some a) sLen sCap]).run P w =
      .ok (goInt ((Nat.min sLen dLen : Nat) : Int)) (w.setRow g (cur.toList.take o ++ cs ++ cur.toList.drop (o + cs.length)).toArray) := by
  have hl := run_loadCells_list (P := P) w a cs hsrc
  have hst := run_storeCells_at P g o t cs 0 cur w hg (by simpa using hfit) h1
  cases hq : P.info? elem with
  | none => simp [hq] at hs
  | some i =>
    have hi : i.size = s := by simpa [hq] using hs
    simp [Builtin.copy_, run_underlying hu, Builtin.lenOf, Builtin.firstCells, sizeOf, typeInfo, hq, hi, ← hn, hl, hst]
theorem R_copy_run (KM : ∀ {w w' : World} {base : Nat} {ok : Nat → Prop} {x : α} {cs : List Value}, d.K w x cs → d.M w' base ok x cs) {w0 W : World} (base : Nat) (t t' ty e : TypeId) (ht : P.underlying t = some (.slice e)) (hinfo : (P.info? e).map (·.size) = some d.sz)
    {g cap o n' c' m c nx : Nat} {xs ys : List α} {ad : Addr} {ok : Nat → Prop} (hnx : xs.length = nx) (HO : d.R e W base ok (.slice (some ⟨g, 0, none⟩) nx cap) xs) (hn : o + n' = nx) (HR : d.C W (some ad) m ys) (HB : Below base w0 W) (hbase : base ≤ W.heap.size) :
    ∃ w1, (Builtin.copy_ #[t, t'] ty #[.slice (some ⟨g, o * d.sz, none⟩) n' c', .slice (some ad) m c]).run P W = .ok (goInt ((min m n' : Nat) : Int)) w1 ∧
      d.R e w1 base ok (.slice (some ⟨g, 0, none⟩) nx cap) (xs.take o ++ ys.take (min m n') ++ xs.drop (o + min m n')) ∧ Below base w0 w1 ∧ W.grownBy w1 (some g) := by
  subst hnx
  obtain ⟨h0, inner, hown, hrep⟩ := HO
  have hlt : base ≤ g := own_base hown g (by simp [Value.ownBlock])
  obtain ⟨hlen, hf⟩ := hown
  rcases hf with ⟨hv, _⟩ | ⟨g', cap', cur, hv, hb, hh, hnc, hcm, hcs, htake⟩
  · cases hv
  · obtain ⟨rfl, rfl⟩ : g = g' ∧ cap = cap' := by simpa using hv
    obtain ⟨cs, r1, r2, r3, r4⟩ := cells_of_C HR rfl (min m n') (Nat.min_le_left _ _)
    have hfit : o * d.sz + cs.length ≤ xs.length * d.sz := by
      rw [r2, ← Nat.add_mul]
      exact Nat.mul_le_mul_right _ (by omega)
    have hsz : xs.length * d.sz ≤ cap * d.sz := Nat.mul_le_mul_right _ hnc
    have run := run_copy_k (P := P) W t t' ty e g (o * d.sz) n' c' ad m c d.sz cur e cs ht hinfo hh r2 r4 (by omega) r3
    have hgr : W.grownBy (W.setRow g (cur.toList.take (o * d.sz) ++ cs ++ cur.toList.drop (o * d.sz + cs.length)).toArray) (some g) :=
      ⟨rfl, rfl, rfl, by rw [setRow_size]; exact Nat.le_refl _, fun k _ hk => setRow_other W g k _ (fun he => hk (by rw [he]))⟩
    refine ⟨_, run, ⟨h0, inner.take (o * d.sz) ++ cs ++ inner.drop ((o + min m n') * d.sz), ?_, ?_⟩, HB.grown hgr hbase (fun k hk => by injection hk with hk; omega), hgr⟩
    · have hl : (xs.take o ++ ys.take (min m n') ++ xs.drop (o + min m n')).length = xs.length := by
        have := HR.1
        simp only [List.length_append, List.length_take, List.length_drop]
        omega
      have hcl : cur.toList.length = cap * d.sz := by rw [Array.length_toList, hcs]
      have hq : (o + min m n') * d.sz = o * d.sz + cs.length := by rw [r2, Nat.add_mul]
      rw [hl]
      refine ⟨?_, .inr ⟨g, cap, _, rfl, hb, setRow_heap W g cur _ e (0, 0) hh, hnc, hcm, ?_, ?_⟩⟩
      · rw [List.length_append, List.length_append, List.length_take, List.length_drop, hlen, hq]
        omega
      · rw [List.size_toArray, List.length_append, List.length_append, List.length_take, List.length_drop, hcl]
        omega
      · show ((cur.toList.take (o * d.sz) ++ cs ++ cur.toList.drop (o * d.sz + cs.length))).take (xs.length * d.sz) = _
        rw [hq, ← htake, List.take_take, Nat.min_eq_left (by omega), List.take_append, List.length_append, List.length_take, hcl, Nat.min_eq_left (by omega : o * d.sz ≤ cap * d.sz), List.take_of_length_le (by rw [List.length_append, List.length_take, hcl]; omega), List.drop_take]
    · refine reps_append (reps_append ?_ (r1.imp_ fun _ _ h => KM h)) ?_
      · exact (reps_take hrep (by omega)).imp_ fun _ _ h => KM (d.K_of_M h)
      · exact (reps_drop hrep).imp_ fun _ _ h => KM (d.K_of_M h)
theorem R_at {e : Nat} {w : World} {base b : Nat} {ok : Nat → Prop} {v : Value} {xs : List α} (h : d.R e w base ok v xs) (hb : v.ownBlock = some b) : ∃ cap, v = .slice (some ⟨b, 0, none⟩) xs.length cap ∧ xs.length ≤ cap ∧ cap ≤ maxLen := by
  obtain ⟨_, inner, ⟨_, hf⟩, _⟩ := h
  rcases hf with ⟨rfl, _⟩ | ⟨g, cap, cur, rfl, _, _, hc, hm, _⟩
  · simp [Value.ownBlock] at hb
  · obtain rfl : g = b := by simpa [Value.ownBlock] using hb
    exact ⟨cap, rfl, hc, hm⟩
/-- The same, as an event of a walk. -/
theorem R_copy_event {ops : Array Oper} {rest : List Oper} {o : Oper} {a : Act} {Q : Exit → Act → World → Prop}
    (KM : ∀ {w w' : World} {base : Nat} {ok : Nat → Prop} {x : α} {cs : List Value}, d.K w x cs → d.M w' base ok x cs) {w0 W : World} (base : Nat) (hgd : o.guard = none) (s x : Operand) (t t' e : TypeId)
    (ho : o.op = .call { callee := .builtin .copy, args := #[s, x], argTypes := #[t, t'] }) (ht : P.underlying t = some (.slice e)) (hinfo : (P.info? e).map (·.size) = some d.sz)
    {g cap p n' c' m c nx : Nat} {xs ys : List α} {ad : Addr} {ok : Nat → Prop} (hnx : xs.length = nx) (hs : a.eval s = .slice (some ⟨g, p * d.sz, none⟩) n' c') (hx : a.eval x = .slice (some ad) m c)
    (HO : d.R e W base ok (.slice (some ⟨g, 0, none⟩) nx cap) xs) (hn : p + n' = nx) (HR : d.C W (some ad) m ys) (HB : Below base w0 W) (hbase : base ≤ W.heap.size)
    (h : ∀ w1, d.R e w1 base ok (.slice (some ⟨g, 0, none⟩) nx cap) (xs.take p ++ ys.take (min m n') ++ xs.drop (p + min m n')) → Below base w0 w1 → W.grownBy w1 (some g) → wpList P ops Q rest (a.put o.dst (.int .i64 ((min m n' : Nat) : Int))) w1) :
    wpList P ops Q (o :: rest) a W := by
  obtain ⟨w1, hr, h1, h2, h3⟩ := R_copy_run (P := P) KM base t t' o.type e ht hinfo hnx HO hn HR HB hbase (c' := c') (c := c)
  refine wpList_plain hgd fun K hK => ?_
  unfold Oper.wp execOp
  simp only [ho, resolve, invoke, builtin, Sem.run_bind, Sem.run_pure, Result.andThen_ok, List.map_toArray, List.map_cons, List.map_nil, hs, hx, hr]
  exact hK _ _ (h w1 h1 h2 h3)
/-- The same, in a region of open order. -/
theorem R_copy_oper {o : Oper} {a : Act} {K : Act → World → Prop} {Q : Exit → Act → World → Prop} {w w1 : World} {vs vx v : Value} (s x : Operand) (t t' : TypeId) (ho : o.op = .call { callee := .builtin .copy, args := #[s, x], argTypes := #[t, t'] })
    (hs : a.eval s = vs) (hx : a.eval x = vx) {N : Option Tmp} (hN : o.dst = N) {ty : TypeId} (hty : o.type = ty) (hr : (Builtin.copy_ #[t, t'] ty #[vs, vx]).run P w = .ok v w1) (h : K (a.put N v) w1) : Oper.wp P o a w K Q := by
  subst hN hty
  unfold Oper.wp execOp
  simp only [ho, resolve, invoke, builtin, Sem.run_bind, Sem.run_pure, Result.andThen_ok, List.map_toArray, List.map_cons, List.map_nil, hs, hx, hr]
  exact h
end Go.Proofs.Ytceneggampgboaa.H
