/- The weights of values at the places (line.weights): an array of nine elements, filled one by one. Conditions: the count of values is one that the array has. -/
import Derived.Test.YthnaalocgoeddaaPx0
import Derived.Laws.CopyOwn
import Derived.Test.YthnaalocgoeddaaPx4
import Derived.Test.YthnaalocgoeddaaPx5
import Derived.Test.YthnaalocgoeddaaPx6
set_option linter.unusedVariables false
set_option linter.unusedSimpArgs false
namespace Go.Proofs.Ythnaalocgoeddaa.P
open Go.RowKit Go.Proofs.YthnaalocgoeddaaX Go.Proofs.YthnaalocgoeddaaW.PrintWords Go.Proofs.YthnaalocgoeddaaW.PrintLast Go.Proofs.YthnaalocgoeddaaW.PrintMore
attribute [local go_sem] max2_int min2_int max_two min_two max_three min_three max_four min_four   -- for this text's walks alone
/-- Elements, as cells. -/
def arrC (ws : List S28) : Array Value := (ws.flatMap fun x => [Value.int .u64 x.f0, Value.int .u64 x.f1]).toArray
theorem arrC_size : ∀ ws : List S28, (arrC ws).size = ws.length * 2
  | [] => rfl
  | x :: l => by
    have ih := arrC_size l
    simp only [arrC, List.flatMap_cons, List.size_toArray, List.length_append, List.length_cons, List.length_nil] at ih ⊢
    omega
theorem arrC_one (ws : List S28) : (arrC ws).all (·.oneCell') = true := by
  rw [Array.all_eq_true_iff_forall_mem]
  intro v hv
  simp only [arrC, List.mem_toArray, List.mem_flatMap, List.mem_cons, List.not_mem_nil, or_false] at hv
  obtain ⟨x, _, rfl | rfl⟩ := hv <;> rfl
theorem arr_info : (Try.prog.info? 58).map (·.size) = some 18 := by kernel_rfl
theorem arrC_get : ∀ (ws : List S28) (i : Nat) (h : i < ws.length), (arrC ws)[i * 2]? = some (.int .u64 (ws[i]).f0) ∧ (arrC ws)[i * 2 + 1]? = some (.int .u64 (ws[i]).f1)
  | x :: l, 0, _ => ⟨by simp [arrC], by simp [arrC]⟩
  | x :: l, i + 1, h => by
    have ih := arrC_get l i (by simpa using h)
    simp only [arrC, List.flatMap_cons, List.getElem?_toArray] at ih ⊢
    refine ⟨?_, ?_⟩
    · rw [show (i + 1) * 2 = i * 2 + 2 by omega, List.getElem?_append_right (by simp)]
      simpa using ih.1
    · rw [show (i + 1) * 2 + 1 = i * 2 + 1 + 2 by omega, List.getElem?_append_right (by simp)]
      simpa using ih.2
theorem arrC_set : ∀ (ws : List S28) (i : Nat) (x : S28), ((arrC ws).setIfInBounds (i * 2) (.int .u64 x.f0)).setIfInBounds (i * 2 + 1) (.int .u64 x.f1) = arrC (ws.set i x)
  | [], i, x => by simp [arrC]
  | y :: l, 0, x => by simp [arrC]
  | y :: l, i + 1, x => by
    have ih := arrC_set l i x
    simp only [arrC, List.flatMap_cons, List.setIfInBounds_toArray, List.set_cons_succ] at ih ⊢
    have ih := congrArg Array.toList ih
    simp only at ih
    rw [show (i + 1) * 2 = i * 2 + 1 + 1 by omega]
    simp only [List.cons_append, List.nil_append, List.set_cons_succ]
    rw [ih]
theorem arr_at {w : World} {g : Nat} {t : TypeId} {ws : List S28} (h : w.heap[g]? = some (.cells (arrC ws) t (0, 0))) {i : Nat} (hi : i < ws.length) :
    w.cell? ⟨g, i * 2, none⟩ = some (.int .u64 (ws[i]).f0) ∧ w.cell? ⟨g, i * 2 + 1, none⟩ = some (.int .u64 (ws[i]).f1) :=
  ⟨(blk_cell h _).trans (arrC_get ws i hi).1, (blk_cell h _).trans (arrC_get ws i hi).2⟩
theorem arr_put {w : World} {g : Nat} {t : TypeId} {ws : List S28} (h : w.heap[g]? = some (.cells (arrC ws) t (0, 0))) {i : Nat} (hi : i < ws.length) (a b : Int) :
    ((w.setCell ⟨g, i * 2, none⟩ (.int .u64 a)).setCell ⟨g, i * 2 + 1, none⟩ (.int .u64 b)).heap[g]? = some (.cells (arrC (ws.set i ⟨a, b⟩)) t (0, 0)) := by
  have := blk_put (blk_put h (i * 2) (.int .u64 a) rfl) (i * 2 + 1) (.int .u64 b) rfl
  rw [arrC_set ws i ⟨a, b⟩] at this
  exact this
/-! ### line_weights: function 27 -/
mutual
def line_weights.l0 : Nat → Int → Int → Int → Int → Int → Int → List S28 → Option (List S28)
 | 0, _, _, _, _, _, _, _ => none
 | k + 1, x0, x1, x13, x14, x192000, x192001, ws => if x14 < x13 then ((tower_One.f).bind fun bt194 => ((tower_One.f).bind fun bt196 => (line_weights.l1 k x0 x1 x14 x13 x14 (wrap64 (x1 + 1)) 0 x192000 x192001 ws bt194.1 bt194.2 bt196.1 bt196.2))) else (if ws.length = 9 then some ws else none)
def line_weights.l1 : Nat → Int → Int → Int → Int → Int → Int → Int → Int → Int → List S28 → Int → Int → Int → Int → Option (List S28)
 | 0, _, _, _, _, _, _, _, _, _, _, _, _, _, _ => none
 | k + 1, x0, x1, x8, x13, x14, x20, x21, x192000, x192001, ws, x199000, x199001, x200000, x200001 => if x21 < x20 then (if x21 = x8 then (line_weights.l1 k x0 x1 x8 x13 x14 x20 (wrap64 (x21 + 1)) x192000 x192001 ws x199000 x199001 x200000 x200001) else ((line_place.f x21).bind fun bt202 => ((tower_Add.f x192000 x192001 bt202.1 bt202.2).bind fun bt204 => ((tower_Mul.f k x0 x199000 x199001 bt204.1 bt204.2).bind fun bt206 => ((line_place.f x8).bind fun bt208 => ((line_place.f x21).bind fun bt210 => ((tower_Add.f bt208.1 bt208.2 bt210.1 bt210.2).bind fun bt212 => ((tower_Mul.f k x0 x200000 x200001 bt212.1 bt212.2).bind fun bt214 => (line_weights.l1 k x0 x1 x8 x13 x14 x20 (wrap64 (x21 + 1)) x192000 x192001 ws bt206.1 bt206.2 bt214.1 bt214.2))))))))) else (if ws.length = 9 then (if 0 ≤ x8 then (if x8 < 9 then ((tower_Div.f k x0 x199000 x199001 x200000 x200001).bind fun bt200 => (line_weights.l0 k x0 x1 x13 (wrap64 (x14 + 1)) x192000 x192001 (ws.set x8.toNat ⟨bt200.1, bt200.2⟩))) else none) else none) else none)
end
def line_weights.f (k : Nat) (a0 : Int) (a1 : Int) (a2_0 : Int) (a2_1 : Int) : Option (List S28) := line_weights.l0 k a0 a1 (wrap64 (a1 + 1)) 0 a2_0 a2_1 (List.replicate 9 ⟨0, 0⟩)
theorem line_weights.mono_l : ∀ k, (∀ y0 y1 y2 y3 y4 y5 ws, LeO (line_weights.l0 k y0 y1 y2 y3 y4 y5 ws) (line_weights.l0 (k + 1) y0 y1 y2 y3 y4 y5 ws)) ∧ (∀ y0 y1 y2 y3 y4 y5 y6 y7 y8 ws y9 y10 y11 y12, LeO (line_weights.l1 k y0 y1 y2 y3 y4 y5 y6 y7 y8 ws y9 y10 y11 y12) (line_weights.l1 (k + 1) y0 y1 y2 y3 y4 y5 y6 y7 y8 ws y9 y10 y11 y12))
 | 0 => ⟨fun _ _ _ _ _ _ _ r h => by simp [line_weights.l0] at h, fun _ _ _ _ _ _ _ _ _ _ _ _ _ _ r h => by simp [line_weights.l1] at h⟩
 | k + 1 => by
  obtain ⟨ih0, ih1⟩ := line_weights.mono_l k
  refine ⟨?_, ?_⟩
  ·intro y0 y1 y2 y3 y4 y5 ws
   unfold line_weights.l0
   repeat' first
   | (with_reducible exact ih0 _ _ _ _ _ _ _)
   | (with_reducible exact ih1 _ _ _ _ _ _ _ _ _ _ _ _ _ _)
   | (with_reducible exact tower_Div.mono _ _ _ _ _ _)
   | (with_reducible exact tower_Mul.mono _ _ _ _ _ _)
   | (with_reducible exact LeO.refl _)
   | (with_reducible exact LeO.none _)
   | (with_reducible refine LeO.ite ?_ ?_)
   | (with_reducible refine LeO.bind ?_ (fun _ => ?_))
   | exact ih0 _ _ _ _ _ _ _
   | exact ih1 _ _ _ _ _ _ _ _ _ _ _ _ _ _
   | exact tower_Div.mono _ _ _ _ _ _
   | exact tower_Mul.mono _ _ _ _ _ _
   | exact LeO.none _
   | refine LeO.ite ?_ ?_
   | refine LeO.bind ?_ (fun _ => ?_)
  ·intro y0 y1 y2 y3 y4 y5 y6 y7 y8 ws y9 y10 y11 y12
   unfold line_weights.l1
   repeat' first
   | (with_reducible exact ih0 _ _ _ _ _ _ _)
   | (with_reducible exact ih1 _ _ _ _ _ _ _ _ _ _ _ _ _ _)
   | (with_reducible exact tower_Div.mono _ _ _ _ _ _)
   | (with_reducible exact tower_Mul.mono _ _ _ _ _ _)
   | (with_reducible exact LeO.refl _)
   | (with_reducible exact LeO.none _)
   | (with_reducible refine LeO.ite ?_ ?_)
   | (with_reducible refine LeO.bind ?_ (fun _ => ?_))
   | exact ih0 _ _ _ _ _ _ _
   | exact ih1 _ _ _ _ _ _ _ _ _ _ _ _ _ _
   | exact tower_Div.mono _ _ _ _ _ _
   | exact tower_Mul.mono _ _ _ _ _ _
   | exact LeO.none _
   | refine LeO.ite ?_ ?_
   | refine LeO.bind ?_ (fun _ => ?_)
theorem line_weights.mono : ∀ a0 a1 a2 a3 k, LeO (line_weights.f k a0 a1 a2 a3) (line_weights.f (k + 1) a0 a1 a2 a3) := by
 intro a0 a1 a2 a3 k
 obtain ⟨ih0, ih1⟩ := line_weights.mono_l k
 unfold line_weights.f
 repeat' first
   | (with_reducible exact ih0 _ _ _ _ _ _ _)
   | (with_reducible exact ih1 _ _ _ _ _ _ _ _ _ _ _ _ _ _)
   | (with_reducible exact tower_Div.mono _ _ _ _ _ _)
   | (with_reducible exact tower_Mul.mono _ _ _ _ _ _)
   | (with_reducible exact LeO.refl _)
   | (with_reducible exact LeO.none _)
   | (with_reducible refine LeO.ite ?_ ?_)
   | (with_reducible refine LeO.bind ?_ (fun _ => ?_))
   | exact ih0 _ _ _ _ _ _ _
   | exact ih1 _ _ _ _ _ _ _ _ _ _ _ _ _ _
   | exact tower_Div.mono _ _ _ _ _ _
   | exact tower_Mul.mono _ _ _ _ _ _
   | exact LeO.none _
   | refine LeO.ite ?_ ?_
   | refine LeO.bind ?_ (fun _ => ?_)
def line_weights.T10 : Bool × List (List Nat × List Nat) := (true, [([], []), ([], []), ([], []), ([], []), ([3], [3]), ([2, 4, 4], [2, 4]), ([0, 1, 5, 5], [0, 1, 5]), ([6, 6, 0, 1, 2, 3, 4, 5, 6], [6])])
def line_weights.B10 : List Nat := [0, 0, 0, 0, 8, 28, 63, 127]
theorem line_weights.tab10 : rtab .any (opsOf Try.f27 10) = line_weights.T10 := by kernel_rfl
theorem line_weights.bits10 : waitsOk line_weights.T10.2 line_weights.B10 = true := by kernel_rfl
def line_weights.T11 : Bool × List (List Nat × List Nat) := (true, [([], []), ([], []), ([], []), ([2], [2]), ([], []), ([4, 3], [4]), ([3, 5, 5], [3, 5]), ([0, 1, 6, 6], [0, 1, 6]), ([7, 7, 0, 1, 2, 3, 4, 5, 6, 7], [7])])
def line_weights.B11 : List Nat := [0, 0, 0, 4, 0, 28, 60, 127, 255]
theorem line_weights.tab11 : rtab .any (opsOf Try.f27 11) = line_weights.T11 := by kernel_rfl
theorem line_weights.bits11 : waitsOk line_weights.T11.2 line_weights.B11 = true := by kernel_rfl
set_option maxHeartbeats 8000000 in
set_option maxRecDepth 100000 in
theorem line_weights.calls (k : Nat) (a0 : Int) (a1 : Int) (a2_0 : Int) (a2_1 : Int) (r : List S28) (w : World) (h : line_weights.f k a0 a1 a2_0 a2_1 = some r) :
  Calls Try.prog 27 #[.int .i64 a0, .int .i64 a1, .agg #[.int .u64 a2_0, .int .u64 a2_1]] w fun e w' => e = .returned (.agg (arrC r)) ∧ r.length = 9 ∧ Below w.heap.size w w' := by
 have hu28 := Try.underlying28
 have HB := Aside0.mk (Below.refl w.heap.size w)
 have H : (line_weights.l0 k a0 a1 (wrap64 (a1 + 1)) 0 a2_0 a2_1 (List.replicate 9 ⟨0, 0⟩)) = some r := h
 clear h
 have H' := Aside0.mk H
 clear H
 go_enter Try.func27, Try.ntmps27
 go_wp2_with (first | ((with_reducible refine gate_dst (N := 5) rfl ?_); refine box_event ?hg (N := 5) ?hd (cs := #[.int .u64 a2_0, .int .u64 a2_1]) (t := 28) ?hr ?_; (case hd => rfl); (case hg => rfl); (case hr => first | (go_simp; done) | (go_simp; rfl)); intro gb191 hg w4 hbox hb; have BK191 := Aside0.mk hbox; have GW191 := ge hg HB; have GE191 := ge hg HB; replace HB := bh HB hb; clear hb hbox hg) | ((with_reducible refine gate_dst (N := 6) rfl ?_); refine box_event ?hg (N := 6) ?hd (cs := #[.int .u64 0, .int .u64 0, .int .u64 0, .int .u64 0, .int .u64 0, .int .u64 0, .int .u64 0, .int .u64 0, .int .u64 0, .int .u64 0, .int .u64 0, .int .u64 0, .int .u64 0, .int .u64 0, .int .u64 0, .int .u64 0, .int .u64 0, .int .u64 0]) (t := 58) ?hr ?_; (case hd => rfl); (case hg => rfl); (case hr => first | (go_simp; done) | (go_simp; rfl)); intro gb192 hg w5 hbox hb; have BK192 := Aside0.mk hbox; have GW192 := ge hg HB; have GE192 := ge hg HB; have NB191_192 := nl hg BK191; have NB192_191 := ng hg BK191; replace BK191 := bb BK191 hb; replace HB := bh HB hb; clear hb hbox hg) | ((with_reducible refine gate_dst (N := 7) rfl ?_); refine box_event ?hg (N := 7) ?hd (cs := #[.int .u64 0, .int .u64 0, .int .u64 0, .int .u64 0, .int .u64 0, .int .u64 0, .int .u64 0, .int .u64 0, .int .u64 0, .int .u64 0, .int .u64 0, .int .u64 0, .int .u64 0, .int .u64 0, .int .u64 0, .int .u64 0, .int .u64 0, .int .u64 0]) (t := 58) ?hr ?_; (case hd => rfl); (case hg => rfl); (case hr => first | (go_simp; done) | (go_simp; rfl)); intro gb193 hg w6 hbox hb; have BK193 := Aside0.mk hbox; have GW193 := ge hg HB; have GE193 := ge hg HB; have NB191_193 := nl hg BK191; have NB193_191 := ng hg BK191; have NB192_193 := nl hg BK192; have NB193_192 := ng hg BK192; replace BK191 := bb BK191 hb; replace BK192 := bb BK192 hb; replace HB := bh HB hb; clear hb hbox hg))
 go_loopg [14] k (fun kq v14 w' => ∃ (x14_1 : Int) (ws_1 : List S28), v14 = .int .i64 x14_1 ∧ Aside0 (line_weights.l0 kq a0 a1 (wrap64 (a1 + 1)) x14_1 a2_0 a2_1 ws_1 = some r) ∧ Aside0 (kq ≤ k) ∧ Aside0 (w'.heap[gb191]? = some (.cells #[.int .u64 a2_0, .int .u64 a2_1] 28 (0, 0))) ∧ Aside0 (w'.heap[gb192]? = some (.cells #[.int .u64 0, .int .u64 0, .int .u64 0, .int .u64 0, .int .u64 0, .int .u64 0, .int .u64 0, .int .u64 0, .int .u64 0, .int .u64 0, .int .u64 0, .int .u64 0, .int .u64 0, .int .u64 0, .int .u64 0, .int .u64 0, .int .u64 0, .int .u64 0] 58 (0, 0))) ∧ Aside0 (w'.heap[gb193]? = some (.cells (arrC ws_1) 58 (0, 0))) ∧ Aside0 (Below w.heap.size w w'))
 case atStart => exact ⟨(0), (List.replicate 9 ⟨0, 0⟩), (by first | rfl | (simp; done) | (simp [*]; done)), H', ⟨Nat.le_refl _⟩, ⟨bk BK191.out⟩, ⟨bk BK192.out⟩, ⟨bk BK193.out⟩, ⟨bq HB.out⟩⟩
 case round =>
  clear H'
  try clear c2
  try clear p2
  try clear p6
  obtain ⟨x14_1, ws_1, rfl, HA, HK1, BK191, BK192, BK193, HB⟩ := hrel
  cases gk with
  | zero => exact absurd HA.out (by simp [line_weights.l0])
  | succ k1 =>
   have H := HA.out
   clear HA
   simp only [line_weights.l0] at H
   by_cases c7 : x14_1 < (wrap64 (a1 + 1))
   ·rw [if_pos c7] at H
    have c7b0 : decide (x14_1 < (wrap64 (a1 + 1))) = true := decide_eq_true c7
    clear c7
    replace H := Option.bind_eq_some_iff.mp H
    obtain ⟨⟨t194, t195⟩, A80, H⟩ := H
    replace H : ((tower_One.f).bind fun bt196 => (line_weights.l1 k1 a0 a1 x14_1 (wrap64 (a1 + 1)) x14_1 (wrap64 (a1 + 1)) 0 a2_0 a2_1 ws_1 t194 t195 bt196.1 bt196.2)) = some r := H
    have A8 := Aside0.mk A80
    clear A80
    replace H := Option.bind_eq_some_iff.mp H
    obtain ⟨⟨t196, t197⟩, A90, H⟩ := H
    replace H : (line_weights.l1 k1 a0 a1 x14_1 (wrap64 (a1 + 1)) x14_1 (wrap64 (a1 + 1)) 0 a2_0 a2_1 ws_1 t194 t195 t196 t197) = some r := H
    have A9 := Aside0.mk A90
    clear A90
    have H' := Aside0.mk H
    clear H
    go_wp2_with (first | ((with_reducible refine gate_callee (f := 37) rfl ?_); refine goesL_ (some 17) rfl rfl Try.func37 (by kernel_rfl) rfl #[] rfl (by (try simp only [List.map_toArray, List.map_cons, List.map_nil]); first | done | rfl | (simp only [List.length_drop, List.length_take]; rfl)) ?_; (with_reducible refine (tower_One.calls  t194 t195 _ A8.out).mono ?_); rintro e w10 ⟨rfl, hb⟩; refine ⟨_, rfl, ?_⟩; replace BK191 := bb BK191 hb; replace BK192 := bb BK192 hb; replace BK193 := bb BK193 hb; replace HB := bh HB hb; (try clear hb); (try clear hb2); (try clear hk); (try clear hi)) | ((with_reducible refine gate_callee (f := 37) rfl ?_); refine goesL_ (some 18) rfl rfl Try.func37 (by kernel_rfl) rfl #[] rfl (by (try simp only [List.map_toArray, List.map_cons, List.map_nil]); first | done | rfl | (simp only [List.length_drop, List.length_take]; rfl)) ?_; (with_reducible refine (tower_One.calls  t196 t197 _ A9.out).mono ?_); rintro e w11 ⟨rfl, hb⟩; refine ⟨_, rfl, ?_⟩; replace BK191 := bb BK191 hb; replace BK192 := bb BK192 hb; replace BK193 := bb BK193 hb; replace HB := bh HB hb; (try clear hb); (try clear hb2); (try clear hk); (try clear hi)) | ((with_reducible refine gate_dst (N := 9) rfl ?_); refine box_event ?hg (N := 9) ?hd (cs := #[.int .u64 0, .int .u64 0]) (t := 28) ?hr ?_; (case hd => rfl); (case hg => rfl); (case hr => first | (go_simp; done) | (go_simp; rfl)); intro gb198 hg w12 hbox hb; have BK198 := Aside0.mk hbox; have GW198 := ge hg HB; have GE198 := ge hg HB; have NB191_198 := nl hg BK191; have NB198_191 := ng hg BK191; have NB192_198 := nl hg BK192; have NB198_192 := ng hg BK192; have NB193_198 := nl hg BK193; have NB198_193 := ng hg BK193; replace BK191 := bb BK191 hb; replace BK192 := bb BK192 hb; replace BK193 := bb BK193 hb; replace HB := bh HB hb; clear hb hbox hg) | ((with_reducible refine gate_dst (N := 10) rfl ?_); refine box_event ?hg (N := 10) ?hd (cs := #[.int .u64 0, .int .u64 0]) (t := 28) ?hr ?_; (case hd => rfl); (case hg => rfl); (case hr => first | (go_simp; done) | (go_simp; rfl)); intro gb199 hg w13 hbox hb; have BK199 := Aside0.mk hbox; have GW199 := ge hg HB; have GE199 := ge hg HB; have NB191_199 := nl hg BK191; have NB199_191 := ng hg BK191; have NB192_199 := nl hg BK192; have NB199_192 := ng hg BK192; have NB193_199 := nl hg BK193; have NB199_193 := ng hg BK193; have NB198_199 := nl hg BK198; have NB199_198 := ng hg BK198; replace BK191 := bb BK191 hb; replace BK192 := bb BK192 hb; replace BK193 := bb BK193 hb; replace BK198 := bb BK198 hb; replace HB := bh HB hb; clear hb hbox hg; have hnb14 := NB198_191.out; have hnc14 := NB191_198.out; have hnb15 := NB198_192.out; have hnc15 := NB192_198.out; have hnb16 := NB198_193.out; have hnc16 := NB193_198.out; have hnb17 := NB198_199.out; have hnc17 := NB199_198.out; obtain ⟨hcz18_0, hcz18_1⟩ := zc2 BK198; obtain ⟨hfz18_0, hfz18_1⟩ := zf2 BK198; have hnb19 := NB199_191.out; have hnc19 := NB191_199.out; have hnb20 := NB199_192.out; have hnc20 := NB192_199.out; have hnb21 := NB199_193.out; have hnc21 := NB193_199.out; obtain ⟨hcz22_0, hcz22_1⟩ := zc2 BK199; obtain ⟨hfz22_0, hfz22_1⟩ := zf2 BK199))
    go_loopg [21] k1 (fun kq v21 w' => ∃ (x21_2 : Int) (x199000_2 : Int) (x199001_2 : Int) (x200000_2 : Int) (x200001_2 : Int), v21 = .int .i64 x21_2 ∧ Aside0 (line_weights.l1 kq a0 a1 x14_1 (wrap64 (a1 + 1)) x14_1 (wrap64 (a1 + 1)) x21_2 a2_0 a2_1 ws_1 x199000_2 x199001_2 x200000_2 x200001_2 = some r) ∧ Aside0 (kq ≤ k1) ∧ Aside0 (w'.heap[gb191]? = some (.cells #[.int .u64 a2_0, .int .u64 a2_1] 28 (0, 0))) ∧ Aside0 (w'.heap[gb192]? = some (.cells #[.int .u64 0, .int .u64 0, .int .u64 0, .int .u64 0, .int .u64 0, .int .u64 0, .int .u64 0, .int .u64 0, .int .u64 0, .int .u64 0, .int .u64 0, .int .u64 0, .int .u64 0, .int .u64 0, .int .u64 0, .int .u64 0, .int .u64 0, .int .u64 0] 58 (0, 0))) ∧ Aside0 (w'.heap[gb193]? = some (.cells (arrC ws_1) 58 (0, 0))) ∧ Aside0 (w'.heap[gb198]? = some (.cells #[.int .u64 x199000_2, .int .u64 x199001_2] 28 (0, 0))) ∧ Aside0 (w'.heap[gb199]? = some (.cells #[.int .u64 x200000_2, .int .u64 x200001_2] 28 (0, 0))) ∧ Aside0 (Below w.heap.size w w'))
    case atStart => exact ⟨(0), (t194), (t195), (t196), (t197), (by first | rfl | (simp; done) | (simp [*]; done)), H', ⟨Nat.le_refl _⟩, ⟨by (with_reducible repeat refine bl ?_); refine blk_far ?_ NB191_199.out _; (with_reducible repeat refine bl ?_); refine blk_far ?_ NB191_199.out _; (with_reducible repeat refine bl ?_); refine blk_far ?_ NB191_198.out _; (with_reducible repeat refine bl ?_); refine blk_far ?_ NB191_198.out _; (with_reducible repeat refine bl ?_); exact BK191.out⟩, ⟨by (with_reducible repeat refine bl ?_); refine blk_far ?_ NB192_199.out _; (with_reducible repeat refine bl ?_); refine blk_far ?_ NB192_199.out _; (with_reducible repeat refine bl ?_); refine blk_far ?_ NB192_198.out _; (with_reducible repeat refine bl ?_); refine blk_far ?_ NB192_198.out _; (with_reducible repeat refine bl ?_); exact BK192.out⟩, ⟨by (with_reducible repeat refine bl ?_); refine blk_far ?_ NB193_199.out _; (with_reducible repeat refine bl ?_); refine blk_far ?_ NB193_199.out _; (with_reducible repeat refine bl ?_); refine blk_far ?_ NB193_198.out _; (with_reducible repeat refine bl ?_); refine blk_far ?_ NB193_198.out _; (with_reducible repeat refine bl ?_); exact BK193.out⟩, ⟨by (with_reducible repeat refine bl ?_); refine blk_far ?_ NB198_199.out _; (with_reducible repeat refine bl ?_); refine blk_far ?_ NB198_199.out _; (with_reducible repeat refine bl ?_); refine blk_put (cs := #[.int .u64 t194, .int .u64 0]) ?_ 1 _ rfl; (with_reducible repeat refine bl ?_); refine blk_put (cs := #[.int .u64 0, .int .u64 0]) ?_ 0 _ rfl; (with_reducible repeat refine bl ?_); exact BK198.out⟩, ⟨by (with_reducible repeat refine bl ?_); refine blk_put (cs := #[.int .u64 t196, .int .u64 0]) ?_ 1 _ rfl; (with_reducible repeat refine bl ?_); refine blk_put (cs := #[.int .u64 0, .int .u64 0]) ?_ 0 _ rfl; (with_reducible repeat refine bl ?_); refine blk_far ?_ NB199_198.out _; (with_reducible repeat refine bl ?_); refine blk_far ?_ NB199_198.out _; (with_reducible repeat refine bl ?_); exact BK199.out⟩, ⟨bq HB.out⟩⟩
    case round =>
     clear H'
     try clear c1
     try clear c2
     try clear p2
     try clear c3
     try clear p6
     try clear c7
     try clear c7b0
     try clear c14
     try clear c15
     try clear c16
     try clear c17
     try clear c19
     try clear c20
     try clear c21
     try clear hcz18_0
     try clear hcz18_1
     try clear hcz22_0
     try clear hcz22_1
     try clear hfz18_0
     try clear hfz18_1
     try clear hfz22_0
     try clear hfz22_1
     try clear p2
     try clear p6
     obtain ⟨x21_2, x199000_2, x199001_2, x200000_2, x200001_2, rfl, HA, HK2, BK191, BK192, BK193, BK198, BK199, HB⟩ := hrel
     cases gk with
     | zero => exact absurd HA.out (by simp [line_weights.l1])
     | succ k2 =>
      have H := HA.out
      clear HA
      simp only [line_weights.l1] at H
      by_cases c23 : x21_2 < (wrap64 (a1 + 1))
      ·rw [if_pos c23] at H
       have c23b0 : decide (x21_2 < (wrap64 (a1 + 1))) = true := decide_eq_true c23
       clear c23
       by_cases c24 : x21_2 = x14_1
       ·rw [if_pos c24] at H
        have c24b0 : (x21_2 == x14_1) = true := beq_iff_eq.mpr c24
        have c24b1 : (x21_2 != x14_1) = false := bne_eq_false_iff_eq.mpr c24
        clear c24
        have H' := Aside0.mk H
        clear H
        go_wp2
        go_roundg k2
        case measure => have := HK1.out; have := HK2.out; omega
        case rel => exact ⟨(wrap64 (x21_2 + 1)), (x199000_2), (x199001_2), (x200000_2), (x200001_2), (by first | rfl | (simp; done) | (simp [*]; done)), H', ⟨by have := HK1.out; have := HK2.out; omega⟩, ⟨bk BK191.out⟩, ⟨bk BK192.out⟩, ⟨bk BK193.out⟩, ⟨bk BK198.out⟩, ⟨bk BK199.out⟩, ⟨bq HB.out⟩⟩
       ·rw [if_neg c24] at H
        have c24b0 : (x21_2 == x14_1) = false := beq_eq_false_iff_ne.mpr c24
        have c24b1 : (x21_2 != x14_1) = true := bne_iff_ne.mpr c24
        replace H := Option.bind_eq_some_iff.mp H
        obtain ⟨⟨t202, t203⟩, A250, H⟩ := H
        replace H : ((tower_Add.f a2_0 a2_1 t202 t203).bind fun bt204 => ((tower_Mul.f k2 a0 x199000_2 x199001_2 bt204.1 bt204.2).bind fun bt206 => ((line_place.f x14_1).bind fun bt208 => ((line_place.f x21_2).bind fun bt210 => ((tower_Add.f bt208.1 bt208.2 bt210.1 bt210.2).bind fun bt212 => ((tower_Mul.f k2 a0 x200000_2 x200001_2 bt212.1 bt212.2).bind fun bt214 => (line_weights.l1 k2 a0 a1 x14_1 (wrap64 (a1 + 1)) x14_1 (wrap64 (a1 + 1)) (wrap64 (x21_2 + 1)) a2_0 a2_1 ws_1 bt206.1 bt206.2 bt214.1 bt214.2))))))) = some r := H
        have A25 := Aside0.mk A250
        clear A250
        replace H := Option.bind_eq_some_iff.mp H
        obtain ⟨⟨t204, t205⟩, A260, H⟩ := H
        replace H : ((tower_Mul.f k2 a0 x199000_2 x199001_2 t204 t205).bind fun bt206 => ((line_place.f x14_1).bind fun bt208 => ((line_place.f x21_2).bind fun bt210 => ((tower_Add.f bt208.1 bt208.2 bt210.1 bt210.2).bind fun bt212 => ((tower_Mul.f k2 a0 x200000_2 x200001_2 bt212.1 bt212.2).bind fun bt214 => (line_weights.l1 k2 a0 a1 x14_1 (wrap64 (a1 + 1)) x14_1 (wrap64 (a1 + 1)) (wrap64 (x21_2 + 1)) a2_0 a2_1 ws_1 bt206.1 bt206.2 bt214.1 bt214.2)))))) = some r := H
        have A26 := Aside0.mk A260
        clear A260
        replace H := Option.bind_eq_some_iff.mp H
        obtain ⟨⟨t206, t207⟩, A270, H⟩ := H
        replace H : ((line_place.f x14_1).bind fun bt208 => ((line_place.f x21_2).bind fun bt210 => ((tower_Add.f bt208.1 bt208.2 bt210.1 bt210.2).bind fun bt212 => ((tower_Mul.f k2 a0 x200000_2 x200001_2 bt212.1 bt212.2).bind fun bt214 => (line_weights.l1 k2 a0 a1 x14_1 (wrap64 (a1 + 1)) x14_1 (wrap64 (a1 + 1)) (wrap64 (x21_2 + 1)) a2_0 a2_1 ws_1 t206 t207 bt214.1 bt214.2))))) = some r := H
        have A27 := Aside0.mk A270
        clear A270
        replace H := Option.bind_eq_some_iff.mp H
        obtain ⟨⟨t208, t209⟩, A280, H⟩ := H
        replace H : ((line_place.f x21_2).bind fun bt210 => ((tower_Add.f t208 t209 bt210.1 bt210.2).bind fun bt212 => ((tower_Mul.f k2 a0 x200000_2 x200001_2 bt212.1 bt212.2).bind fun bt214 => (line_weights.l1 k2 a0 a1 x14_1 (wrap64 (a1 + 1)) x14_1 (wrap64 (a1 + 1)) (wrap64 (x21_2 + 1)) a2_0 a2_1 ws_1 t206 t207 bt214.1 bt214.2)))) = some r := H
        have A28 := Aside0.mk A280
        clear A280
        replace H := Option.bind_eq_some_iff.mp H
        obtain ⟨⟨t210, t211⟩, A290, H⟩ := H
        replace H : ((tower_Add.f t208 t209 t210 t211).bind fun bt212 => ((tower_Mul.f k2 a0 x200000_2 x200001_2 bt212.1 bt212.2).bind fun bt214 => (line_weights.l1 k2 a0 a1 x14_1 (wrap64 (a1 + 1)) x14_1 (wrap64 (a1 + 1)) (wrap64 (x21_2 + 1)) a2_0 a2_1 ws_1 t206 t207 bt214.1 bt214.2))) = some r := H
        have A29 := Aside0.mk A290
        clear A290
        replace H := Option.bind_eq_some_iff.mp H
        obtain ⟨⟨t212, t213⟩, A300, H⟩ := H
        replace H : ((tower_Mul.f k2 a0 x200000_2 x200001_2 t212 t213).bind fun bt214 => (line_weights.l1 k2 a0 a1 x14_1 (wrap64 (a1 + 1)) x14_1 (wrap64 (a1 + 1)) (wrap64 (x21_2 + 1)) a2_0 a2_1 ws_1 t206 t207 bt214.1 bt214.2)) = some r := H
        have A30 := Aside0.mk A300
        clear A300
        replace H := Option.bind_eq_some_iff.mp H
        obtain ⟨⟨t214, t215⟩, A310, H⟩ := H
        replace H : (line_weights.l1 k2 a0 a1 x14_1 (wrap64 (a1 + 1)) x14_1 (wrap64 (a1 + 1)) (wrap64 (x21_2 + 1)) a2_0 a2_1 ws_1 t206 t207 t214 t215) = some r := H
        have A31 := Aside0.mk A310
        clear A310
        have H' := Aside0.mk H
        clear H
        try go_wp2
        replace BK191 := Aside0.mk (blk_drew BK191.out)
        replace BK192 := Aside0.mk (blk_drew BK192.out)
        replace BK193 := Aside0.mk (blk_drew BK193.out)
        replace BK198 := Aside0.mk (blk_drew BK198.out)
        replace BK199 := Aside0.mk (blk_drew BK199.out)
        replace HB := Aside0.mk (below_drew1 HB.out)
        refine start_ (n := 8) (S := fun w' => w'.cell? ⟨gb198, 0, none⟩ = some (.int .u64 x199000_2) ∧ w'.cell? ⟨gb198, 1, none⟩ = some (.int .u64 x199001_2) ∧ w'.cell? ⟨gb191, 0, none⟩ = some (.int .u64 a2_0) ∧ w'.cell? ⟨gb191, 1, none⟩ = some (.int .u64 a2_1)) (ds := [7]) #[false, false, false, false, false, false, false, false] (by kernel_rfl) rfl rfl ⟨(blk_cell BK198.out 0).trans rfl, (blk_cell BK198.out 1).trans rfl, (blk_cell BK191.out 0).trans rfl, (blk_cell BK191.out 1).trans rfl⟩ (fun hHeld => ?_); refine with_tabW line_weights.tab10 line_weights.bits10 (fun HT_ HW_ => ?_)
        generalize wr.drew = w32 at BK191 BK192 BK193 BK198 BK199 HB hHeld ⊢
        refine pure_ (i := 0) (N := some 27) (v := ?_) (a' := ?_) #[true, false, false, false, false, false, false, false] rfl rfl (any_of HT_.out (by kernel_rfl)) (fun _ _ _ h => h) (Or.inl ⟨by rfl, ?_⟩) ?_ ?_
        rotate_left
        ·intro w'
         go_simp
         with_reducible rfl
        rotate_left
        ·simp only [Act.put, List.setIfInBounds_toArray, List.set_cons_zero, List.set_cons_succ, i64_w, i32_w]
         rfl
        refine pure_ (i := 3) (N := some 30) (v := ?_) (a' := ?_) #[true, false, false, true, false, false, false, false] rfl rfl (any_of HT_.out (by kernel_rfl)) (fun _ _ _ h => h) (Or.inl ⟨by rfl, ?_⟩) ?_ ?_
        rotate_left
        ·intro w'
         go_simp
         with_reducible rfl
        rotate_left
        ·simp only [Act.put, List.setIfInBounds_toArray, List.set_cons_zero, List.set_cons_succ, i64_w, i32_w]
         rfl
        refine take_ (i := 1) (N := some 28) (v := ?_) (a' := ?_) #[true, true, false, true, false, false, false, false] rfl rfl (take_ofW HT_.out HW_.out (by kernel_rfl)) (fun _ _ _ h => h) (Or.inl ⟨by rfl, ?_⟩) hHeld ?_ ?_
        rotate_left
        ·rintro w' ⟨s0, s1, s2, s3⟩
         go_simp
         with_reducible rfl
        rotate_left
        ·simp only [Act.put, List.setIfInBounds_toArray, List.set_cons_zero, List.set_cons_succ, i64_w, i32_w]
         rfl
        refine take_ (i := 2) (N := some 29) (v := ?_) (a' := ?_) #[true, true, true, true, false, false, false, false] rfl rfl (take_ofW HT_.out HW_.out (by kernel_rfl)) (fun _ _ _ h => h) (Or.inl ⟨by rfl, ?_⟩) hHeld ?_ ?_
        rotate_left
        ·rintro w' ⟨s0, s1, s2, s3⟩
         go_simp
         with_reducible rfl
        rotate_left
        ·simp only [Act.put, List.setIfInBounds_toArray, List.set_cons_zero, List.set_cons_succ, i64_w, i32_w]
         rfl
        refine one_ (i := 4) (N := some 31) #[true, true, true, true, true, false, false, false] rfl rfl (one_of HT_.out (by kernel_rfl)) (by decide) (fun K hK => ?_)
        refine goes_ Try.func34 (by kernel_rfl) rfl #[.int .i64 x21_2] (by rfl) rfl rfl (by (try simp only [List.map_toArray, List.map_cons, List.map_nil]); first | done | rfl | (simp only [List.length_drop, List.length_take]; rfl)) ?_
        with_reducible refine (line_place.calls x21_2 t202 t203 _ A25.out).mono ?_
        rintro e w33 ⟨rfl, hb⟩
        refine ⟨_, rfl, ?_⟩
        replace BK191 := bb BK191 hb
        replace BK192 := bb BK192 hb
        replace BK193 := bb BK193 hb
        replace BK198 := bb BK198 hb
        replace BK199 := bb BK199 hb
        replace HB := bh HB hb
        (try clear hb)
        (try clear hb2)
        (try clear hk)
        (try clear hi)
        refine hK.out _ _ ⟨(blk_cell BK198.out 0).trans rfl, (blk_cell BK198.out 1).trans rfl, (blk_cell BK191.out 0).trans rfl, (blk_cell BK191.out 1).trans rfl⟩ (fun hHeld => ?_)
        clear hK K
        refine norm_ (a' := ?_) ?_ ?_
        rotate_left
        ·show Act.put _ (some 31) _ = _
         simp only [Act.put, List.setIfInBounds_toArray, List.set_cons_zero, List.set_cons_succ, i64_w, i32_w]
         rfl
        refine one_ (i := 5) (N := some 32) #[true, true, true, true, true, true, false, false] rfl rfl (one_of HT_.out (by kernel_rfl)) (by decide) (fun K hK => ?_)
        refine goes_ Try.func12 (by kernel_rfl) rfl #[.agg #[.int .u64 a2_0, .int .u64 a2_1], .agg #[.int .u64 t202, .int .u64 t203]] (by rfl) rfl rfl (by (try simp only [List.map_toArray, List.map_cons, List.map_nil]); first | done | rfl | (simp only [List.length_drop, List.length_take]; rfl)) ?_
        with_reducible refine (tower_Add.calls a2_0 a2_1 t202 t203 t204 t205 _ A26.out).mono ?_
        rintro e w34 ⟨rfl, hb⟩
        refine ⟨_, rfl, ?_⟩
        replace BK191 := bb BK191 hb
        replace BK192 := bb BK192 hb
        replace BK193 := bb BK193 hb
        replace BK198 := bb BK198 hb
        replace BK199 := bb BK199 hb
        replace HB := bh HB hb
        (try clear hb)
        (try clear hb2)
        (try clear hk)
        (try clear hi)
        refine hK.out _ _ ⟨(blk_cell BK198.out 0).trans rfl, (blk_cell BK198.out 1).trans rfl, (blk_cell BK191.out 0).trans rfl, (blk_cell BK191.out 1).trans rfl⟩ (fun hHeld => ?_)
        clear hK K
        refine norm_ (a' := ?_) ?_ ?_
        rotate_left
        ·show Act.put _ (some 32) _ = _
         simp only [Act.put, List.setIfInBounds_toArray, List.set_cons_zero, List.set_cons_succ, i64_w, i32_w]
         rfl
        refine one_ (i := 6) (N := some 33) #[true, true, true, true, true, true, true, false] rfl rfl (one_of HT_.out (by kernel_rfl)) (by decide) (fun K hK => ?_)
        refine goes_ Try.func13 (by kernel_rfl) rfl #[.int .i64 a0, .agg #[.int .u64 x199000_2, .int .u64 x199001_2], .agg #[.int .u64 t204, .int .u64 t205]] (by rfl) rfl rfl (by (try simp only [List.map_toArray, List.map_cons, List.map_nil]); first | done | rfl | (simp only [List.length_drop, List.length_take]; rfl)) ?_
        with_reducible refine (tower_Mul.calls k2 a0 x199000_2 x199001_2 t204 t205 t206 t207 _ A27.out).mono ?_
        rintro e w35 ⟨rfl, hb⟩
        refine ⟨_, rfl, ?_⟩
        replace BK191 := bb BK191 hb
        replace BK192 := bb BK192 hb
        replace BK193 := bb BK193 hb
        replace BK198 := bb BK198 hb
        replace BK199 := bb BK199 hb
        replace HB := bh HB hb
        (try clear hb)
        (try clear hb2)
        (try clear hk)
        (try clear hi)
        refine hK.out _ _ ⟨(blk_cell BK198.out 0).trans rfl, (blk_cell BK198.out 1).trans rfl, (blk_cell BK191.out 0).trans rfl, (blk_cell BK191.out 1).trans rfl⟩ (fun hHeld => ?_)
        clear hK K
        refine norm_ (a' := ?_) ?_ ?_
        rotate_left
        ·show Act.put _ (some 33) _ = _
         simp only [Act.put, List.setIfInBounds_toArray, List.set_cons_zero, List.set_cons_succ, i64_w, i32_w]
         rfl
        refine last_ (i := 7) (N := none) #[true, true, true, true, true, true, true, true] rfl rfl (one_of HT_.out (by kernel_rfl)) (by decide) (fun K hK => ?_)
        have hs36 : w35.cell? ⟨gb198, 0, none⟩ = some (.int .u64 x199000_2) := (blk_cell BK198.out 0).trans rfl
        have hfs36 := blk_frozen BK198.out 0
        have hns36_0 := NB191_198.out
        have hns36_1 := NB192_198.out
        have hns36_2 := NB193_198.out
        have hns36_4 := NB199_198.out
        have hms36_0 := NB198_191.out
        have hms36_1 := NB198_192.out
        have hms36_2 := NB198_193.out
        have hms36_4 := NB198_199.out
        have hs37 : w35.cell? ⟨gb198, 1, none⟩ = some (.int .u64 x199001_2) := (blk_cell BK198.out 1).trans rfl
        have hfs37 := blk_frozen BK198.out 1
        have hns37_0 := NB191_198.out
        have hns37_1 := NB192_198.out
        have hns37_2 := NB193_198.out
        have hns37_4 := NB199_198.out
        have hms37_0 := NB198_191.out
        have hms37_1 := NB198_192.out
        have hms37_2 := NB198_193.out
        have hms37_4 := NB198_199.out
        refine skip_ (w1 := ?_) (by rfl) rfl ?_ ?_
        rotate_left
        ·go_simp
         rfl
        refine hK.out _ _ ?_
        clear hK K
        refine done_ (done_of HT_.out (by kernel_rfl)) ?_
        try go_wp2
        have n0_ : Aside0 (((w35.setCell ⟨gb198, 0, none⟩ (.int .u64 t206)).setCell ⟨gb198, 1, none⟩ (.int .u64 t207)).heap[gb191]? = some (.cells #[.int .u64 a2_0, .int .u64 a2_1] 28 (0, 0))) := ⟨by (with_reducible repeat refine bl ?_); refine blk_far ?_ NB191_198.out _; (with_reducible repeat refine bl ?_); refine blk_far ?_ NB191_198.out _; (with_reducible repeat refine bl ?_); exact BK191.out⟩
        have n1_ : Aside0 (((w35.setCell ⟨gb198, 0, none⟩ (.int .u64 t206)).setCell ⟨gb198, 1, none⟩ (.int .u64 t207)).heap[gb192]? = some (.cells #[.int .u64 0, .int .u64 0, .int .u64 0, .int .u64 0, .int .u64 0, .int .u64 0, .int .u64 0, .int .u64 0, .int .u64 0, .int .u64 0, .int .u64 0, .int .u64 0, .int .u64 0, .int .u64 0, .int .u64 0, .int .u64 0, .int .u64 0, .int .u64 0] 58 (0, 0))) := ⟨by (with_reducible repeat refine bl ?_); refine blk_far ?_ NB192_198.out _; (with_reducible repeat refine bl ?_); refine blk_far ?_ NB192_198.out _; (with_reducible repeat refine bl ?_); exact BK192.out⟩
        have n2_ : Aside0 (((w35.setCell ⟨gb198, 0, none⟩ (.int .u64 t206)).setCell ⟨gb198, 1, none⟩ (.int .u64 t207)).heap[gb193]? = some (.cells (arrC ws_1) 58 (0, 0))) := ⟨by (with_reducible repeat refine bl ?_); refine blk_far ?_ NB193_198.out _; (with_reducible repeat refine bl ?_); refine blk_far ?_ NB193_198.out _; (with_reducible repeat refine bl ?_); exact BK193.out⟩
        have n3_ : Aside0 (((w35.setCell ⟨gb198, 0, none⟩ (.int .u64 t206)).setCell ⟨gb198, 1, none⟩ (.int .u64 t207)).heap[gb198]? = some (.cells #[.int .u64 t206, .int .u64 t207] 28 (0, 0))) := ⟨by (with_reducible repeat refine bl ?_); refine blk_put (cs := #[.int .u64 t206, .int .u64 x199001_2]) ?_ 1 _ rfl; (with_reducible repeat refine bl ?_); refine blk_put (cs := #[.int .u64 x199000_2, .int .u64 x199001_2]) ?_ 0 _ rfl; (with_reducible repeat refine bl ?_); exact BK198.out⟩
        have n4_ : Aside0 (((w35.setCell ⟨gb198, 0, none⟩ (.int .u64 t206)).setCell ⟨gb198, 1, none⟩ (.int .u64 t207)).heap[gb199]? = some (.cells #[.int .u64 x200000_2, .int .u64 x200001_2] 28 (0, 0))) := ⟨by (with_reducible repeat refine bl ?_); refine blk_far ?_ NB199_198.out _; (with_reducible repeat refine bl ?_); refine blk_far ?_ NB199_198.out _; (with_reducible repeat refine bl ?_); exact BK199.out⟩
        have n5_ : Aside0 (Below w.heap.size w ((w35.setCell ⟨gb198, 0, none⟩ (.int .u64 t206)).setCell ⟨gb198, 1, none⟩ (.int .u64 t207))) := ⟨bq HB.out⟩
        (try clear BK191)
        (try clear BK192)
        (try clear BK193)
        (try clear BK198)
        (try clear BK199)
        (try clear HB)
        generalize ((w35.setCell ⟨gb198, 0, none⟩ (.int .u64 t206)).setCell ⟨gb198, 1, none⟩ (.int .u64 t207)) = w38 at n0_ n1_ n2_ n3_ n4_ n5_ ⊢
        have BK191 := n0_
        have BK192 := n1_
        have BK193 := n2_
        have BK198 := n3_
        have BK199 := n4_
        have HB := n5_
        clear n0_ n1_ n2_ n3_ n4_ n5_
        replace BK191 := Aside0.mk (blk_drew BK191.out)
        replace BK192 := Aside0.mk (blk_drew BK192.out)
        replace BK193 := Aside0.mk (blk_drew BK193.out)
        replace BK198 := Aside0.mk (blk_drew BK198.out)
        replace BK199 := Aside0.mk (blk_drew BK199.out)
        replace HB := Aside0.mk (below_drew1 HB.out)
        refine start_ (n := 9) (S := fun w' => w'.cell? ⟨gb199, 0, none⟩ = some (.int .u64 x200000_2) ∧ w'.cell? ⟨gb199, 1, none⟩ = some (.int .u64 x200001_2)) (ds := [8]) #[false, false, false, false, false, false, false, false, false] (by kernel_rfl) rfl rfl ⟨(blk_cell BK199.out 0).trans rfl, (blk_cell BK199.out 1).trans rfl⟩ (fun hHeld => ?_); refine with_tabW line_weights.tab11 line_weights.bits11 (fun HT_ HW_ => ?_)
        generalize w38.drew = w39 at BK191 BK192 BK193 BK198 BK199 HB hHeld ⊢
        refine pure_ (i := 0) (N := some 34) (v := ?_) (a' := ?_) #[true, false, false, false, false, false, false, false, false] rfl rfl (any_of HT_.out (by kernel_rfl)) (fun _ _ _ h => h) (Or.inl ⟨by rfl, ?_⟩) ?_ ?_
        rotate_left
        ·intro w'
         go_simp
         with_reducible rfl
        rotate_left
        ·simp only [Act.put, List.setIfInBounds_toArray, List.set_cons_zero, List.set_cons_succ, i64_w, i32_w]
         rfl
        refine pure_ (i := 2) (N := some 36) (v := ?_) (a' := ?_) #[true, false, true, false, false, false, false, false, false] rfl rfl (any_of HT_.out (by kernel_rfl)) (fun _ _ _ h => h) (Or.inl ⟨by rfl, ?_⟩) ?_ ?_
        rotate_left
        ·intro w'
         go_simp
         with_reducible rfl
        rotate_left
        ·simp only [Act.put, List.setIfInBounds_toArray, List.set_cons_zero, List.set_cons_succ, i64_w, i32_w]
         rfl
        refine pure_ (i := 4) (N := some 38) (v := ?_) (a' := ?_) #[true, false, true, false, true, false, false, false, false] rfl rfl (any_of HT_.out (by kernel_rfl)) (fun _ _ _ h => h) (Or.inl ⟨by rfl, ?_⟩) ?_ ?_
        rotate_left
        ·intro w'
         go_simp
         with_reducible rfl
        rotate_left
        ·simp only [Act.put, List.setIfInBounds_toArray, List.set_cons_zero, List.set_cons_succ, i64_w, i32_w]
         rfl
        refine take_ (i := 1) (N := some 35) (v := ?_) (a' := ?_) #[true, true, true, false, true, false, false, false, false] rfl rfl (take_ofW HT_.out HW_.out (by kernel_rfl)) (fun _ _ _ h => h) (Or.inl ⟨by rfl, ?_⟩) hHeld ?_ ?_
        rotate_left
        ·rintro w' ⟨s0, s1⟩
         go_simp
         with_reducible rfl
        rotate_left
        ·simp only [Act.put, List.setIfInBounds_toArray, List.set_cons_zero, List.set_cons_succ, i64_w, i32_w]
         rfl
        refine one_ (i := 3) (N := some 37) #[true, true, true, true, true, false, false, false, false] rfl rfl (one_of HT_.out (by kernel_rfl)) (by decide) (fun K hK => ?_)
        refine goes_ Try.func34 (by kernel_rfl) rfl #[.int .i64 x14_1] (by rfl) rfl rfl (by (try simp only [List.map_toArray, List.map_cons, List.map_nil]); first | done | rfl | (simp only [List.length_drop, List.length_take]; rfl)) ?_
        with_reducible refine (line_place.calls x14_1 t208 t209 _ A28.out).mono ?_
        rintro e w40 ⟨rfl, hb⟩
        refine ⟨_, rfl, ?_⟩
        replace BK191 := bb BK191 hb
        replace BK192 := bb BK192 hb
        replace BK193 := bb BK193 hb
        replace BK198 := bb BK198 hb
        replace BK199 := bb BK199 hb
        replace HB := bh HB hb
        (try clear hb)
        (try clear hb2)
        (try clear hk)
        (try clear hi)
        refine hK.out _ _ ⟨(blk_cell BK199.out 0).trans rfl, (blk_cell BK199.out 1).trans rfl⟩ (fun hHeld => ?_)
        clear hK K
        refine norm_ (a' := ?_) ?_ ?_
        rotate_left
        ·show Act.put _ (some 37) _ = _
         simp only [Act.put, List.setIfInBounds_toArray, List.set_cons_zero, List.set_cons_succ, i64_w, i32_w]
         rfl
        refine one_ (i := 5) (N := some 39) #[true, true, true, true, true, true, false, false, false] rfl rfl (one_of HT_.out (by kernel_rfl)) (by decide) (fun K hK => ?_)
        refine goes_ Try.func34 (by kernel_rfl) rfl #[.int .i64 x21_2] (by rfl) rfl rfl (by (try simp only [List.map_toArray, List.map_cons, List.map_nil]); first | done | rfl | (simp only [List.length_drop, List.length_take]; rfl)) ?_
        with_reducible refine (line_place.calls x21_2 t210 t211 _ A29.out).mono ?_
        rintro e w41 ⟨rfl, hb⟩
        refine ⟨_, rfl, ?_⟩
        replace BK191 := bb BK191 hb
        replace BK192 := bb BK192 hb
        replace BK193 := bb BK193 hb
        replace BK198 := bb BK198 hb
        replace BK199 := bb BK199 hb
        replace HB := bh HB hb
        (try clear hb)
        (try clear hb2)
        (try clear hk)
        (try clear hi)
        refine hK.out _ _ ⟨(blk_cell BK199.out 0).trans rfl, (blk_cell BK199.out 1).trans rfl⟩ (fun hHeld => ?_)
        clear hK K
        refine norm_ (a' := ?_) ?_ ?_
        rotate_left
        ·show Act.put _ (some 39) _ = _
         simp only [Act.put, List.setIfInBounds_toArray, List.set_cons_zero, List.set_cons_succ, i64_w, i32_w]
         rfl
        refine one_ (i := 6) (N := some 40) #[true, true, true, true, true, true, true, false, false] rfl rfl (one_of HT_.out (by kernel_rfl)) (by decide) (fun K hK => ?_)
        refine goes_ Try.func12 (by kernel_rfl) rfl #[.agg #[.int .u64 t208, .int .u64 t209], .agg #[.int .u64 t210, .int .u64 t211]] (by rfl) rfl rfl (by (try simp only [List.map_toArray, List.map_cons, List.map_nil]); first | done | rfl | (simp only [List.length_drop, List.length_take]; rfl)) ?_
        with_reducible refine (tower_Add.calls t208 t209 t210 t211 t212 t213 _ A30.out).mono ?_
        rintro e w42 ⟨rfl, hb⟩
        refine ⟨_, rfl, ?_⟩
        replace BK191 := bb BK191 hb
        replace BK192 := bb BK192 hb
        replace BK193 := bb BK193 hb
        replace BK198 := bb BK198 hb
        replace BK199 := bb BK199 hb
        replace HB := bh HB hb
        (try clear hb)
        (try clear hb2)
        (try clear hk)
        (try clear hi)
        refine hK.out _ _ ⟨(blk_cell BK199.out 0).trans rfl, (blk_cell BK199.out 1).trans rfl⟩ (fun hHeld => ?_)
        clear hK K
        refine norm_ (a' := ?_) ?_ ?_
        rotate_left
        ·show Act.put _ (some 40) _ = _
         simp only [Act.put, List.setIfInBounds_toArray, List.set_cons_zero, List.set_cons_succ, i64_w, i32_w]
         rfl
        refine one_ (i := 7) (N := some 41) #[true, true, true, true, true, true, true, true, false] rfl rfl (one_of HT_.out (by kernel_rfl)) (by decide) (fun K hK => ?_)
        refine goes_ Try.func13 (by kernel_rfl) rfl #[.int .i64 a0, .agg #[.int .u64 x200000_2, .int .u64 x200001_2], .agg #[.int .u64 t212, .int .u64 t213]] (by rfl) rfl rfl (by (try simp only [List.map_toArray, List.map_cons, List.map_nil]); first | done | rfl | (simp only [List.length_drop, List.length_take]; rfl)) ?_
        with_reducible refine (tower_Mul.calls k2 a0 x200000_2 x200001_2 t212 t213 t214 t215 _ A31.out).mono ?_
        rintro e w43 ⟨rfl, hb⟩
        refine ⟨_, rfl, ?_⟩
        replace BK191 := bb BK191 hb
        replace BK192 := bb BK192 hb
        replace BK193 := bb BK193 hb
        replace BK198 := bb BK198 hb
        replace BK199 := bb BK199 hb
        replace HB := bh HB hb
        (try clear hb)
        (try clear hb2)
        (try clear hk)
        (try clear hi)
        refine hK.out _ _ ⟨(blk_cell BK199.out 0).trans rfl, (blk_cell BK199.out 1).trans rfl⟩ (fun hHeld => ?_)
        clear hK K
        refine norm_ (a' := ?_) ?_ ?_
        rotate_left
        ·show Act.put _ (some 41) _ = _
         simp only [Act.put, List.setIfInBounds_toArray, List.set_cons_zero, List.set_cons_succ, i64_w, i32_w]
         rfl
        refine last_ (i := 8) (N := none) #[true, true, true, true, true, true, true, true, true] rfl rfl (one_of HT_.out (by kernel_rfl)) (by decide) (fun K hK => ?_)
        have hs44 : w43.cell? ⟨gb199, 0, none⟩ = some (.int .u64 x200000_2) := (blk_cell BK199.out 0).trans rfl
        have hfs44 := blk_frozen BK199.out 0
        have hns44_0 := NB191_199.out
        have hns44_1 := NB192_199.out
        have hns44_2 := NB193_199.out
        have hns44_3 := NB198_199.out
        have hms44_0 := NB199_191.out
        have hms44_1 := NB199_192.out
        have hms44_2 := NB199_193.out
        have hms44_3 := NB199_198.out
        have hs45 : w43.cell? ⟨gb199, 1, none⟩ = some (.int .u64 x200001_2) := (blk_cell BK199.out 1).trans rfl
        have hfs45 := blk_frozen BK199.out 1
        have hns45_0 := NB191_199.out
        have hns45_1 := NB192_199.out
        have hns45_2 := NB193_199.out
        have hns45_3 := NB198_199.out
        have hms45_0 := NB199_191.out
        have hms45_1 := NB199_192.out
        have hms45_2 := NB199_193.out
        have hms45_3 := NB199_198.out
        refine skip_ (w1 := ?_) (by rfl) rfl ?_ ?_
        rotate_left
        ·go_simp
         rfl
        refine hK.out _ _ ?_
        clear hK K
        refine done_ (done_of HT_.out (by kernel_rfl)) ?_
        try go_wp2
        go_roundg k2
        case measure => have := HK1.out; have := HK2.out; omega
        case rel => exact ⟨(wrap64 (x21_2 + 1)), (t206), (t207), (t214), (t215), (by first | rfl | (simp; done) | (simp [*]; done)), H', ⟨by have := HK1.out; have := HK2.out; omega⟩, ⟨by (with_reducible repeat refine bl ?_); refine blk_far ?_ NB191_199.out _; (with_reducible repeat refine bl ?_); refine blk_far ?_ NB191_199.out _; (with_reducible repeat refine bl ?_); exact BK191.out⟩, ⟨by (with_reducible repeat refine bl ?_); refine blk_far ?_ NB192_199.out _; (with_reducible repeat refine bl ?_); refine blk_far ?_ NB192_199.out _; (with_reducible repeat refine bl ?_); exact BK192.out⟩, ⟨by (with_reducible repeat refine bl ?_); refine blk_far ?_ NB193_199.out _; (with_reducible repeat refine bl ?_); refine blk_far ?_ NB193_199.out _; (with_reducible repeat refine bl ?_); exact BK193.out⟩, ⟨by (with_reducible repeat refine bl ?_); refine blk_far ?_ NB198_199.out _; (with_reducible repeat refine bl ?_); refine blk_far ?_ NB198_199.out _; (with_reducible repeat refine bl ?_); exact BK198.out⟩, ⟨by (with_reducible repeat refine bl ?_); refine blk_put (cs := #[.int .u64 t214, .int .u64 x200001_2]) ?_ 1 _ rfl; (with_reducible repeat refine bl ?_); refine blk_put (cs := #[.int .u64 x200000_2, .int .u64 x200001_2]) ?_ 0 _ rfl; (with_reducible repeat refine bl ?_); exact BK199.out⟩, ⟨bq HB.out⟩⟩
      ·rw [if_neg c23] at H
       have c23b0 : decide (x21_2 < (wrap64 (a1 + 1))) = false := decide_eq_false c23
       clear c23
       by_cases cL : ws_1.length = 9
       ·rw [if_pos cL] at H
        by_cases cA : 0 ≤ x14_1
        ·rw [if_pos cA] at H
         by_cases cB : x14_1 < 9
         ·rw [if_pos cB] at H
          have HL := Aside0.mk cL
          clear cL
          have cAb : decide (0 ≤ x14_1) = true := decide_eq_true cA
          have cBb : decide (x14_1 < 9) = true := decide_eq_true cB
          obtain ⟨ni, rfl⟩ := Int.eq_ofNat_of_zero_le cA
          have HI := Aside0.mk (show ni < 9 by omega)
          have cA := eq_true cA
          have cB := eq_true cB
          replace H := Option.bind_eq_some_iff.mp H
          obtain ⟨⟨t200, t201⟩, A460, H⟩ := H
          replace H : (line_weights.l0 k2 a0 a1 (wrap64 (a1 + 1)) (wrap64 ((ni : Int) + 1)) a2_0 a2_1 (ws_1.set (ni : Int).toNat ⟨t200, t201⟩)) = some r := H
          have A46 := Aside0.mk A460
          clear A460
          have H' := Aside0.mk H
          clear H
          have hnb47 := NB198_191.out
          have hnc47 := NB191_198.out
          have hnb48 := NB198_192.out
          have hnc48 := NB192_198.out
          have hnb49 := NB198_193.out
          have hnc49 := NB193_198.out
          have hnb50 := NB198_199.out
          have hnc50 := NB199_198.out
          obtain ⟨hcz51_0, hcz51_1⟩ := zc2 BK198
          obtain ⟨hfz51_0, hfz51_1⟩ := zf2 BK198
          have hnb52 := NB199_191.out
          have hnc52 := NB191_199.out
          have hnb53 := NB199_192.out
          have hnc53 := NB192_199.out
          have hnb54 := NB199_193.out
          have hnc54 := NB193_199.out
          obtain ⟨hcz55_0, hcz55_1⟩ := zc2 BK199
          obtain ⟨hfz55_0, hfz55_1⟩ := zf2 BK199
          go_wp2_with (first | ((with_reducible refine gate_callee (f := 38) rfl ?_); refine goesL_ (some 47) rfl rfl Try.func38 (by kernel_rfl) rfl #[.int .i64 a0, .agg #[.int .u64 x199000_2, .int .u64 x199001_2], .agg #[.int .u64 x200000_2, .int .u64 x200001_2]] rfl (by (try simp only [List.map_toArray, List.map_cons, List.map_nil]); first | done | rfl | (simp only [List.length_drop, List.length_take]; rfl)) ?_; (with_reducible refine (tower_Div.calls k2 a0 x199000_2 x199001_2 x200000_2 x200001_2 t200 t201 _ A46.out).mono ?_); rintro e w56 ⟨rfl, hb⟩; refine ⟨_, rfl, ?_⟩; replace BK191 := bb BK191 hb; replace BK192 := bb BK192 hb; replace BK193 := bb BK193 hb; replace BK198 := bb BK198 hb; replace BK199 := bb BK199 hb; replace HB := bh HB hb; (try clear hb); (try clear hb2); (try clear hk); (try clear hi); have hnb57 := NB193_191.out; have hnc57 := NB191_193.out; have hnb58 := NB193_192.out; have hnc58 := NB192_193.out; obtain ⟨hcz59_0, hcz59_1⟩ := arr_at (ws := ws_1) BK193.out (i := ni) (by have := HI.out; have := HL.out; omega); have hfz59_0 := blk_frozen BK193.out (ni * 2); have hfz59_1 := blk_frozen BK193.out (ni * 2 + 1)))
          go_roundg k2
          case measure => have := HK1.out; have := HK2.out; omega
          case rel => exact ⟨(wrap64 ((ni : Int) + 1)), (ws_1.set ni ⟨t200, t201⟩), (by have hwi : wrap64 ((ni : Int) + 1) = (ni : Int) + 1 := (by have := HI.out; unfold wrap64; omega); first | (rw [hwi]; done) | (simp [hwi]; done) | rfl | (simp; done) | (simp [*]; done)), H', ⟨by have := HK1.out; have := HK2.out; omega⟩, ⟨by (with_reducible repeat refine bl ?_); refine blk_far ?_ NB191_193.out _; (with_reducible repeat refine bl ?_); refine blk_far ?_ NB191_193.out _; (with_reducible repeat refine bl ?_); exact BK191.out⟩, ⟨by (with_reducible repeat refine bl ?_); refine blk_far ?_ NB192_193.out _; (with_reducible repeat refine bl ?_); refine blk_far ?_ NB192_193.out _; (with_reducible repeat refine bl ?_); exact BK192.out⟩, ⟨arr_put (ws := ws_1) BK193.out (i := ni) (by have := HI.out; have := HL.out; omega) _ _⟩, ⟨bq HB.out⟩⟩
         ·rw [if_neg cB] at H
          cases H
        ·rw [if_neg cA] at H
         cases H
       ·rw [if_neg cL] at H
        cases H
   ·rw [if_neg c7] at H
    have c7b0 : decide (x14_1 < (wrap64 (a1 + 1))) = false := decide_eq_false c7
    clear c7
    by_cases cL : ws_1.length = 9
    ·rw [if_pos cL] at H
     obtain rfl := Option.some.inj H
     clear H
     have hi58 : (Try.prog.info? 58).map (·.size) = some (arrC ws_1).size := by rw [arrC_size, cL]; exact arr_info
     have hone := arrC_one ws_1
     have HL := Aside0.mk cL
     clear cL
     go_wp2_with (first
      | ((with_reducible refine gate_dst (N := 50) rfl ?_); refine wpList_load_row rfl 58 (.tmp 7) rfl gb193 (by rfl) 58 (arrC ws_1) (0, 0) _ BK193.out Try.underlying58 rfl hi58 ?_)
      | ((with_reducible refine gate_store (t := 58) (p := 6) rfl ?_); refine wpList_store_row rfl 58 (.tmp 6) (.tmp 50) rfl gb192 (arrC ws_1) (by rfl) (by rfl) 58 _ BK192.out hi58 (by rw [arrC_size, HL.out]; rfl) hone ?_))
     refine bodyPost_ret (results_cell_row rfl _ _ gb192 58 (arrC ws_1) (0, 0) _ rfl (setRow_heap _ gb192 _ _ 58 (0, 0) BK192.out) Try.underlying58 rfl hi58) rfl ?_
     exact ⟨rfl, HL.out, below_setRow HB.out GE192.out _⟩
    ·rw [if_neg cL] at H
     cases H
end Go.Proofs.Ythnaalocgoeddaa.P
