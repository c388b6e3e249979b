/- Written by a program of this session: functions that the law reaches, as Lean functions, and that the code comes to their answers. Conditions: those that each theorem names. -/
import Derived.Test.YthnaalocgoeddaaPx0
import Derived.Test.YthnaalocgoeddaaPx4
import Derived.Test.YthnaalocgoeddaaPx5
namespace Go.Proofs.Ythnaalocgoeddaa.P
open Go.RowKit Go.Proofs.YthnaalocgoeddaaX Go.Proofs.YthnaalocgoeddaaW.PrintWords Go.Proofs.YthnaalocgoeddaaW.PrintLast Go.Proofs.YthnaalocgoeddaaW.PrintMore
attribute [local go_sem] max2_int min2_int max_two min_two max_three min_three max_four min_four   -- for this text's walks alone
set_option linter.unusedVariables false
set_option linter.unusedSimpArgs false

/-! ### tower_inv: function 50 -/
def tower_inv.f : Nat → Int → Int → Option (Int)
 | 0, _, _ => none
 | k + 1, a0, a1 => if a0 = 0 then (some a1) else ((tower_halves.f a0 a1).bind fun bt165 => ((tower_mulX.f k (wrap64 (a0 - 1)) bt165.1).bind fun t167 => ((tower_mul.f k (wrap64 (a0 - 1)) bt165.2 (Go.bits .xor .u64 bt165.2 t167)).bind fun t168 => ((tower_square.f k (wrap64 (a0 - 1)) bt165.1).bind fun t169 => ((tower_inv.f k (wrap64 (a0 - 1)) (Go.bits .xor .u64 t168 t169)).bind fun t170 => ((tower_mul.f k (wrap64 (a0 - 1)) bt165.1 t170).bind fun t171 => ((tower_mul.f k (wrap64 (a0 - 1)) (Go.bits .xor .u64 bt165.2 t167) t170).bind fun t172 => ((tower_join.f a0 t171 t172).bind fun t173 => (some t173)))))))))
theorem tower_inv.mono_l : ∀ k, (∀ y0 y1, LeO (tower_inv.f k y0 y1) (tower_inv.f (k + 1) y0 y1))
 | 0 => fun _ _ r h => by simp [tower_inv.f] at h
 | k + 1 => by
  have ih0 := tower_inv.mono_l k
  ·intro y0 y1
   unfold tower_inv.f
   repeat' first
   | (with_reducible exact ih0 _ _)
   | (with_reducible exact tower_mul.mono _ _ _ _)
   | (with_reducible exact tower_mulX.mono _ _ _)
   | (with_reducible exact tower_square.mono _ _ _)
   | (with_reducible exact LeO.refl _)
   | (with_reducible exact LeO.none _)
   | (with_reducible refine LeO.ite ?_ ?_)
   | (with_reducible refine LeO.bind ?_ (fun _ => ?_))
   | exact ih0 _ _
   | exact tower_mul.mono _ _ _ _
   | exact tower_mulX.mono _ _ _
   | exact tower_square.mono _ _ _
   | exact LeO.none _
   | refine LeO.ite ?_ ?_
   | refine LeO.bind ?_ (fun _ => ?_)
theorem tower_inv.mono : ∀ a0 a1 k, LeO (tower_inv.f k a0 a1) (tower_inv.f (k + 1) a0 a1) := by
 intro a0 a1 k
 have ih0 := tower_inv.mono_l k
 exact ih0 a0 a1
set_option maxHeartbeats 8000000 in
set_option maxRecDepth 100000 in
theorem tower_inv.calls (k : Nat) : ∀ (a0 : Int) (a1 : Int) (r : Int) (w : World) (h : tower_inv.f k a0 a1 = some r),
  Calls Try.prog 50 #[.int .i64 a0, .int .u64 a1] w fun e w' => e = .returned (.int .u64 r) ∧ Drawn0 w w' := by
 induction k using Nat.strongRecOn with
 | _ k ih =>
 intro a0 a1 r w h
 cases k with
 | zero => exact absurd h (by simp [tower_inv.f])
 | succ k =>
 simp only [tower_inv.f] at h
 have H : (if a0 = 0 then (some a1) else ((tower_halves.f a0 a1).bind fun bt165 => ((tower_mulX.f k (wrap64 (a0 - 1)) bt165.1).bind fun t167 => ((tower_mul.f k (wrap64 (a0 - 1)) bt165.2 (Go.bits .xor .u64 bt165.2 t167)).bind fun t168 => ((tower_square.f k (wrap64 (a0 - 1)) bt165.1).bind fun t169 => ((tower_inv.f k (wrap64 (a0 - 1)) (Go.bits .xor .u64 t168 t169)).bind fun t170 => ((tower_mul.f k (wrap64 (a0 - 1)) bt165.1 t170).bind fun t171 => ((tower_mul.f k (wrap64 (a0 - 1)) (Go.bits .xor .u64 bt165.2 t167) t170).bind fun t172 => ((tower_join.f a0 t171 t172).bind fun t173 => (some t173)))))))))) = some r := h
 clear h
 by_cases c3 : a0 = 0
 ·rw [if_pos c3] at H
  have c3b0 : (a0 == 0) = true := beq_iff_eq.mpr c3
  have c3b1 : (a0 != 0) = false := bne_eq_false_iff_eq.mpr c3
  clear c3
  obtain rfl := Option.some.inj H
  go_enter Try.func50, Try.ntmps50
  go_wp2
  go_ret
  exact ⟨by first | rfl | (simp; done) | (simp [*]; done), by repeat (first | exact Drawn0.refl _ | apply Drawn0.step)⟩
 ·rw [if_neg c3] at H
  have c3b0 : (a0 == 0) = false := beq_eq_false_iff_ne.mpr c3
  have c3b1 : (a0 != 0) = true := bne_iff_ne.mpr c3
  replace H := Option.bind_eq_some_iff.mp H
  obtain ⟨⟨t165, t166⟩, A40, H⟩ := H
  replace H : ((tower_mulX.f k (wrap64 (a0 - 1)) t165).bind fun t167 => ((tower_mul.f k (wrap64 (a0 - 1)) t166 (Go.bits .xor .u64 t166 t167)).bind fun t168 => ((tower_square.f k (wrap64 (a0 - 1)) t165).bind fun t169 => ((tower_inv.f k (wrap64 (a0 - 1)) (Go.bits .xor .u64 t168 t169)).bind fun t170 => ((tower_mul.f k (wrap64 (a0 - 1)) t165 t170).bind fun t171 => ((tower_mul.f k (wrap64 (a0 - 1)) (Go.bits .xor .u64 t166 t167) t170).bind fun t172 => ((tower_join.f a0 t171 t172).bind fun t173 => (some t173)))))))) = some r := H
  have A4 := Aside0.mk A40
  clear A40
  replace H := Option.bind_eq_some_iff.mp H
  obtain ⟨t167, A50, H⟩ := H
  replace H : ((tower_mul.f k (wrap64 (a0 - 1)) t166 (Go.bits .xor .u64 t166 t167)).bind fun t168 => ((tower_square.f k (wrap64 (a0 - 1)) t165).bind fun t169 => ((tower_inv.f k (wrap64 (a0 - 1)) (Go.bits .xor .u64 t168 t169)).bind fun t170 => ((tower_mul.f k (wrap64 (a0 - 1)) t165 t170).bind fun t171 => ((tower_mul.f k (wrap64 (a0 - 1)) (Go.bits .xor .u64 t166 t167) t170).bind fun t172 => ((tower_join.f a0 t171 t172).bind fun t173 => (some t173))))))) = some r := H
  have A5 := Aside0.mk A50
  clear A50
  replace H := Option.bind_eq_some_iff.mp H
  obtain ⟨t168, A60, H⟩ := H
  replace H : ((tower_square.f k (wrap64 (a0 - 1)) t165).bind fun t169 => ((tower_inv.f k (wrap64 (a0 - 1)) (Go.bits .xor .u64 t168 t169)).bind fun t170 => ((tower_mul.f k (wrap64 (a0 - 1)) t165 t170).bind fun t171 => ((tower_mul.f k (wrap64 (a0 - 1)) (Go.bits .xor .u64 t166 t167) t170).bind fun t172 => ((tower_join.f a0 t171 t172).bind fun t173 => (some t173)))))) = some r := H
  have A6 := Aside0.mk A60
  clear A60
  replace H := Option.bind_eq_some_iff.mp H
  obtain ⟨t169, A70, H⟩ := H
  replace H : ((tower_inv.f k (wrap64 (a0 - 1)) (Go.bits .xor .u64 t168 t169)).bind fun t170 => ((tower_mul.f k (wrap64 (a0 - 1)) t165 t170).bind fun t171 => ((tower_mul.f k (wrap64 (a0 - 1)) (Go.bits .xor .u64 t166 t167) t170).bind fun t172 => ((tower_join.f a0 t171 t172).bind fun t173 => (some t173))))) = some r := H
  have A7 := Aside0.mk A70
  clear A70
  replace H := Option.bind_eq_some_iff.mp H
  obtain ⟨t170, A80, H⟩ := H
  replace H : ((tower_mul.f k (wrap64 (a0 - 1)) t165 t170).bind fun t171 => ((tower_mul.f k (wrap64 (a0 - 1)) (Go.bits .xor .u64 t166 t167) t170).bind fun t172 => ((tower_join.f a0 t171 t172).bind fun t173 => (some t173)))) = some r := H
  have A8 := Aside0.mk A80
  clear A80
  replace H := Option.bind_eq_some_iff.mp H
  obtain ⟨t171, A90, H⟩ := H
  replace H : ((tower_mul.f k (wrap64 (a0 - 1)) (Go.bits .xor .u64 t166 t167) t170).bind fun t172 => ((tower_join.f a0 t171 t172).bind fun t173 => (some t173))) = some r := H
  have A9 := Aside0.mk A90
  clear A90
  replace H := Option.bind_eq_some_iff.mp H
  obtain ⟨t172, A100, H⟩ := H
  replace H : ((tower_join.f a0 t171 t172).bind fun t173 => (some t173)) = some r := H
  have A10 := Aside0.mk A100
  clear A100
  replace H := Option.bind_eq_some_iff.mp H
  obtain ⟨t173, A110, H⟩ := H
  replace H : (some t173) = some r := H
  have A11 := Aside0.mk A110
  clear A110
  obtain rfl := Option.some.inj H
  go_enter Try.func50, Try.ntmps50
  go_wp2_with (first | ((with_reducible refine gate_callee (f := 41) rfl ?_); refine goesL_ (some 16) rfl rfl Try.func41 (by kernel_rfl) rfl #[.int .i64 a0, .int .u64 a1] rfl (by (try simp only [List.map_toArray, List.map_cons, List.map_nil]); first | done | rfl | (simp only [List.length_drop, List.length_take]; rfl)) ?_; (with_reducible refine (tower_halves.calls a0 a1 t165 t166 _ A4.out).mono ?_); rintro e w' ⟨rfl, ⟨nd, rfl⟩⟩; refine ⟨_, rfl, ?_⟩) | ((with_reducible refine gate_callee (f := 31) rfl ?_); refine goesL_ (some 23) rfl rfl Try.func31 (by kernel_rfl) rfl #[.int .i64 (wrap64 (a0 - 1)), .int .u64 t165] rfl (by (try simp only [List.map_toArray, List.map_cons, List.map_nil]); first | done | rfl | (simp only [List.length_drop, List.length_take]; rfl)) ?_; (with_reducible refine (tower_mulX.calls k (wrap64 (a0 - 1)) t165 t167 _ A5.out).mono ?_); rintro e w' ⟨rfl, ⟨nd, rfl⟩⟩; refine ⟨_, rfl, ?_⟩) | ((with_reducible refine gate_callee (f := 30) rfl ?_); refine goesL_ (some 29) rfl rfl Try.func30 (by kernel_rfl) rfl #[.int .i64 (wrap64 (a0 - 1)), .int .u64 t166, .int .u64 (Go.bits .xor .u64 t166 t167)] rfl (by (try simp only [List.map_toArray, List.map_cons, List.map_nil]); first | done | rfl | (simp only [List.length_drop, List.length_take]; rfl)) ?_; (with_reducible refine (tower_mul.calls k (wrap64 (a0 - 1)) t166 (Go.bits .xor .u64 t166 t167) t168 _ A6.out).mono ?_); rintro e w' ⟨rfl, ⟨nd, rfl⟩⟩; refine ⟨_, rfl, ?_⟩) | ((with_reducible refine gate_callee (f := 51) rfl ?_); refine goesL_ (some 33) rfl rfl Try.func51 (by kernel_rfl) rfl #[.int .i64 (wrap64 (a0 - 1)), .int .u64 t165] rfl (by (try simp only [List.map_toArray, List.map_cons, List.map_nil]); first | done | rfl | (simp only [List.length_drop, List.length_take]; rfl)) ?_; (with_reducible refine (tower_square.calls k (wrap64 (a0 - 1)) t165 t169 _ A7.out).mono ?_); rintro e w' ⟨rfl, ⟨nd, rfl⟩⟩; refine ⟨_, rfl, ?_⟩) | ((with_reducible refine gate_callee (f := 50) rfl ?_); refine goesL_ (some 38) rfl rfl Try.func50 (by kernel_rfl) rfl #[.int .i64 (wrap64 (a0 - 1)), .int .u64 (Go.bits .xor .u64 t168 t169)] rfl (by (try simp only [List.map_toArray, List.map_cons, List.map_nil]); first | done | rfl | (simp only [List.length_drop, List.length_take]; rfl)) ?_; (with_reducible refine (ih k (by omega) (wrap64 (a0 - 1)) (Go.bits .xor .u64 t168 t169) t170 _ A8.out).mono ?_); rintro e w' ⟨rfl, ⟨nd, rfl⟩⟩; refine ⟨_, rfl, ?_⟩) | ((with_reducible refine gate_callee (f := 30) rfl ?_); refine goesL_ (some 44) rfl rfl Try.func30 (by kernel_rfl) rfl #[.int .i64 (wrap64 (a0 - 1)), .int .u64 t165, .int .u64 t170] rfl (by (try simp only [List.map_toArray, List.map_cons, List.map_nil]); first | done | rfl | (simp only [List.length_drop, List.length_take]; rfl)) ?_; (with_reducible refine (tower_mul.calls k (wrap64 (a0 - 1)) t165 t170 t171 _ A9.out).mono ?_); rintro e w' ⟨rfl, ⟨nd, rfl⟩⟩; refine ⟨_, rfl, ?_⟩) | ((with_reducible refine gate_callee (f := 30) rfl ?_); refine goesL_ (some 49) rfl rfl Try.func30 (by kernel_rfl) rfl #[.int .i64 (wrap64 (a0 - 1)), .int .u64 (Go.bits .xor .u64 t166 t167), .int .u64 t170] rfl (by (try simp only [List.map_toArray, List.map_cons, List.map_nil]); first | done | rfl | (simp only [List.length_drop, List.length_take]; rfl)) ?_; (with_reducible refine (tower_mul.calls k (wrap64 (a0 - 1)) (Go.bits .xor .u64 t166 t167) t170 t172 _ A10.out).mono ?_); rintro e w' ⟨rfl, ⟨nd, rfl⟩⟩; refine ⟨_, rfl, ?_⟩) | ((with_reducible refine gate_callee (f := 42) rfl ?_); refine goesL_ (some 50) rfl rfl Try.func42 (by kernel_rfl) rfl #[.int .i64 a0, .int .u64 t171, .int .u64 t172] rfl (by (try simp only [List.map_toArray, List.map_cons, List.map_nil]); first | done | rfl | (simp only [List.length_drop, List.length_take]; rfl)) ?_; (with_reducible refine (tower_join.calls a0 t171 t172 t173 _ A11.out).mono ?_); rintro e w' ⟨rfl, ⟨nd, rfl⟩⟩; refine ⟨_, rfl, ?_⟩))
  go_ret
  exact ⟨by first | rfl | (simp; done) | (simp [*]; done), by repeat (first | exact Drawn0.refl _ | apply Drawn0.step)⟩

/-! ### tower_Inv: function 45 -/
def tower_Inv.f (k : Nat) (a0 : Int) (a1_0 : Int) (a1_1 : Int) : Option (Int × Int) := (octet_Of.f k a0 a1_0 a1_1).bind fun t176 => (if t176 = true then (if a0 ≤ 6 then ((tower_inv.f k a0 a1_1).bind fun t177 => (some (0, t177))) else ((tower_mulX.f k 6 a1_0).bind fun t178 => ((tower_mul.f k 6 a1_1 (Go.bits .xor .u64 a1_1 t178)).bind fun t179 => ((tower_square.f k 6 a1_0).bind fun t180 => ((tower_inv.f k 6 (Go.bits .xor .u64 t179 t180)).bind fun t181 => ((tower_mul.f k 6 a1_0 t181).bind fun t182 => ((tower_mul.f k 6 (Go.bits .xor .u64 a1_1 t178) t181).bind fun t183 => (some (t182, t183))))))))) else (some (0, 0)))
theorem tower_Inv.mono : ∀ a0 a1 a2 k, LeO (tower_Inv.f k a0 a1 a2) (tower_Inv.f (k + 1) a0 a1 a2) := by
 intro a0 a1 a2 k
 unfold tower_Inv.f
 repeat' first
   | (with_reducible exact octet_Of.mono _ _ _ _)
   | (with_reducible exact tower_inv.mono _ _ _)
   | (with_reducible exact tower_mul.mono _ _ _ _)
   | (with_reducible exact tower_mulX.mono _ _ _)
   | (with_reducible exact tower_square.mono _ _ _)
   | (with_reducible exact LeO.refl _)
   | (with_reducible exact LeO.none _)
   | (with_reducible refine LeO.ite ?_ ?_)
   | (with_reducible refine LeO.bind ?_ (fun _ => ?_))
   | exact octet_Of.mono _ _ _ _
   | exact tower_inv.mono _ _ _
   | exact tower_mul.mono _ _ _ _
   | exact tower_mulX.mono _ _ _
   | exact tower_square.mono _ _ _
   | exact LeO.none _
   | refine LeO.ite ?_ ?_
   | refine LeO.bind ?_ (fun _ => ?_)
set_option maxHeartbeats 8000000 in
set_option maxRecDepth 100000 in
theorem tower_Inv.calls (k : Nat) (a0 : Int) (a1_0 : Int) (a1_1 : Int) (r1 : Int) (r2 : Int) (w : World) (h : tower_Inv.f k a0 a1_0 a1_1 = some (r1, r2)) :
  Calls Try.prog 45 #[.int .i64 a0, .agg #[.int .u64 a1_0, .int .u64 a1_1]] w fun e w' => e = .returned (.agg #[.int .u64 r1, .int .u64 r2]) ∧ Below w.heap.size w w' := by
 have hu28 := Try.underlying28
 have HB := Aside0.mk (Below.refl w.heap.size w)
 have H : ((octet_Of.f k a0 a1_0 a1_1).bind fun t176 => (if t176 = true then (if a0 ≤ 6 then ((tower_inv.f k a0 a1_1).bind fun t177 => (some (0, t177))) else ((tower_mulX.f k 6 a1_0).bind fun t178 => ((tower_mul.f k 6 a1_1 (Go.bits .xor .u64 a1_1 t178)).bind fun t179 => ((tower_square.f k 6 a1_0).bind fun t180 => ((tower_inv.f k 6 (Go.bits .xor .u64 t179 t180)).bind fun t181 => ((tower_mul.f k 6 a1_0 t181).bind fun t182 => ((tower_mul.f k 6 (Go.bits .xor .u64 a1_1 t178) t181).bind fun t183 => (some (t182, t183))))))))) else (some (0, 0)))) = some (r1, r2) := h
 clear h
 replace H := Option.bind_eq_some_iff.mp H
 obtain ⟨t176, A30, H⟩ := H
 replace H : (if t176 = true then (if a0 ≤ 6 then ((tower_inv.f k a0 a1_1).bind fun t177 => (some (0, t177))) else ((tower_mulX.f k 6 a1_0).bind fun t178 => ((tower_mul.f k 6 a1_1 (Go.bits .xor .u64 a1_1 t178)).bind fun t179 => ((tower_square.f k 6 a1_0).bind fun t180 => ((tower_inv.f k 6 (Go.bits .xor .u64 t179 t180)).bind fun t181 => ((tower_mul.f k 6 a1_0 t181).bind fun t182 => ((tower_mul.f k 6 (Go.bits .xor .u64 a1_1 t178) t181).bind fun t183 => (some (t182, t183))))))))) else (some (0, 0))) = some (r1, r2) := H
 have A3 := Aside0.mk A30
 clear A30
 by_cases c4 : t176 = true
 ·subst c4
  have H1 : (if a0 ≤ 6 then ((tower_inv.f k a0 a1_1).bind fun t177 => (some (0, t177))) else ((tower_mulX.f k 6 a1_0).bind fun t178 => ((tower_mul.f k 6 a1_1 (Go.bits .xor .u64 a1_1 t178)).bind fun t179 => ((tower_square.f k 6 a1_0).bind fun t180 => ((tower_inv.f k 6 (Go.bits .xor .u64 t179 t180)).bind fun t181 => ((tower_mul.f k 6 a1_0 t181).bind fun t182 => ((tower_mul.f k 6 (Go.bits .xor .u64 a1_1 t178) t181).bind fun t183 => (some (t182, t183))))))))) = some (r1, r2) := by rw [if_pos rfl] at H; exact H
  clear H
  have H := H1
  clear H1
  by_cases c5 : a0 ≤ 6
  ·rw [if_pos c5] at H
   have c5b0 : decide (a0 ≤ 6) = true := decide_eq_true c5
   clear c5
   replace H := Option.bind_eq_some_iff.mp H
   obtain ⟨t177, A60, H⟩ := H
   replace H : (some (0, t177)) = some (r1, r2) := H
   have A6 := Aside0.mk A60
   clear A60
   simp only [Option.some.injEq, Prod.mk.injEq] at H
   obtain ⟨rfl, rfl⟩ := H
   go_enter Try.func45, Try.ntmps45
   go_wp2_with (first | ((with_reducible refine gate_dst (N := 3) rfl ?_); refine box_event ?hg (N := 3) ?hd (cs := #[.int .u64 a1_0, .int .u64 a1_1]) (t := 28) ?hr ?_; (case hd => rfl); (case hg => rfl); (case hr => first | (go_simp; done) | (go_simp; rfl)); intro gb174 hg w7 hbox hb; have BK174 := Aside0.mk hbox; have GW174 := ge hg HB; have GE174 := ge hg HB; replace HB := bh HB hb; clear hb hbox hg) | ((with_reducible refine gate_dst (N := 4) rfl ?_); refine box_event ?hg (N := 4) ?hd (cs := #[.int .u64 0, .int .u64 0]) (t := 28) ?hr ?_; (case hd => rfl); (case hg => rfl); (case hr => first | (go_simp; done) | (go_simp; rfl)); intro gb175 hg w8 hbox hb; have BK175 := Aside0.mk hbox; have GW175 := ge hg HB; have GE175 := ge hg HB; have NB174_175 := nl hg BK174; have NB175_174 := ng hg BK174; replace BK174 := bb BK174 hb; replace HB := bh HB hb; clear hb hbox hg; have hnb9 := NB174_175.out; have hnc9 := NB175_174.out; obtain ⟨hcz10_0, hcz10_1⟩ := zc2 BK174; obtain ⟨hfz10_0, hfz10_1⟩ := zf2 BK174) | (go_at_call 26; (with_reducible refine (octet_Of.calls k a0 a1_0 a1_1 true _ A3.out).mono ?_); rintro e w11 ⟨rfl, hb⟩; replace BK174 := bb BK174 hb; replace BK175 := bb BK175 hb; replace HB := bh HB hb; (try clear hb); (try clear hb2); (try clear hk); (try clear hi); obtain ⟨hcz12_0, hcz12_1⟩ := zc2 BK174; obtain ⟨hfz12_0, hfz12_1⟩ := zf2 BK174) | (go_at_call 50; (with_reducible refine (tower_inv.calls k a0 a1_1 t177 _ A6.out).mono ?_); rintro e w' ⟨rfl, ⟨nd, rfl⟩⟩; (try first | exact ⟨rfl, _, World.drewN_drewN _ _ _⟩ | exact ⟨rfl, _, Eq.trans (World.drewN_drewN _ _ _) (congrArg (World.drewN _) (Nat.add_assoc _ _ _))⟩); obtain ⟨hcz13_0, hcz13_1⟩ := zc2 BK175; obtain ⟨hfz13_0, hfz13_1⟩ := zf2 BK175))
   repeat (go_quiet (first | ((with_reducible refine gate_dst (N := 3) rfl ?_); refine box_event ?hg (N := 3) ?hd (cs := #[.int .u64 a1_0, .int .u64 a1_1]) (t := 28) ?hr ?_; (case hd => rfl); (case hg => rfl); (case hr => first | (go_simp; done) | (go_simp; rfl)); intro gb174 hg w7 hbox hb; have BK174 := Aside0.mk hbox; have GW174 := ge hg HB; have GE174 := ge hg HB; replace HB := bh HB hb; clear hb hbox hg) | ((with_reducible refine gate_dst (N := 4) rfl ?_); refine box_event ?hg (N := 4) ?hd (cs := #[.int .u64 0, .int .u64 0]) (t := 28) ?hr ?_; (case hd => rfl); (case hg => rfl); (case hr => first | (go_simp; done) | (go_simp; rfl)); intro gb175 hg w8 hbox hb; have BK175 := Aside0.mk hbox; have GW175 := ge hg HB; have GE175 := ge hg HB; have NB174_175 := nl hg BK174; have NB175_174 := ng hg BK174; replace BK174 := bb BK174 hb; replace HB := bh HB hb; clear hb hbox hg; have hnb9 := NB174_175.out; have hnc9 := NB175_174.out; obtain ⟨hcz10_0, hcz10_1⟩ := zc2 BK174; obtain ⟨hfz10_0, hfz10_1⟩ := zf2 BK174) | (go_at_call 26; (with_reducible refine (octet_Of.calls k a0 a1_0 a1_1 true _ A3.out).mono ?_); rintro e w11 ⟨rfl, hb⟩; replace BK174 := bb BK174 hb; replace BK175 := bb BK175 hb; replace HB := bh HB hb; (try clear hb); (try clear hb2); (try clear hk); (try clear hi); obtain ⟨hcz12_0, hcz12_1⟩ := zc2 BK174; obtain ⟨hfz12_0, hfz12_1⟩ := zf2 BK174) | (go_at_call 50; (with_reducible refine (tower_inv.calls k a0 a1_1 t177 _ A6.out).mono ?_); rintro e w' ⟨rfl, ⟨nd, rfl⟩⟩; (try first | exact ⟨rfl, _, World.drewN_drewN _ _ _⟩ | exact ⟨rfl, _, Eq.trans (World.drewN_drewN _ _ _) (congrArg (World.drewN _) (Nat.add_assoc _ _ _))⟩); obtain ⟨hcz13_0, hcz13_1⟩ := zc2 BK175; obtain ⟨hfz13_0, hfz13_1⟩ := zf2 BK175)); try go_wp2_with (first | ((with_reducible refine gate_dst (N := 3) rfl ?_); refine box_event ?hg (N := 3) ?hd (cs := #[.int .u64 a1_0, .int .u64 a1_1]) (t := 28) ?hr ?_; (case hd => rfl); (case hg => rfl); (case hr => first | (go_simp; done) | (go_simp; rfl)); intro gb174 hg w7 hbox hb; have BK174 := Aside0.mk hbox; have GW174 := ge hg HB; have GE174 := ge hg HB; replace HB := bh HB hb; clear hb hbox hg) | ((with_reducible refine gate_dst (N := 4) rfl ?_); refine box_event ?hg (N := 4) ?hd (cs := #[.int .u64 0, .int .u64 0]) (t := 28) ?hr ?_; (case hd => rfl); (case hg => rfl); (case hr => first | (go_simp; done) | (go_simp; rfl)); intro gb175 hg w8 hbox hb; have BK175 := Aside0.mk hbox; have GW175 := ge hg HB; have GE175 := ge hg HB; have NB174_175 := nl hg BK174; have NB175_174 := ng hg BK174; replace BK174 := bb BK174 hb; replace HB := bh HB hb; clear hb hbox hg; have hnb9 := NB174_175.out; have hnc9 := NB175_174.out; obtain ⟨hcz10_0, hcz10_1⟩ := zc2 BK174; obtain ⟨hfz10_0, hfz10_1⟩ := zf2 BK174) | (go_at_call 26; (with_reducible refine (octet_Of.calls k a0 a1_0 a1_1 true _ A3.out).mono ?_); rintro e w11 ⟨rfl, hb⟩; replace BK174 := bb BK174 hb; replace BK175 := bb BK175 hb; replace HB := bh HB hb; (try clear hb); (try clear hb2); (try clear hk); (try clear hi); obtain ⟨hcz12_0, hcz12_1⟩ := zc2 BK174; obtain ⟨hfz12_0, hfz12_1⟩ := zf2 BK174) | (go_at_call 50; (with_reducible refine (tower_inv.calls k a0 a1_1 t177 _ A6.out).mono ?_); rintro e w' ⟨rfl, ⟨nd, rfl⟩⟩; (try first | exact ⟨rfl, _, World.drewN_drewN _ _ _⟩ | exact ⟨rfl, _, Eq.trans (World.drewN_drewN _ _ _) (congrArg (World.drewN _) (Nat.add_assoc _ _ _))⟩); obtain ⟨hcz13_0, hcz13_1⟩ := zc2 BK175; obtain ⟨hfz13_0, hfz13_1⟩ := zf2 BK175)))
   refine bodyPost_ret (results_cell_row rfl _ _ gb175 28 #[.int .u64 0, .int .u64 t177] (0, 0) _ rfl (by (with_reducible repeat refine bl ?_); refine blk_put (cs := #[.int .u64 0, .int .u64 0]) ?_ 1 _ rfl; (with_reducible repeat refine bl ?_); refine blk_put (cs := #[.int .u64 0, .int .u64 0]) ?_ 0 _ rfl; (with_reducible repeat refine bl ?_); exact BK175.out) Try.underlying28 rfl (by kernel_rfl)) rfl ?_
   exact ⟨by first | rfl | (simp [errW_none, errW_some] <;> rfl) | (simp [*, errW_none, errW_some] <;> rfl), bq HB.out⟩
  ·rw [if_neg c5] at H
   have c5b0 : decide (a0 ≤ 6) = false := decide_eq_false c5
   clear c5
   replace H := Option.bind_eq_some_iff.mp H
   obtain ⟨t178, A140, H⟩ := H
   replace H : ((tower_mul.f k 6 a1_1 (Go.bits .xor .u64 a1_1 t178)).bind fun t179 => ((tower_square.f k 6 a1_0).bind fun t180 => ((tower_inv.f k 6 (Go.bits .xor .u64 t179 t180)).bind fun t181 => ((tower_mul.f k 6 a1_0 t181).bind fun t182 => ((tower_mul.f k 6 (Go.bits .xor .u64 a1_1 t178) t181).bind fun t183 => (some (t182, t183))))))) = some (r1, r2) := H
   have A14 := Aside0.mk A140
   clear A140
   replace H := Option.bind_eq_some_iff.mp H
   obtain ⟨t179, A150, H⟩ := H
   replace H : ((tower_square.f k 6 a1_0).bind fun t180 => ((tower_inv.f k 6 (Go.bits .xor .u64 t179 t180)).bind fun t181 => ((tower_mul.f k 6 a1_0 t181).bind fun t182 => ((tower_mul.f k 6 (Go.bits .xor .u64 a1_1 t178) t181).bind fun t183 => (some (t182, t183)))))) = some (r1, r2) := H
   have A15 := Aside0.mk A150
   clear A150
   replace H := Option.bind_eq_some_iff.mp H
   obtain ⟨t180, A160, H⟩ := H
   replace H : ((tower_inv.f k 6 (Go.bits .xor .u64 t179 t180)).bind fun t181 => ((tower_mul.f k 6 a1_0 t181).bind fun t182 => ((tower_mul.f k 6 (Go.bits .xor .u64 a1_1 t178) t181).bind fun t183 => (some (t182, t183))))) = some (r1, r2) := H
   have A16 := Aside0.mk A160
   clear A160
   replace H := Option.bind_eq_some_iff.mp H
   obtain ⟨t181, A170, H⟩ := H
   replace H : ((tower_mul.f k 6 a1_0 t181).bind fun t182 => ((tower_mul.f k 6 (Go.bits .xor .u64 a1_1 t178) t181).bind fun t183 => (some (t182, t183)))) = some (r1, r2) := H
   have A17 := Aside0.mk A170
   clear A170
   replace H := Option.bind_eq_some_iff.mp H
   obtain ⟨t182, A180, H⟩ := H
   replace H : ((tower_mul.f k 6 (Go.bits .xor .u64 a1_1 t178) t181).bind fun t183 => (some (t182, t183))) = some (r1, r2) := H
   have A18 := Aside0.mk A180
   clear A180
   replace H := Option.bind_eq_some_iff.mp H
   obtain ⟨t183, A190, H⟩ := H
   replace H : (some (t182, t183)) = some (r1, r2) := H
   have A19 := Aside0.mk A190
   clear A190
   simp only [Option.some.injEq, Prod.mk.injEq] at H
   obtain ⟨rfl, rfl⟩ := H
   go_enter Try.func45, Try.ntmps45
   go_wp2_with (first | ((with_reducible refine gate_dst (N := 3) rfl ?_); refine box_event ?hg (N := 3) ?hd (cs := #[.int .u64 a1_0, .int .u64 a1_1]) (t := 28) ?hr ?_; (case hd => rfl); (case hg => rfl); (case hr => first | (go_simp; done) | (go_simp; rfl)); intro gb174 hg w20 hbox hb; have BK174 := Aside0.mk hbox; have GW174 := ge hg HB; have GE174 := ge hg HB; replace HB := bh HB hb; clear hb hbox hg) | ((with_reducible refine gate_dst (N := 4) rfl ?_); refine box_event ?hg (N := 4) ?hd (cs := #[.int .u64 0, .int .u64 0]) (t := 28) ?hr ?_; (case hd => rfl); (case hg => rfl); (case hr => first | (go_simp; done) | (go_simp; rfl)); intro gb175 hg w21 hbox hb; have BK175 := Aside0.mk hbox; have GW175 := ge hg HB; have GE175 := ge hg HB; have NB174_175 := nl hg BK174; have NB175_174 := ng hg BK174; replace BK174 := bb BK174 hb; replace HB := bh HB hb; clear hb hbox hg; have hnb22 := NB174_175.out; have hnc22 := NB175_174.out; obtain ⟨hcz23_0, hcz23_1⟩ := zc2 BK174; obtain ⟨hfz23_0, hfz23_1⟩ := zf2 BK174) | (go_at_call 26; (with_reducible refine (octet_Of.calls k a0 a1_0 a1_1 true _ A3.out).mono ?_); rintro e w24 ⟨rfl, hb⟩; replace BK174 := bb BK174 hb; replace BK175 := bb BK175 hb; replace HB := bh HB hb; (try clear hb); (try clear hb2); (try clear hk); (try clear hi); obtain ⟨hcz25_0, hcz25_1⟩ := zc2 BK174; obtain ⟨hfz25_0, hfz25_1⟩ := zf2 BK174) | (go_at_call 31; (with_reducible refine (tower_mulX.calls k 6 a1_0 t178 _ A14.out).mono ?_); rintro e w' ⟨rfl, ⟨nd, rfl⟩⟩; (try first | exact ⟨rfl, _, World.drewN_drewN _ _ _⟩ | exact ⟨rfl, _, Eq.trans (World.drewN_drewN _ _ _) (congrArg (World.drewN _) (Nat.add_assoc _ _ _))⟩)) | (go_at_call 30; (with_reducible refine (tower_mul.calls k 6 a1_1 (Go.bits .xor .u64 a1_1 t178) t179 _ A15.out).mono ?_); rintro e w' ⟨rfl, ⟨nd, rfl⟩⟩; (try first | exact ⟨rfl, _, World.drewN_drewN _ _ _⟩ | exact ⟨rfl, _, Eq.trans (World.drewN_drewN _ _ _) (congrArg (World.drewN _) (Nat.add_assoc _ _ _))⟩)) | (go_at_call 51; (with_reducible refine (tower_square.calls k 6 a1_0 t180 _ A16.out).mono ?_); rintro e w' ⟨rfl, ⟨nd, rfl⟩⟩; (try first | exact ⟨rfl, _, World.drewN_drewN _ _ _⟩ | exact ⟨rfl, _, Eq.trans (World.drewN_drewN _ _ _) (congrArg (World.drewN _) (Nat.add_assoc _ _ _))⟩)) | (go_at_call 50; (with_reducible refine (tower_inv.calls k 6 (Go.bits .xor .u64 t179 t180) t181 _ A17.out).mono ?_); rintro e w' ⟨rfl, ⟨nd, rfl⟩⟩; (try first | exact ⟨rfl, _, World.drewN_drewN _ _ _⟩ | exact ⟨rfl, _, Eq.trans (World.drewN_drewN _ _ _) (congrArg (World.drewN _) (Nat.add_assoc _ _ _))⟩)) | (go_at_call 30; (with_reducible refine (tower_mul.calls k 6 a1_0 t181 t182 _ A18.out).mono ?_); rintro e w' ⟨rfl, ⟨nd, rfl⟩⟩; (try first | exact ⟨rfl, _, World.drewN_drewN _ _ _⟩ | exact ⟨rfl, _, Eq.trans (World.drewN_drewN _ _ _) (congrArg (World.drewN _) (Nat.add_assoc _ _ _))⟩)) | (go_at_call 30; (with_reducible refine (tower_mul.calls k 6 (Go.bits .xor .u64 a1_1 t178) t181 t183 _ A19.out).mono ?_); rintro e w' ⟨rfl, ⟨nd, rfl⟩⟩; (try first | exact ⟨rfl, _, World.drewN_drewN _ _ _⟩ | exact ⟨rfl, _, Eq.trans (World.drewN_drewN _ _ _) (congrArg (World.drewN _) (Nat.add_assoc _ _ _))⟩); obtain ⟨hcz26_0, hcz26_1⟩ := zc2 BK175; obtain ⟨hfz26_0, hfz26_1⟩ := zf2 BK175))
   repeat (go_quiet (first | ((with_reducible refine gate_dst (N := 3) rfl ?_); refine box_event ?hg (N := 3) ?hd (cs := #[.int .u64 a1_0, .int .u64 a1_1]) (t := 28) ?hr ?_; (case hd => rfl); (case hg => rfl); (case hr => first | (go_simp; done) | (go_simp; rfl)); intro gb174 hg w20 hbox hb; have BK174 := Aside0.mk hbox; have GW174 := ge hg HB; have GE174 := ge hg HB; replace HB := bh HB hb; clear hb hbox hg) | ((with_reducible refine gate_dst (N := 4) rfl ?_); refine box_event ?hg (N := 4) ?hd (cs := #[.int .u64 0, .int .u64 0]) (t := 28) ?hr ?_; (case hd => rfl); (case hg => rfl); (case hr => first | (go_simp; done) | (go_simp; rfl)); intro gb175 hg w21 hbox hb; have BK175 := Aside0.mk hbox; have GW175 := ge hg HB; have GE175 := ge hg HB; have NB174_175 := nl hg BK174; have NB175_174 := ng hg BK174; replace BK174 := bb BK174 hb; replace HB := bh HB hb; clear hb hbox hg; have hnb22 := NB174_175.out; have hnc22 := NB175_174.out; obtain ⟨hcz23_0, hcz23_1⟩ := zc2 BK174; obtain ⟨hfz23_0, hfz23_1⟩ := zf2 BK174) | (go_at_call 26; (with_reducible refine (octet_Of.calls k a0 a1_0 a1_1 true _ A3.out).mono ?_); rintro e w24 ⟨rfl, hb⟩; replace BK174 := bb BK174 hb; replace BK175 := bb BK175 hb; replace HB := bh HB hb; (try clear hb); (try clear hb2); (try clear hk); (try clear hi); obtain ⟨hcz25_0, hcz25_1⟩ := zc2 BK174; obtain ⟨hfz25_0, hfz25_1⟩ := zf2 BK174) | (go_at_call 31; (with_reducible refine (tower_mulX.calls k 6 a1_0 t178 _ A14.out).mono ?_); rintro e w' ⟨rfl, ⟨nd, rfl⟩⟩; (try first | exact ⟨rfl, _, World.drewN_drewN _ _ _⟩ | exact ⟨rfl, _, Eq.trans (World.drewN_drewN _ _ _) (congrArg (World.drewN _) (Nat.add_assoc _ _ _))⟩)) | (go_at_call 30; (with_reducible refine (tower_mul.calls k 6 a1_1 (Go.bits .xor .u64 a1_1 t178) t179 _ A15.out).mono ?_); rintro e w' ⟨rfl, ⟨nd, rfl⟩⟩; (try first | exact ⟨rfl, _, World.drewN_drewN _ _ _⟩ | exact ⟨rfl, _, Eq.trans (World.drewN_drewN _ _ _) (congrArg (World.drewN _) (Nat.add_assoc _ _ _))⟩)) | (go_at_call 51; (with_reducible refine (tower_square.calls k 6 a1_0 t180 _ A16.out).mono ?_); rintro e w' ⟨rfl, ⟨nd, rfl⟩⟩; (try first | exact ⟨rfl, _, World.drewN_drewN _ _ _⟩ | exact ⟨rfl, _, Eq.trans (World.drewN_drewN _ _ _) (congrArg (World.drewN _) (Nat.add_assoc _ _ _))⟩)) | (go_at_call 50; (with_reducible refine (tower_inv.calls k 6 (Go.bits .xor .u64 t179 t180) t181 _ A17.out).mono ?_); rintro e w' ⟨rfl, ⟨nd, rfl⟩⟩; (try first | exact ⟨rfl, _, World.drewN_drewN _ _ _⟩ | exact ⟨rfl, _, Eq.trans (World.drewN_drewN _ _ _) (congrArg (World.drewN _) (Nat.add_assoc _ _ _))⟩)) | (go_at_call 30; (with_reducible refine (tower_mul.calls k 6 a1_0 t181 t182 _ A18.out).mono ?_); rintro e w' ⟨rfl, ⟨nd, rfl⟩⟩; (try first | exact ⟨rfl, _, World.drewN_drewN _ _ _⟩ | exact ⟨rfl, _, Eq.trans (World.drewN_drewN _ _ _) (congrArg (World.drewN _) (Nat.add_assoc _ _ _))⟩)) | (go_at_call 30; (with_reducible refine (tower_mul.calls k 6 (Go.bits .xor .u64 a1_1 t178) t181 t183 _ A19.out).mono ?_); rintro e w' ⟨rfl, ⟨nd, rfl⟩⟩; (try first | exact ⟨rfl, _, World.drewN_drewN _ _ _⟩ | exact ⟨rfl, _, Eq.trans (World.drewN_drewN _ _ _) (congrArg (World.drewN _) (Nat.add_assoc _ _ _))⟩); obtain ⟨hcz26_0, hcz26_1⟩ := zc2 BK175; obtain ⟨hfz26_0, hfz26_1⟩ := zf2 BK175)); try go_wp2_with (first | ((with_reducible refine gate_dst (N := 3) rfl ?_); refine box_event ?hg (N := 3) ?hd (cs := #[.int .u64 a1_0, .int .u64 a1_1]) (t := 28) ?hr ?_; (case hd => rfl); (case hg => rfl); (case hr => first | (go_simp; done) | (go_simp; rfl)); intro gb174 hg w20 hbox hb; have BK174 := Aside0.mk hbox; have GW174 := ge hg HB; have GE174 := ge hg HB; replace HB := bh HB hb; clear hb hbox hg) | ((with_reducible refine gate_dst (N := 4) rfl ?_); refine box_event ?hg (N := 4) ?hd (cs := #[.int .u64 0, .int .u64 0]) (t := 28) ?hr ?_; (case hd => rfl); (case hg => rfl); (case hr => first | (go_simp; done) | (go_simp; rfl)); intro gb175 hg w21 hbox hb; have BK175 := Aside0.mk hbox; have GW175 := ge hg HB; have GE175 := ge hg HB; have NB174_175 := nl hg BK174; have NB175_174 := ng hg BK174; replace BK174 := bb BK174 hb; replace HB := bh HB hb; clear hb hbox hg; have hnb22 := NB174_175.out; have hnc22 := NB175_174.out; obtain ⟨hcz23_0, hcz23_1⟩ := zc2 BK174; obtain ⟨hfz23_0, hfz23_1⟩ := zf2 BK174) | (go_at_call 26; (with_reducible refine (octet_Of.calls k a0 a1_0 a1_1 true _ A3.out).mono ?_); rintro e w24 ⟨rfl, hb⟩; replace BK174 := bb BK174 hb; replace BK175 := bb BK175 hb; replace HB := bh HB hb; (try clear hb); (try clear hb2); (try clear hk); (try clear hi); obtain ⟨hcz25_0, hcz25_1⟩ := zc2 BK174; obtain ⟨hfz25_0, hfz25_1⟩ := zf2 BK174) | (go_at_call 31; (with_reducible refine (tower_mulX.calls k 6 a1_0 t178 _ A14.out).mono ?_); rintro e w' ⟨rfl, ⟨nd, rfl⟩⟩; (try first | exact ⟨rfl, _, World.drewN_drewN _ _ _⟩ | exact ⟨rfl, _, Eq.trans (World.drewN_drewN _ _ _) (congrArg (World.drewN _) (Nat.add_assoc _ _ _))⟩)) | (go_at_call 30; (with_reducible refine (tower_mul.calls k 6 a1_1 (Go.bits .xor .u64 a1_1 t178) t179 _ A15.out).mono ?_); rintro e w' ⟨rfl, ⟨nd, rfl⟩⟩; (try first | exact ⟨rfl, _, World.drewN_drewN _ _ _⟩ | exact ⟨rfl, _, Eq.trans (World.drewN_drewN _ _ _) (congrArg (World.drewN _) (Nat.add_assoc _ _ _))⟩)) | (go_at_call 51; (with_reducible refine (tower_square.calls k 6 a1_0 t180 _ A16.out).mono ?_); rintro e w' ⟨rfl, ⟨nd, rfl⟩⟩; (try first | exact ⟨rfl, _, World.drewN_drewN _ _ _⟩ | exact ⟨rfl, _, Eq.trans (World.drewN_drewN _ _ _) (congrArg (World.drewN _) (Nat.add_assoc _ _ _))⟩)) | (go_at_call 50; (with_reducible refine (tower_inv.calls k 6 (Go.bits .xor .u64 t179 t180) t181 _ A17.out).mono ?_); rintro e w' ⟨rfl, ⟨nd, rfl⟩⟩; (try first | exact ⟨rfl, _, World.drewN_drewN _ _ _⟩ | exact ⟨rfl, _, Eq.trans (World.drewN_drewN _ _ _) (congrArg (World.drewN _) (Nat.add_assoc _ _ _))⟩)) | (go_at_call 30; (with_reducible refine (tower_mul.calls k 6 a1_0 t181 t182 _ A18.out).mono ?_); rintro e w' ⟨rfl, ⟨nd, rfl⟩⟩; (try first | exact ⟨rfl, _, World.drewN_drewN _ _ _⟩ | exact ⟨rfl, _, Eq.trans (World.drewN_drewN _ _ _) (congrArg (World.drewN _) (Nat.add_assoc _ _ _))⟩)) | (go_at_call 30; (with_reducible refine (tower_mul.calls k 6 (Go.bits .xor .u64 a1_1 t178) t181 t183 _ A19.out).mono ?_); rintro e w' ⟨rfl, ⟨nd, rfl⟩⟩; (try first | exact ⟨rfl, _, World.drewN_drewN _ _ _⟩ | exact ⟨rfl, _, Eq.trans (World.drewN_drewN _ _ _) (congrArg (World.drewN _) (Nat.add_assoc _ _ _))⟩); obtain ⟨hcz26_0, hcz26_1⟩ := zc2 BK175; obtain ⟨hfz26_0, hfz26_1⟩ := zf2 BK175)))
   refine bodyPost_ret (results_cell_row rfl _ _ gb175 28 #[.int .u64 t182, .int .u64 t183] (0, 0) _ rfl (by (with_reducible repeat refine bl ?_); refine blk_put (cs := #[.int .u64 t182, .int .u64 0]) ?_ 1 _ rfl; (with_reducible repeat refine bl ?_); refine blk_put (cs := #[.int .u64 0, .int .u64 0]) ?_ 0 _ rfl; (with_reducible repeat refine bl ?_); exact BK175.out) Try.underlying28 rfl (by kernel_rfl)) rfl ?_
   exact ⟨by first | rfl | (simp [errW_none, errW_some] <;> rfl) | (simp [*, errW_none, errW_some] <;> rfl), bq HB.out⟩
 ·replace c4 := Bool.eq_false_iff.mpr c4
  subst c4
  have H1 : (some (0, 0)) = some (r1, r2) := by rw [if_neg (show ¬ (false = true) by decide)] at H; exact H
  clear H
  have H := H1
  clear H1
  simp only [Option.some.injEq, Prod.mk.injEq] at H
  obtain ⟨rfl, rfl⟩ := H
  go_enter Try.func45, Try.ntmps45
  go_wp2_with (first | ((with_reducible refine gate_dst (N := 3) rfl ?_); refine box_event ?hg (N := 3) ?hd (cs := #[.int .u64 a1_0, .int .u64 a1_1]) (t := 28) ?hr ?_; (case hd => rfl); (case hg => rfl); (case hr => first | (go_simp; done) | (go_simp; rfl)); intro gb174 hg w27 hbox hb; have BK174 := Aside0.mk hbox; have GW174 := ge hg HB; have GE174 := ge hg HB; replace HB := bh HB hb; clear hb hbox hg) | ((with_reducible refine gate_dst (N := 4) rfl ?_); refine box_event ?hg (N := 4) ?hd (cs := #[.int .u64 0, .int .u64 0]) (t := 28) ?hr ?_; (case hd => rfl); (case hg => rfl); (case hr => first | (go_simp; done) | (go_simp; rfl)); intro gb175 hg w28 hbox hb; have BK175 := Aside0.mk hbox; have GW175 := ge hg HB; have GE175 := ge hg HB; have NB174_175 := nl hg BK174; have NB175_174 := ng hg BK174; replace BK174 := bb BK174 hb; replace HB := bh HB hb; clear hb hbox hg; have hnb29 := NB174_175.out; have hnc29 := NB175_174.out; obtain ⟨hcz30_0, hcz30_1⟩ := zc2 BK174; obtain ⟨hfz30_0, hfz30_1⟩ := zf2 BK174) | (go_at_call 26; (with_reducible refine (octet_Of.calls k a0 a1_0 a1_1 false _ A3.out).mono ?_); rintro e w31 ⟨rfl, hb⟩; replace BK174 := bb BK174 hb; replace BK175 := bb BK175 hb; replace HB := bh HB hb; (try clear hb); (try clear hb2); (try clear hk); (try clear hi); obtain ⟨hcz32_0, hcz32_1⟩ := zc2 BK175; obtain ⟨hfz32_0, hfz32_1⟩ := zf2 BK175))
  repeat (go_quiet (first | ((with_reducible refine gate_dst (N := 3) rfl ?_); refine box_event ?hg (N := 3) ?hd (cs := #[.int .u64 a1_0, .int .u64 a1_1]) (t := 28) ?hr ?_; (case hd => rfl); (case hg => rfl); (case hr => first | (go_simp; done) | (go_simp; rfl)); intro gb174 hg w27 hbox hb; have BK174 := Aside0.mk hbox; have GW174 := ge hg HB; have GE174 := ge hg HB; replace HB := bh HB hb; clear hb hbox hg) | ((with_reducible refine gate_dst (N := 4) rfl ?_); refine box_event ?hg (N := 4) ?hd (cs := #[.int .u64 0, .int .u64 0]) (t := 28) ?hr ?_; (case hd => rfl); (case hg => rfl); (case hr => first | (go_simp; done) | (go_simp; rfl)); intro gb175 hg w28 hbox hb; have BK175 := Aside0.mk hbox; have GW175 := ge hg HB; have GE175 := ge hg HB; have NB174_175 := nl hg BK174; have NB175_174 := ng hg BK174; replace BK174 := bb BK174 hb; replace HB := bh HB hb; clear hb hbox hg; have hnb29 := NB174_175.out; have hnc29 := NB175_174.out; obtain ⟨hcz30_0, hcz30_1⟩ := zc2 BK174; obtain ⟨hfz30_0, hfz30_1⟩ := zf2 BK174) | (go_at_call 26; (with_reducible refine (octet_Of.calls k a0 a1_0 a1_1 false _ A3.out).mono ?_); rintro e w31 ⟨rfl, hb⟩; replace BK174 := bb BK174 hb; replace BK175 := bb BK175 hb; replace HB := bh HB hb; (try clear hb); (try clear hb2); (try clear hk); (try clear hi); obtain ⟨hcz32_0, hcz32_1⟩ := zc2 BK175; obtain ⟨hfz32_0, hfz32_1⟩ := zf2 BK175)); try go_wp2_with (first | ((with_reducible refine gate_dst (N := 3) rfl ?_); refine box_event ?hg (N := 3) ?hd (cs := #[.int .u64 a1_0, .int .u64 a1_1]) (t := 28) ?hr ?_; (case hd => rfl); (case hg => rfl); (case hr => first | (go_simp; done) | (go_simp; rfl)); intro gb174 hg w27 hbox hb; have BK174 := Aside0.mk hbox; have GW174 := ge hg HB; have GE174 := ge hg HB; replace HB := bh HB hb; clear hb hbox hg) | ((with_reducible refine gate_dst (N := 4) rfl ?_); refine box_event ?hg (N := 4) ?hd (cs := #[.int .u64 0, .int .u64 0]) (t := 28) ?hr ?_; (case hd => rfl); (case hg => rfl); (case hr => first | (go_simp; done) | (go_simp; rfl)); intro gb175 hg w28 hbox hb; have BK175 := Aside0.mk hbox; have GW175 := ge hg HB; have GE175 := ge hg HB; have NB174_175 := nl hg BK174; have NB175_174 := ng hg BK174; replace BK174 := bb BK174 hb; replace HB := bh HB hb; clear hb hbox hg; have hnb29 := NB174_175.out; have hnc29 := NB175_174.out; obtain ⟨hcz30_0, hcz30_1⟩ := zc2 BK174; obtain ⟨hfz30_0, hfz30_1⟩ := zf2 BK174) | (go_at_call 26; (with_reducible refine (octet_Of.calls k a0 a1_0 a1_1 false _ A3.out).mono ?_); rintro e w31 ⟨rfl, hb⟩; replace BK174 := bb BK174 hb; replace BK175 := bb BK175 hb; replace HB := bh HB hb; (try clear hb); (try clear hb2); (try clear hk); (try clear hi); obtain ⟨hcz32_0, hcz32_1⟩ := zc2 BK175; obtain ⟨hfz32_0, hfz32_1⟩ := zf2 BK175)))
  refine bodyPost_ret (results_cell_row rfl _ _ gb175 28 #[.int .u64 0, .int .u64 0] (0, 0) _ rfl (by (with_reducible repeat refine bl ?_); refine blk_put (cs := #[.int .u64 0, .int .u64 0]) ?_ 1 _ rfl; (with_reducible repeat refine bl ?_); refine blk_put (cs := #[.int .u64 0, .int .u64 0]) ?_ 0 _ rfl; (with_reducible repeat refine bl ?_); exact BK175.out) Try.underlying28 rfl (by kernel_rfl)) rfl ?_
  exact ⟨by first | rfl | (simp [errW_none, errW_some] <;> rfl) | (simp [*, errW_none, errW_some] <;> rfl), bq HB.out⟩

/-! ### tower_Div: function 38 -/
def tower_Div.f (k : Nat) (a0 : Int) (a1_0 : Int) (a1_1 : Int) (a2_0 : Int) (a2_1 : Int) : Option (Int × Int) := (tower_Inv.f k a0 a2_0 a2_1).bind fun bt187 => ((tower_Mul.f k a0 a1_0 a1_1 bt187.1 bt187.2).bind fun bt189 => (some (bt189.1, bt189.2)))
theorem tower_Div.mono : ∀ a0 a1 a2 a3 a4 k, LeO (tower_Div.f k a0 a1 a2 a3 a4) (tower_Div.f (k + 1) a0 a1 a2 a3 a4) := by
 intro a0 a1 a2 a3 a4 k
 unfold tower_Div.f
 repeat' first
   | (with_reducible exact tower_Inv.mono _ _ _ _)
   | (with_reducible exact tower_Mul.mono _ _ _ _ _ _)
   | (with_reducible exact LeO.refl _)
   | (with_reducible exact LeO.none _)
   | (with_reducible refine LeO.ite ?_ ?_)
   | (with_reducible refine LeO.bind ?_ (fun _ => ?_))
   | exact tower_Inv.mono _ _ _ _
   | exact tower_Mul.mono _ _ _ _ _ _
   | exact LeO.none _
   | refine LeO.ite ?_ ?_
   | refine LeO.bind ?_ (fun _ => ?_)
set_option maxHeartbeats 8000000 in
set_option maxRecDepth 100000 in
theorem tower_Div.calls (k : Nat) (a0 : Int) (a1_0 : Int) (a1_1 : Int) (a2_0 : Int) (a2_1 : Int) (r1 : Int) (r2 : Int) (w : World) (h : tower_Div.f k a0 a1_0 a1_1 a2_0 a2_1 = some (r1, r2)) :
  Calls Try.prog 38 #[.int .i64 a0, .agg #[.int .u64 a1_0, .int .u64 a1_1], .agg #[.int .u64 a2_0, .int .u64 a2_1]] w fun e w' => e = .returned (.agg #[.int .u64 r1, .int .u64 r2]) ∧ Below w.heap.size w w' := by
 have hu28 := Try.underlying28
 have HB := Aside0.mk (Below.refl w.heap.size w)
 have H : ((tower_Inv.f k a0 a2_0 a2_1).bind fun bt187 => ((tower_Mul.f k a0 a1_0 a1_1 bt187.1 bt187.2).bind fun bt189 => (some (bt189.1, bt189.2)))) = some (r1, r2) := h
 clear h
 replace H := Option.bind_eq_some_iff.mp H
 obtain ⟨⟨t187, t188⟩, A40, H⟩ := H
 replace H : ((tower_Mul.f k a0 a1_0 a1_1 t187 t188).bind fun bt189 => (some (bt189.1, bt189.2))) = some (r1, r2) := H
 have A4 := Aside0.mk A40
 clear A40
 replace H := Option.bind_eq_some_iff.mp H
 obtain ⟨⟨t189, t190⟩, A50, H⟩ := H
 replace H : (some (t189, t190)) = some (r1, r2) := H
 have A5 := Aside0.mk A50
 clear A50
 simp only [Option.some.injEq, Prod.mk.injEq] at H
 obtain ⟨rfl, rfl⟩ := H
 go_enter Try.func38, Try.ntmps38
 try go_wp2_with (first | ((with_reducible refine gate_dst (N := 4) rfl ?_); refine box_event ?hg (N := 4) ?hd (cs := #[.int .u64 a1_0, .int .u64 a1_1]) (t := 28) ?hr ?_; (case hd => rfl); (case hg => rfl); (case hr => first | (go_simp; done) | (go_simp; rfl)); intro gb184 hg w6 hbox hb; have BK184 := Aside0.mk hbox; have GW184 := ge hg HB; have GE184 := ge hg HB; replace HB := bh HB hb; clear hb hbox hg) | ((with_reducible refine gate_dst (N := 5) rfl ?_); refine box_event ?hg (N := 5) ?hd (cs := #[.int .u64 a2_0, .int .u64 a2_1]) (t := 28) ?hr ?_; (case hd => rfl); (case hg => rfl); (case hr => first | (go_simp; done) | (go_simp; rfl)); intro gb185 hg w7 hbox hb; have BK185 := Aside0.mk hbox; have GW185 := ge hg HB; have GE185 := ge hg HB; have NB184_185 := nl hg BK184; have NB185_184 := ng hg BK184; replace BK184 := bb BK184 hb; replace HB := bh HB hb; clear hb hbox hg) | ((with_reducible refine gate_dst (N := 6) rfl ?_); refine box_event ?hg (N := 6) ?hd (cs := #[.int .u64 0, .int .u64 0]) (t := 28) ?hr ?_; (case hd => rfl); (case hg => rfl); (case hr => first | (go_simp; done) | (go_simp; rfl)); intro gb186 hg w8 hbox hb; have BK186 := Aside0.mk hbox; have GW186 := ge hg HB; have GE186 := ge hg HB; have NB184_186 := nl hg BK184; have NB186_184 := ng hg BK184; have NB185_186 := nl hg BK185; have NB186_185 := ng hg BK185; replace BK184 := bb BK184 hb; replace BK185 := bb BK185 hb; replace HB := bh HB hb; clear hb hbox hg))
 replace BK184 := Aside0.mk (blk_drew BK184.out)
 replace BK185 := Aside0.mk (blk_drew BK185.out)
 replace BK186 := Aside0.mk (blk_drew BK186.out)
 replace HB := Aside0.mk (below_drew1 HB.out)
 refine start_ (n := 7) (S := fun w' => w'.cell? ⟨gb184, 0, none⟩ = some (.int .u64 a1_0) ∧ w'.cell? ⟨gb184, 1, none⟩ = some (.int .u64 a1_1) ∧ w'.cell? ⟨gb185, 0, none⟩ = some (.int .u64 a2_0) ∧ w'.cell? ⟨gb185, 1, none⟩ = some (.int .u64 a2_1)) (ds := []) #[false, false, false, false, false, false, false] (by kernel_rfl) rfl rfl ⟨(blk_cell BK184.out 0).trans rfl, (blk_cell BK184.out 1).trans rfl, (blk_cell BK185.out 0).trans rfl, (blk_cell BK185.out 1).trans rfl⟩ (fun hHeld => ?_)
 generalize w8.drew = w9 at BK184 BK185 BK186 HB hHeld ⊢
 refine pure_ (i := 0) (N := some 7) (v := ?_) (a' := ?_) #[true, false, false, false, false, false, false] rfl rfl (by kernel_rfl) (fun _ _ _ h => h) (Or.inl ⟨by rfl, ?_⟩) ?_ ?_
 rotate_left
 ·intro w'
  go_simp
  with_reducible rfl
 rotate_left
 ·simp only [Act.put, List.setIfInBounds_toArray, List.set_cons_zero, List.set_cons_succ, i64_w, i32_w]
  rfl
 refine pure_ (i := 2) (N := some 9) (v := ?_) (a' := ?_) #[true, false, true, false, false, false, false] rfl rfl (by kernel_rfl) (fun _ _ _ h => h) (Or.inl ⟨by rfl, ?_⟩) ?_ ?_
 rotate_left
 ·intro w'
  go_simp
  with_reducible rfl
 rotate_left
 ·simp only [Act.put, List.setIfInBounds_toArray, List.set_cons_zero, List.set_cons_succ, i64_w, i32_w]
  rfl
 refine take_ (i := 1) (N := some 8) (v := ?_) (a' := ?_) #[true, true, true, false, false, false, false] rfl rfl (by kernel_rfl) (fun _ _ _ h => h) (Or.inl ⟨by rfl, ?_⟩) hHeld ?_ ?_
 rotate_left
 ·rintro w' ⟨s0, s1, s2, s3⟩
  go_simp
  with_reducible rfl
 rotate_left
 ·simp only [Act.put, List.setIfInBounds_toArray, List.set_cons_zero, List.set_cons_succ, i64_w, i32_w]
  rfl
 refine take_ (i := 3) (N := some 10) (v := ?_) (a' := ?_) #[true, true, true, true, false, false, false] rfl rfl (by kernel_rfl) (fun _ _ _ h => h) (Or.inl ⟨by rfl, ?_⟩) hHeld ?_ ?_
 rotate_left
 ·rintro w' ⟨s0, s1, s2, s3⟩
  go_simp
  with_reducible rfl
 rotate_left
 ·simp only [Act.put, List.setIfInBounds_toArray, List.set_cons_zero, List.set_cons_succ, i64_w, i32_w]
  rfl
 refine one_ (i := 4) (N := some 11) #[true, true, true, true, true, false, false] rfl rfl (by kernel_rfl) (by decide) (fun K hK => ?_)
 refine goes_ Try.func45 (by kernel_rfl) rfl #[.int .i64 a0, .agg #[.int .u64 a2_0, .int .u64 a2_1]] (by rfl) rfl rfl (by (try simp only [List.map_toArray, List.map_cons, List.map_nil]); first | done | rfl | (simp only [List.length_drop, List.length_take]; rfl)) ?_
 with_reducible refine (tower_Inv.calls k a0 a2_0 a2_1 t187 t188 _ A4.out).mono ?_
 rintro e w10 ⟨rfl, hb⟩
 refine ⟨_, rfl, ?_⟩
 replace BK184 := bb BK184 hb
 replace BK185 := bb BK185 hb
 replace BK186 := bb BK186 hb
 replace HB := bh HB hb
 (try clear hb)
 (try clear hb2)
 (try clear hk)
 (try clear hi)
 refine hK.out _ _ ⟨(blk_cell BK184.out 0).trans rfl, (blk_cell BK184.out 1).trans rfl, (blk_cell BK185.out 0).trans rfl, (blk_cell BK185.out 1).trans rfl⟩ (fun hHeld => ?_)
 clear hK K
 refine norm_ (a' := ?_) ?_ ?_
 rotate_left
 ·show Act.put _ (some 11) _ = _
  simp only [Act.put, List.setIfInBounds_toArray, List.set_cons_zero, List.set_cons_succ, i64_w, i32_w]
  rfl
 refine one_ (i := 5) (N := some 12) #[true, true, true, true, true, true, false] rfl rfl (by kernel_rfl) (by decide) (fun K hK => ?_)
 refine goes_ Try.func13 (by kernel_rfl) rfl #[.int .i64 a0, .agg #[.int .u64 a1_0, .int .u64 a1_1], .agg #[.int .u64 t187, .int .u64 t188]] (by rfl) rfl rfl (by (try simp only [List.map_toArray, List.map_cons, List.map_nil]); first | done | rfl | (simp only [List.length_drop, List.length_take]; rfl)) ?_
 with_reducible refine (tower_Mul.calls k a0 a1_0 a1_1 t187 t188 t189 t190 _ A5.out).mono ?_
 rintro e w11 ⟨rfl, hb⟩
 refine ⟨_, rfl, ?_⟩
 replace BK184 := bb BK184 hb
 replace BK185 := bb BK185 hb
 replace BK186 := bb BK186 hb
 replace HB := bh HB hb
 (try clear hb)
 (try clear hb2)
 (try clear hk)
 (try clear hi)
 refine hK.out _ _ ⟨(blk_cell BK184.out 0).trans rfl, (blk_cell BK184.out 1).trans rfl, (blk_cell BK185.out 0).trans rfl, (blk_cell BK185.out 1).trans rfl⟩ (fun hHeld => ?_)
 clear hK K
 refine norm_ (a' := ?_) ?_ ?_
 rotate_left
 ·show Act.put _ (some 12) _ = _
  simp only [Act.put, List.setIfInBounds_toArray, List.set_cons_zero, List.set_cons_succ, i64_w, i32_w]
  rfl
 refine one_ (i := 6) (N := none) #[true, true, true, true, true, true, true] rfl rfl (by kernel_rfl) (by decide) (fun K hK => ?_)
 have hs12 : w11.cell? ⟨gb186, 0, none⟩ = some (.int .u64 0) := (blk_cell BK186.out 0).trans rfl
 have hfs12 := blk_frozen BK186.out 0
 have hns12_0 := NB184_186.out
 have hns12_1 := NB185_186.out
 have hms12_0 := NB186_184.out
 have hms12_1 := NB186_185.out
 have hs13 : w11.cell? ⟨gb186, 1, none⟩ = some (.int .u64 0) := (blk_cell BK186.out 1).trans rfl
 have hfs13 := blk_frozen BK186.out 1
 have hns13_0 := NB184_186.out
 have hns13_1 := NB185_186.out
 have hms13_0 := NB186_184.out
 have hms13_1 := NB186_185.out
 refine skip_ (w1 := ?_) (by rfl) rfl ?_ ?_
 rotate_left
 ·go_simp
  rfl
 refine hK.out _ _ ⟨((cell_far (p := ⟨gb186, _, none⟩) NB184_186.out _).trans (((cell_far (p := ⟨gb186, _, none⟩) NB184_186.out _).trans (hHeld.1)))), ((cell_far (p := ⟨gb186, _, none⟩) NB184_186.out _).trans (((cell_far (p := ⟨gb186, _, none⟩) NB184_186.out _).trans (hHeld.2.1)))), ((cell_far (p := ⟨gb186, _, none⟩) NB185_186.out _).trans (((cell_far (p := ⟨gb186, _, none⟩) NB185_186.out _).trans (hHeld.2.2.1)))), ((cell_far (p := ⟨gb186, _, none⟩) NB185_186.out _).trans (((cell_far (p := ⟨gb186, _, none⟩) NB185_186.out _).trans (hHeld.2.2.2))))⟩ (fun hHeld => ?_)
 clear hK K
 refine done_ (by kernel_rfl) ?_
 try go_wp2
 refine bodyPost_ret (results_cell_row rfl _ _ gb186 28 #[.int .u64 t189, .int .u64 t190] (0, 0) _ rfl (by (with_reducible repeat refine bl ?_); refine blk_put (cs := #[.int .u64 t189, .int .u64 0]) ?_ 1 _ rfl; (with_reducible repeat refine bl ?_); refine blk_put (cs := #[.int .u64 0, .int .u64 0]) ?_ 0 _ rfl; (with_reducible repeat refine bl ?_); exact BK186.out) Try.underlying28 rfl (by kernel_rfl)) rfl ?_
 exact ⟨by first | rfl | (simp [errW_none, errW_some] <;> rfl) | (simp [*, errW_none, errW_some] <;> rfl), bq HB.out⟩

-- NOT PRINTED: function 27 (line_weights)

/-! ### tower_Dot: function 28 -/
mutual
def tower_Dot.l0 : Nat → Int → List (S28) → List (S28) → Int → Int → Int → Int → Option (Int × Int)
 | 0, _, _, _, _, _, _, _ => none
 | k + 1, x0, x1, x2, x16, x17, x193000, x193001 => if x17 < x16 then (if 0 ≤ x17 then (if x17 < (x1.length : Int) then ((octet_Of.f k x0 ((rd_T28 x1 x17).f0) ((rd_T28 x1 x17).f1)).bind fun t194 => (if t194 = true then (if x17 < (x2.length : Int) then ((octet_Of.f k x0 ((rd_T28 x2 x17).f0) ((rd_T28 x2 x17).f1)).bind fun t196 => (tower_Dot.j1 k x0 x1 x2 x17 x16 x17 (!t196) x193000 x193001)) else (none)) else (tower_Dot.j1 k x0 x1 x2 x17 x16 x17 true x193000 x193001))) else (none)) else (none)) else (some (x193000, x193001))
def tower_Dot.j1 : Nat → Int → List (S28) → List (S28) → Int → Int → Int → Bool → Int → Int → Option (Int × Int)
 | 0, _, _, _, _, _, _, _, _, _ => none
 | k + 1, x0, x1, x2, x8, x16, x17, x35, x193000, x193001 => if x35 = true then (some (0, 0)) else (if 0 ≤ x8 then (if x8 < (x1.length : Int) then (if x8 < (x2.length : Int) then ((tower_Mul.f k x0 ((rd_T28 x1 x8).f0) ((rd_T28 x1 x8).f1) ((rd_T28 x2 x8).f0) ((rd_T28 x2 x8).f1)).bind fun bt199 => ((tower_Add.f x193000 x193001 bt199.1 bt199.2).bind fun bt201 => (tower_Dot.l0 k x0 x1 x2 x16 (wrap64 (x17 + 1)) bt201.1 bt201.2))) else (none)) else (none)) else (none))
end
def tower_Dot.f (k : Nat) (a0 : Int) (l1 : List (S28)) (l2 : List (S28)) : Option (Int × Int) := if (l1.length : Int) = (l2.length : Int) then (tower_Dot.l0 k a0 l1 l2 (l1.length : Int) 0 0 0) else (some (0, 0))
theorem tower_Dot.mono_l : ∀ k, (∀ y0 y1 y2 y3 y4 y5 y6, LeO (tower_Dot.l0 k y0 y1 y2 y3 y4 y5 y6) (tower_Dot.l0 (k + 1) y0 y1 y2 y3 y4 y5 y6)) ∧ (∀ y0 y1 y2 y3 y4 y5 y6 y7 y8, LeO (tower_Dot.j1 k y0 y1 y2 y3 y4 y5 y6 y7 y8) (tower_Dot.j1 (k + 1) y0 y1 y2 y3 y4 y5 y6 y7 y8))
 | 0 => ⟨fun _ _ _ _ _ _ _ r h => by simp [tower_Dot.l0] at h, fun _ _ _ _ _ _ _ _ _ r h => by simp [tower_Dot.j1] at h⟩
 | k + 1 => by
  obtain ⟨ih0, ih1⟩ := tower_Dot.mono_l k
  refine ⟨?_, ?_⟩
  ·intro y0 y1 y2 y3 y4 y5 y6
   unfold tower_Dot.l0
   repeat' first
   | (with_reducible exact ih0 _ _ _ _ _ _ _)
   | (with_reducible exact ih1 _ _ _ _ _ _ _ _ _)
   | (with_reducible exact octet_Of.mono _ _ _ _)
   | (with_reducible exact tower_Mul.mono _ _ _ _ _ _)
   | (with_reducible exact LeO.refl _)
   | (with_reducible exact LeO.none _)
   | (with_reducible refine LeO.ite ?_ ?_)
   | (with_reducible refine LeO.bind ?_ (fun _ => ?_))
   | exact ih0 _ _ _ _ _ _ _
   | exact ih1 _ _ _ _ _ _ _ _ _
   | exact octet_Of.mono _ _ _ _
   | exact tower_Mul.mono _ _ _ _ _ _
   | exact LeO.none _
   | refine LeO.ite ?_ ?_
   | refine LeO.bind ?_ (fun _ => ?_)
  ·intro y0 y1 y2 y3 y4 y5 y6 y7 y8
   unfold tower_Dot.j1
   repeat' first
   | (with_reducible exact ih0 _ _ _ _ _ _ _)
   | (with_reducible exact ih1 _ _ _ _ _ _ _ _ _)
   | (with_reducible exact octet_Of.mono _ _ _ _)
   | (with_reducible exact tower_Mul.mono _ _ _ _ _ _)
   | (with_reducible exact LeO.refl _)
   | (with_reducible exact LeO.none _)
   | (with_reducible refine LeO.ite ?_ ?_)
   | (with_reducible refine LeO.bind ?_ (fun _ => ?_))
   | exact ih0 _ _ _ _ _ _ _
   | exact ih1 _ _ _ _ _ _ _ _ _
   | exact octet_Of.mono _ _ _ _
   | exact tower_Mul.mono _ _ _ _ _ _
   | exact LeO.none _
   | refine LeO.ite ?_ ?_
   | refine LeO.bind ?_ (fun _ => ?_)
theorem tower_Dot.mono : ∀ a0 a1 a2 k, LeO (tower_Dot.f k a0 a1 a2) (tower_Dot.f (k + 1) a0 a1 a2) := by
 intro a0 a1 a2 k
 obtain ⟨ih0, ih1⟩ := tower_Dot.mono_l k
 unfold tower_Dot.f
 repeat' first
   | (with_reducible exact ih0 _ _ _ _ _ _ _)
   | (with_reducible exact ih1 _ _ _ _ _ _ _ _ _)
   | (with_reducible exact octet_Of.mono _ _ _ _)
   | (with_reducible exact tower_Mul.mono _ _ _ _ _ _)
   | (with_reducible exact LeO.refl _)
   | (with_reducible exact LeO.none _)
   | (with_reducible refine LeO.ite ?_ ?_)
   | (with_reducible refine LeO.bind ?_ (fun _ => ?_))
   | exact ih0 _ _ _ _ _ _ _
   | exact ih1 _ _ _ _ _ _ _ _ _
   | exact octet_Of.mono _ _ _ _
   | exact tower_Mul.mono _ _ _ _ _ _
   | exact LeO.none _
   | refine LeO.ite ?_ ?_
   | refine LeO.bind ?_ (fun _ => ?_)
def tower_Dot.T9 : Bool × List (List Nat × List Nat) := (true, [([], []), ([], []), ([], []), ([], []), ([2, 3], [2, 3]), ([4], [4]), ([], []), ([], []), ([6, 7], [6, 7]), ([8], [8]), ([1, 5, 9], [1, 5, 9]), ([0, 10, 10], [0, 10]), ([11, 11, 0, 1, 2, 3, 4, 5, 6, 7, 8, 9, 10, 11], [11])])
def tower_Dot.B9 : List Nat := [0, 0, 0, 0, 12, 28, 0, 0, 192, 448, 1022, 2047, 4095]
theorem tower_Dot.tab9 : rtab .any (opsOf Try.f28 9) = tower_Dot.T9 := by kernel_rfl
theorem tower_Dot.bits9 : waitsOk tower_Dot.T9.2 tower_Dot.B9 = true := by kernel_rfl
set_option maxHeartbeats 8000000 in
set_option maxRecDepth 100000 in
theorem tower_Dot.calls (k : Nat) (a0 : Int) (A1 : Option Addr) (c1 : Nat) (l1 : List (S28)) (A2 : Option Addr) (c2 : Nat) (l2 : List (S28)) (r1 : Int) (r2 : Int) (w : World) (hr1 : Kd.C k28 w A1 l1.length l1) (hc1 : l1.length ≤ c1) (hr2 : Kd.C k28 w A2 l2.length l2) (hc2 : l2.length ≤ c2) (h : tower_Dot.f k a0 l1 l2 = some (r1, r2)) :
  Calls Try.prog 28 #[.int .i64 a0, .slice A1 l1.length c1, .slice A2 l2.length c2] w fun e w' => e = .returned (.agg #[.int .u64 r1, .int .u64 r2]) ∧ Below w.heap.size w w' := by
 have hu28 := Try.underlying28
 have HR1 := Aside0.mk hr1
 have HC1 := Aside0.mk hc1
 clear hr1 hc1
 have HR2 := Aside0.mk hr2
 have HC2 := Aside0.mk hc2
 clear hr2 hc2
 have HB := Aside0.mk (Below.refl w.heap.size w)
 have H : (if (l1.length : Int) = (l2.length : Int) then (tower_Dot.l0 k a0 l1 l2 (l1.length : Int) 0 0 0) else (some (0, 0))) = some (r1, r2) := h
 clear h
 by_cases c4 : (l1.length : Int) = (l2.length : Int)
 ·rw [if_pos c4] at H
  have c4b0 : ((l1.length : Int) == (l2.length : Int)) = true := beq_iff_eq.mpr c4
  have c4b1 : ((l1.length : Int) != (l2.length : Int)) = false := bne_eq_false_iff_eq.mpr c4
  have c4b2 : (l1.length == l2.length) = true := by first | simpa using c4 | (simp at c4 ⊢; omega)
  clear c4
  have H' := Aside0.mk H
  clear H
  go_enter Try.func28, Try.ntmps28
  go_wp2_with (first | ((with_reducible refine gate_dst (N := 6) rfl ?_); refine box_event ?hg (N := 6) ?hd (cs := #[.int .u64 0, .int .u64 0]) (t := 28) ?hr ?_; (case hd => rfl); (case hg => rfl); (case hr => first | (go_simp; done) | (go_simp; rfl)); intro gb191 hg w5 hbox hb; have BK191 := Aside0.mk hbox; have GW191 := ge hg HB; have GE191 := ge hg HB; replace HB := bh HB hb; clear hb hbox hg) | ((with_reducible refine gate_dst (N := 7) rfl ?_); refine box_event ?hg (N := 7) ?hd (cs := #[.int .u64 0, .int .u64 0]) (t := 28) ?hr ?_; (case hd => rfl); (case hg => rfl); (case hr => first | (go_simp; done) | (go_simp; rfl)); intro gb192 hg w6 hbox hb; have BK192 := Aside0.mk hbox; have GW192 := ge hg HB; have GE192 := ge hg HB; have NB191_192 := nl hg BK191; have NB192_191 := ng hg BK191; replace BK191 := bb BK191 hb; replace HB := bh HB hb; clear hb hbox hg))
  go_loopg [17] k (fun kq v17 w' => ∃ (x17_1 : Int) (x192000_1 : Int) (x192001_1 : Int) (x193000_1 : Int) (x193001_1 : Int), v17 = .int .i64 x17_1 ∧ Aside0 (tower_Dot.l0 kq a0 l1 l2 (l1.length : Int) x17_1 x193000_1 x193001_1 = some (r1, r2)) ∧ Aside0 (kq ≤ k) ∧ Aside0 (w'.heap[gb191]? = some (.cells #[.int .u64 x192000_1, .int .u64 x192001_1] 28 (0, 0))) ∧ Aside0 (w'.heap[gb192]? = some (.cells #[.int .u64 x193000_1, .int .u64 x193001_1] 28 (0, 0))) ∧ Aside0 (Below w.heap.size w w'))
  case atStart => exact ⟨(0), (0), (0), (0), (0), (by first | rfl | (simp; done) | (simp [*]; done)), H', ⟨Nat.le_refl _⟩, ⟨bk BK191.out⟩, ⟨bk BK192.out⟩, ⟨bq HB.out⟩⟩
  case round =>
   clear H'
   try clear c1
   try clear c2
   try clear p2
   try clear c4
   try clear c4b0
   try clear c4b1
   try clear c4b2
   obtain ⟨x17_1, x192000_1, x192001_1, x193000_1, x193001_1, rfl, HA, HK1, BK191, BK192, HB⟩ := hrel
   cases gk with
   | zero => exact absurd HA.out (by simp [tower_Dot.l0])
   | succ k1 =>
    have H := HA.out
    clear HA
    simp only [tower_Dot.l0] at H
    by_cases c7 : x17_1 < (l1.length : Int)
    ·rw [if_pos c7] at H
     have c7b0 : decide (x17_1 < (l1.length : Int)) = true := decide_eq_true c7
     clear c7
     have HC8 := Aside0.mk H
     clear H
     go_upto_region 7 with (fail)
     go_cut [35] (fun v35 wc => ∃ (kq : Nat) (x35_7 : Bool), v35 = .bool x35_7 ∧ Aside0 (tower_Dot.j1 kq a0 l1 l2 x17_1 (l1.length : Int) x17_1 x35_7 x193000_1 x193001_1 = some (r1, r2)) ∧ Aside0 (kq ≤ k1) ∧ Aside0 (wc.heap[gb191]? = some (.cells #[.int .u64 x192000_1, .int .u64 x192001_1] 28 (0, 0))) ∧ Aside0 (wc.heap[gb192]? = some (.cells #[.int .u64 x193000_1, .int .u64 x193001_1] 28 (0, 0))) ∧ Aside0 (Below w.heap.size w wc))
     case first =>
      have H := HC8.out
      clear HC8
      by_cases c9 : 0 ≤ x17_1
      ·rw [if_pos c9] at H
       have c9b0 : decide (0 ≤ x17_1) = true := decide_eq_true c9
       clear c9
       (first | rw [c9b0] | (simp only [i64_w, i32_w]; rw [c9b0]) | skip)
       by_cases c10 : x17_1 < (l1.length : Int)
       ·rw [if_pos c10] at H
        have c10b0 : decide (x17_1 < (l1.length : Int)) = true := decide_eq_true c10
        clear c10
        replace H := Option.bind_eq_some_iff.mp H
        obtain ⟨t194, A110, H⟩ := H
        replace H : (if t194 = true then (if x17_1 < (l2.length : Int) then ((octet_Of.f k1 a0 ((rd_T28 l2 x17_1).f0) ((rd_T28 l2 x17_1).f1)).bind fun t196 => (tower_Dot.j1 k1 a0 l1 l2 x17_1 (l1.length : Int) x17_1 (!t196) x193000_1 x193001_1)) else (none)) else (tower_Dot.j1 k1 a0 l1 l2 x17_1 (l1.length : Int) x17_1 true x193000_1 x193001_1)) = some (r1, r2) := H
        have A11 := Aside0.mk A110
        clear A110
        by_cases c12 : t194 = true
        ·subst c12
         have H1 : (if x17_1 < (l2.length : Int) then ((octet_Of.f k1 a0 ((rd_T28 l2 x17_1).f0) ((rd_T28 l2 x17_1).f1)).bind fun t196 => (tower_Dot.j1 k1 a0 l1 l2 x17_1 (l1.length : Int) x17_1 (!t196) x193000_1 x193001_1)) else (none)) = some (r1, r2) := by rw [if_pos rfl] at H; exact H
         clear H
         have H := H1
         clear H1
         by_cases c13 : x17_1 < (l2.length : Int)
         ·rw [if_pos c13] at H
          have c13b0 : decide (x17_1 < (l2.length : Int)) = true := decide_eq_true c13
          clear c13
          replace H := Option.bind_eq_some_iff.mp H
          obtain ⟨t196, A140, H⟩ := H
          replace H : (tower_Dot.j1 k1 a0 l1 l2 x17_1 (l1.length : Int) x17_1 (!t196) x193000_1 x193001_1) = some (r1, r2) := H
          have A14 := Aside0.mk A140
          clear A140
          have H' := Aside0.mk H
          clear H
          have p193 : 0 ≤ (x17_1 : Int) := of_decide_eq_true (by first | (with_reducible assumption) | assumption)
          have q193 : x17_1 < (l1.length : Int) := of_decide_eq_true (by first | (with_reducible assumption) | assumption)
          obtain ⟨ad193, e193, hx193_0, hx193_1⟩ := at_T28 HR1.out x17_1 p193 q193
          cases e193
          replace hx193_0 := (HB.out.cell (World.block_lt_of_cell? w _ hx193_0)).trans hx193_0
          replace hx193_1 := (HB.out.cell (World.block_lt_of_cell? w _ hx193_1)).trans hx193_1
          replace p193 := eq_true p193
          replace q193 := eq_true q193
          go_wp2_with (first | ((with_reducible refine gate_callee (f := 26) rfl ?_); refine goesL_ (some 25) rfl rfl Try.func26 (by kernel_rfl) rfl #[.int .i64 a0, .agg #[.int .u64 ((rd_T28 l1 x17_1).f0), .int .u64 ((rd_T28 l1 x17_1).f1)]] rfl (by (try simp only [List.map_toArray, List.map_cons, List.map_nil]); first | done | rfl | (simp only [List.length_drop, List.length_take]; rfl)) ?_; (with_reducible refine (octet_Of.calls k1 a0 ((rd_T28 l1 x17_1).f0) ((rd_T28 l1 x17_1).f1) true _ A11.out).mono ?_); rintro e w15 ⟨rfl, hb⟩; refine ⟨_, rfl, ?_⟩; replace BK191 := bb BK191 hb; replace BK192 := bb BK192 hb; replace HB := bh HB hb; (try clear hb); (try clear hb2); (try clear hk); (try clear hi); have p195 : 0 ≤ (x17_1 : Int) := of_decide_eq_true (by first | (with_reducible assumption) | assumption); have q195 : x17_1 < (l2.length : Int) := of_decide_eq_true (by first | (with_reducible assumption) | assumption); obtain ⟨ad195, e195, hx195_0, hx195_1⟩ := at_T28 HR2.out x17_1 p195 q195; cases e195; replace hx195_0 := (HB.out.cell (World.block_lt_of_cell? w _ hx195_0)).trans hx195_0; replace hx195_1 := (HB.out.cell (World.block_lt_of_cell? w _ hx195_1)).trans hx195_1; replace p195 := eq_true p195; replace q195 := eq_true q195) | (go_at_call 26; (with_reducible refine (octet_Of.calls k1 a0 ((rd_T28 l2 x17_1).f0) ((rd_T28 l2 x17_1).f1) t196 _ A14.out).mono ?_); rintro e w16 ⟨rfl, hb⟩; replace BK191 := bb BK191 hb; replace BK192 := bb BK192 hb; replace HB := bh HB hb; (try clear hb); (try clear hb2); (try clear hk); (try clear hi)))
          go_meet
          case rel => exact ⟨_, (!t196), (by first | rfl | (simp; done) | (simp [*]; done)), H', ⟨by have := HK1.out; first | omega | exact Nat.le_refl _⟩, ⟨bk BK191.out⟩, ⟨bk BK192.out⟩, ⟨bq HB.out⟩⟩
         ·rw [if_neg c13] at H
          exact absurd H (by simp)
        ·replace c12 := Bool.eq_false_iff.mpr c12
         subst c12
         have H1 : (tower_Dot.j1 k1 a0 l1 l2 x17_1 (l1.length : Int) x17_1 true x193000_1 x193001_1) = some (r1, r2) := by rw [if_neg (show ¬ (false = true) by decide)] at H; exact H
         clear H
         have H := H1
         clear H1
         have H' := Aside0.mk H
         clear H
         have p193 : 0 ≤ (x17_1 : Int) := of_decide_eq_true (by first | (with_reducible assumption) | assumption)
         have q193 : x17_1 < (l1.length : Int) := of_decide_eq_true (by first | (with_reducible assumption) | assumption)
         obtain ⟨ad193, e193, hx193_0, hx193_1⟩ := at_T28 HR1.out x17_1 p193 q193
         cases e193
         replace hx193_0 := (HB.out.cell (World.block_lt_of_cell? w _ hx193_0)).trans hx193_0
         replace hx193_1 := (HB.out.cell (World.block_lt_of_cell? w _ hx193_1)).trans hx193_1
         replace p193 := eq_true p193
         replace q193 := eq_true q193
         go_wp2_with (first | ((with_reducible refine gate_callee (f := 26) rfl ?_); refine goesL_ (some 25) rfl rfl Try.func26 (by kernel_rfl) rfl #[.int .i64 a0, .agg #[.int .u64 ((rd_T28 l1 x17_1).f0), .int .u64 ((rd_T28 l1 x17_1).f1)]] rfl (by (try simp only [List.map_toArray, List.map_cons, List.map_nil]); first | done | rfl | (simp only [List.length_drop, List.length_take]; rfl)) ?_; (with_reducible refine (octet_Of.calls k1 a0 ((rd_T28 l1 x17_1).f0) ((rd_T28 l1 x17_1).f1) false _ A11.out).mono ?_); rintro e w17 ⟨rfl, hb⟩; refine ⟨_, rfl, ?_⟩; replace BK191 := bb BK191 hb; replace BK192 := bb BK192 hb; replace HB := bh HB hb; (try clear hb); (try clear hb2); (try clear hk); (try clear hi)))
         go_meet
         case rel => exact ⟨_, (true), (by first | rfl | (simp; done) | (simp [*]; done)), H', ⟨by have := HK1.out; first | omega | exact Nat.le_refl _⟩, ⟨bk BK191.out⟩, ⟨bk BK192.out⟩, ⟨bq HB.out⟩⟩
       ·rw [if_neg c10] at H
        exact absurd H (by simp)
      ·rw [if_neg c9] at H
       exact absurd H (by simp)
     case rest =>
      clear HC8
      try clear c1
      try clear p1
      try clear q1
      try clear hx1
      try clear c2
      try clear p2
      try clear c4
      try clear c4b0
      try clear c4b1
      try clear c4b2
      try clear c7
      try clear c7b0
      try clear c9
      try clear c9b0
      try clear c10
      try clear c10b0
      try clear c12
      try clear c13
      try clear c13b0
      try clear hx193_0
      try clear hx193_1
      try clear hx195_0
      try clear hx195_1
      try clear p193
      try clear p195
      try clear p2
      try clear q193
      try clear q195
      obtain ⟨kq, x35_7, rfl, HA, HJ7, BK191, BK192, HB⟩ := hcut
      cases kq with
      | zero => exact absurd HA.out (by simp [tower_Dot.j1])
      | succ kj7 =>
       have H := HA.out
       clear HA
       simp only [tower_Dot.j1] at H
       by_cases c18 : x35_7 = true
       ·subst c18
        have H1 : (some (0, 0)) = some (r1, r2) := by rw [if_pos rfl] at H; exact H
        clear H
        have H := H1
        clear H1
        simp only [Option.some.injEq, Prod.mk.injEq] at H
        obtain ⟨rfl, rfl⟩ := H
        have hnb19 := NB191_192.out
        have hnc19 := NB192_191.out
        obtain ⟨hcz20_0, hcz20_1⟩ := zc2 BK191
        obtain ⟨hfz20_0, hfz20_1⟩ := zf2 BK191
        go_wp2
        refine bodyPost_ret (results_cell_row rfl _ _ gb191 28 #[.int .u64 0, .int .u64 0] (0, 0) _ rfl (by (with_reducible repeat refine bl ?_); refine blk_put (cs := #[.int .u64 0, .int .u64 x192001_1]) ?_ 1 _ rfl; (with_reducible repeat refine bl ?_); refine blk_put (cs := #[.int .u64 x192000_1, .int .u64 x192001_1]) ?_ 0 _ rfl; (with_reducible repeat refine bl ?_); exact BK191.out) Try.underlying28 rfl (by kernel_rfl)) rfl ?_
        exact ⟨by first | rfl | (simp [errW_none, errW_some] <;> rfl) | (simp [*, errW_none, errW_some] <;> rfl), bq HB.out⟩
       ·replace c18 := Bool.eq_false_iff.mpr c18
        subst c18
        have H1 : (if 0 ≤ x17_1 then (if x17_1 < (l1.length : Int) then (if x17_1 < (l2.length : Int) then ((tower_Mul.f kj7 a0 ((rd_T28 l1 x17_1).f0) ((rd_T28 l1 x17_1).f1) ((rd_T28 l2 x17_1).f0) ((rd_T28 l2 x17_1).f1)).bind fun bt199 => ((tower_Add.f x193000_1 x193001_1 bt199.1 bt199.2).bind fun bt201 => (tower_Dot.l0 kj7 a0 l1 l2 (l1.length : Int) (wrap64 (x17_1 + 1)) bt201.1 bt201.2))) else (none)) else (none)) else (none)) = some (r1, r2) := by rw [if_neg (show ¬ (false = true) by decide)] at H; exact H
        clear H
        have H := H1
        clear H1
        by_cases c21 : 0 ≤ x17_1
        ·rw [if_pos c21] at H
         have c21b0 : decide (0 ≤ x17_1) = true := decide_eq_true c21
         clear c21
         by_cases c22 : x17_1 < (l1.length : Int)
         ·rw [if_pos c22] at H
          have c22b0 : decide (x17_1 < (l1.length : Int)) = true := decide_eq_true c22
          clear c22
          by_cases c23 : x17_1 < (l2.length : Int)
          ·rw [if_pos c23] at H
           have c23b0 : decide (x17_1 < (l2.length : Int)) = true := decide_eq_true c23
           clear c23
           replace H := Option.bind_eq_some_iff.mp H
           obtain ⟨⟨t199, t200⟩, A240, H⟩ := H
           replace H : ((tower_Add.f x193000_1 x193001_1 t199 t200).bind fun bt201 => (tower_Dot.l0 kj7 a0 l1 l2 (l1.length : Int) (wrap64 (x17_1 + 1)) bt201.1 bt201.2)) = some (r1, r2) := H
           have A24 := Aside0.mk A240
           clear A240
           replace H := Option.bind_eq_some_iff.mp H
           obtain ⟨⟨t201, t202⟩, A250, H⟩ := H
           replace H : (tower_Dot.l0 kj7 a0 l1 l2 (l1.length : Int) (wrap64 (x17_1 + 1)) t201 t202) = some (r1, r2) := H
           have A25 := Aside0.mk A250
           clear A250
           have H' := Aside0.mk H
           clear H
           try go_wp2
           replace BK191 := Aside0.mk (blk_drew BK191.out)
           replace BK192 := Aside0.mk (blk_drew BK192.out)
           replace HB := Aside0.mk (below_drew1 HB.out)
           have p197 : 0 ≤ (x17_1 : Int) := of_decide_eq_true (by first | (with_reducible assumption) | assumption)
           have q197 : x17_1 < (l1.length : Int) := of_decide_eq_true (by first | (with_reducible assumption) | assumption)
           obtain ⟨ad197, e197, hx197_0, hx197_1⟩ := at_T28 HR1.out x17_1 p197 q197
           have hw197_1 := hx197_1
           have hw197_0 := hx197_0
           cases e197
           replace hx197_0 := (HB.out.cell (World.block_lt_of_cell? w _ hx197_0)).trans hx197_0
           replace hx197_1 := (HB.out.cell (World.block_lt_of_cell? w _ hx197_1)).trans hx197_1
           replace p197 := eq_true p197
           replace q197 := eq_true q197
           have p198 : 0 ≤ (x17_1 : Int) := of_decide_eq_true (by first | (with_reducible assumption) | assumption)
           have q198 : x17_1 < (l2.length : Int) := of_decide_eq_true (by first | (with_reducible assumption) | assumption)
           obtain ⟨ad198, e198, hx198_0, hx198_1⟩ := at_T28 HR2.out x17_1 p198 q198
           have hw198_1 := hx198_1
           have hw198_0 := hx198_0
           cases e198
           replace hx198_0 := (HB.out.cell (World.block_lt_of_cell? w _ hx198_0)).trans hx198_0
           replace hx198_1 := (HB.out.cell (World.block_lt_of_cell? w _ hx198_1)).trans hx198_1
           replace p198 := eq_true p198
           replace q198 := eq_true q198
           refine start_ (n := 13) (S := fun w' => w'.cell? ⟨gb192, 0, none⟩ = some (.int .u64 x193000_1) ∧ w'.cell? ⟨gb192, 1, none⟩ = some (.int .u64 x193001_1) ∧ w'.cell? (ad197.add ((x17_1).toNat * 2)) = some (.int .u64 ((rd_T28 l1 x17_1).f0)) ∧ w'.cell? ⟨(ad197.add ((x17_1).toNat * 2)).block, (ad197.add ((x17_1).toNat * 2)).off + 1, none⟩ = some (.int .u64 ((rd_T28 l1 x17_1).f1)) ∧ w'.cell? (ad198.add ((x17_1).toNat * 2)) = some (.int .u64 ((rd_T28 l2 x17_1).f0)) ∧ w'.cell? ⟨(ad198.add ((x17_1).toNat * 2)).block, (ad198.add ((x17_1).toNat * 2)).off + 1, none⟩ = some (.int .u64 ((rd_T28 l2 x17_1).f1))) (ds := [12]) #[false, false, false, false, false, false, false, false, false, false, false, false, false] (by kernel_rfl) rfl rfl ⟨(blk_cell BK192.out 0).trans rfl, (blk_cell BK192.out 1).trans rfl, ((HB.out.cell (World.block_lt_of_cell? w _ hw197_0)).trans hw197_0), ((HB.out.cell (World.block_lt_of_cell? w _ hw197_1)).trans hw197_1), ((HB.out.cell (World.block_lt_of_cell? w _ hw198_0)).trans hw198_0), ((HB.out.cell (World.block_lt_of_cell? w _ hw198_1)).trans hw198_1)⟩ (fun hHeld => ?_); refine with_tabW tower_Dot.tab9 tower_Dot.bits9 (fun HT_ HW_ => ?_)
           generalize wc.drew = w26 at BK191 BK192 HB hx197_0 hx197_1 hx198_0 hx198_1 hHeld ⊢
           refine pure_ (i := 1) (N := some 38) (v := ?_) (a' := ?_) #[false, true, false, false, false, false, false, false, false, false, false, false, false] rfl rfl (any_of HT_.out (by kernel_rfl)) (fun _ _ _ h => h) (Or.inl ⟨by rfl, ?_⟩) ?_ ?_
           rotate_left
           ·intro w'
            go_simp
            with_reducible rfl
           rotate_left
           ·simp only [Act.put, List.setIfInBounds_toArray, List.set_cons_zero, List.set_cons_succ, i64_w, i32_w]
            rfl
           refine pure_ (i := 2) (N := some 39) (v := ?_) (a' := ?_) #[false, true, true, false, false, false, false, false, false, false, false, false, false] rfl rfl (any_of HT_.out (by kernel_rfl)) (fun _ _ _ h => h) (Or.inl ⟨by rfl, ?_⟩) ?_ ?_
           rotate_left
           ·intro w'
            go_simp
            with_reducible rfl
           rotate_left
           ·simp only [Act.put, List.setIfInBounds_toArray, List.set_cons_zero, List.set_cons_succ, i64_w, i32_w]
            rfl
           refine pure_ (i := 3) (N := some 40) (v := ?_) (a' := ?_) #[false, true, true, true, false, false, false, false, false, false, false, false, false] rfl rfl (any_of HT_.out (by kernel_rfl)) (fun _ _ _ h => h) (Or.inl ⟨by rfl, ?_⟩) ?_ ?_
           rotate_left
           ·intro w'
            go_simp
            with_reducible rfl
           rotate_left
           ·simp only [Act.put, List.setIfInBounds_toArray, List.set_cons_zero, List.set_cons_succ, i64_w, i32_w]
            rfl
           refine pure_ (i := 4) (N := some 41) (v := ?_) (a' := ?_) #[false, true, true, true, true, false, false, false, false, false, false, false, false] rfl rfl (any_of HT_.out (by kernel_rfl)) (fun _ _ _ h => h) (Or.inl ⟨by rfl, ?_⟩) ?_ ?_
           rotate_left
           ·intro w'
            go_simp
            with_reducible rfl
           rotate_left
           ·simp only [Act.put, List.setIfInBounds_toArray, List.set_cons_zero, List.set_cons_succ, i64_w, i32_w]
            rfl
           refine pure_ (i := 6) (N := some 43) (v := ?_) (a' := ?_) #[false, true, true, true, true, false, true, false, false, false, false, false, false] rfl rfl (any_of HT_.out (by kernel_rfl)) (fun _ _ _ h => h) (Or.inl ⟨by rfl, ?_⟩) ?_ ?_
           rotate_left
           ·intro w'
            go_simp
            with_reducible rfl
           rotate_left
           ·simp only [Act.put, List.setIfInBounds_toArray, List.set_cons_zero, List.set_cons_succ, i64_w, i32_w]
            rfl
           refine pure_ (i := 7) (N := some 44) (v := ?_) (a' := ?_) #[false, true, true, true, true, false, true, true, false, false, false, false, false] rfl rfl (any_of HT_.out (by kernel_rfl)) (fun _ _ _ h => h) (Or.inl ⟨by rfl, ?_⟩) ?_ ?_
           rotate_left
           ·intro w'
            go_simp
            with_reducible rfl
           rotate_left
           ·simp only [Act.put, List.setIfInBounds_toArray, List.set_cons_zero, List.set_cons_succ, i64_w, i32_w]
            rfl
           refine pure_ (i := 8) (N := some 45) (v := ?_) (a' := ?_) #[false, true, true, true, true, false, true, true, true, false, false, false, false] rfl rfl (any_of HT_.out (by kernel_rfl)) (fun _ _ _ h => h) (Or.inl ⟨by rfl, ?_⟩) ?_ ?_
           rotate_left
           ·intro w'
            go_simp
            with_reducible rfl
           rotate_left
           ·simp only [Act.put, List.setIfInBounds_toArray, List.set_cons_zero, List.set_cons_succ, i64_w, i32_w]
            rfl
           refine take_ (i := 0) (N := some 37) (v := ?_) (a' := ?_) #[true, true, true, true, true, false, true, true, true, false, false, false, false] rfl rfl (take_ofW HT_.out HW_.out (by kernel_rfl)) (fun _ _ _ h => h) (Or.inl ⟨by rfl, ?_⟩) hHeld ?_ ?_
           rotate_left
           ·rintro w' ⟨s0, s1, s2, s3, s4, s5⟩
            go_simp
            with_reducible rfl
           rotate_left
           ·simp only [Act.put, List.setIfInBounds_toArray, List.set_cons_zero, List.set_cons_succ, i64_w, i32_w]
            rfl
           refine take_ (i := 5) (N := some 42) (v := ?_) (a' := ?_) #[true, true, true, true, true, true, true, true, true, false, false, false, false] rfl rfl (take_ofW HT_.out HW_.out (by kernel_rfl)) (fun _ _ _ h => h) (Or.inl ⟨by rfl, ?_⟩) hHeld ?_ ?_
           rotate_left
           ·rintro w' ⟨s0, s1, s2, s3, s4, s5⟩
            go_simp
            with_reducible rfl
           rotate_left
           ·simp only [Act.put, List.setIfInBounds_toArray, List.set_cons_zero, List.set_cons_succ, i64_w, i32_w]
            rfl
           refine take_ (i := 9) (N := some 46) (v := ?_) (a' := ?_) #[true, true, true, true, true, true, true, true, true, true, false, false, false] rfl rfl (take_ofW HT_.out HW_.out (by kernel_rfl)) (fun _ _ _ h => h) (Or.inl ⟨by rfl, ?_⟩) hHeld ?_ ?_
           rotate_left
           ·rintro w' ⟨s0, s1, s2, s3, s4, s5⟩
            go_simp
            with_reducible rfl
           rotate_left
           ·simp only [Act.put, List.setIfInBounds_toArray, List.set_cons_zero, List.set_cons_succ, i64_w, i32_w]
            rfl
           refine one_ (i := 10) (N := some 47) #[true, true, true, true, true, true, true, true, true, true, true, false, false] rfl rfl (one_of HT_.out (by kernel_rfl)) (by decide) (fun K hK => ?_)
           refine goes_ Try.func13 (by kernel_rfl) rfl #[.int .i64 a0, .agg #[.int .u64 ((rd_T28 l1 x17_1).f0), .int .u64 ((rd_T28 l1 x17_1).f1)], .agg #[.int .u64 ((rd_T28 l2 x17_1).f0), .int .u64 ((rd_T28 l2 x17_1).f1)]] (by rfl) rfl rfl (by (try simp only [List.map_toArray, List.map_cons, List.map_nil]); first | done | rfl | (simp only [List.length_drop, List.length_take]; rfl)) ?_
           with_reducible refine (tower_Mul.calls kj7 a0 ((rd_T28 l1 x17_1).f0) ((rd_T28 l1 x17_1).f1) ((rd_T28 l2 x17_1).f0) ((rd_T28 l2 x17_1).f1) t199 t200 _ A24.out).mono ?_
           rintro e w27 ⟨rfl, hb⟩
           refine ⟨_, rfl, ?_⟩
           replace BK191 := bb BK191 hb
           replace BK192 := bb BK192 hb
           replace HB := bh HB hb
           (try clear hb)
           (try clear hb2)
           (try clear hk)
           (try clear hi)
           refine hK.out _ _ ⟨(blk_cell BK192.out 0).trans rfl, (blk_cell BK192.out 1).trans rfl, ((HB.out.cell (World.block_lt_of_cell? w _ hw197_0)).trans hw197_0), ((HB.out.cell (World.block_lt_of_cell? w _ hw197_1)).trans hw197_1), ((HB.out.cell (World.block_lt_of_cell? w _ hw198_0)).trans hw198_0), ((HB.out.cell (World.block_lt_of_cell? w _ hw198_1)).trans hw198_1)⟩ (fun hHeld => ?_)
           clear hK K
           refine norm_ (a' := ?_) ?_ ?_
           rotate_left
           ·show Act.put _ (some 47) _ = _
            simp only [Act.put, List.setIfInBounds_toArray, List.set_cons_zero, List.set_cons_succ, i64_w, i32_w]
            rfl
           refine one_ (i := 11) (N := some 48) #[true, true, true, true, true, true, true, true, true, true, true, true, false] rfl rfl (one_of HT_.out (by kernel_rfl)) (by decide) (fun K hK => ?_)
           refine goes_ Try.func12 (by kernel_rfl) rfl #[.agg #[.int .u64 x193000_1, .int .u64 x193001_1], .agg #[.int .u64 t199, .int .u64 t200]] (by rfl) rfl rfl (by (try simp only [List.map_toArray, List.map_cons, List.map_nil]); first | done | rfl | (simp only [List.length_drop, List.length_take]; rfl)) ?_
           with_reducible refine (tower_Add.calls x193000_1 x193001_1 t199 t200 t201 t202 _ A25.out).mono ?_
           rintro e w28 ⟨rfl, hb⟩
           refine ⟨_, rfl, ?_⟩
           replace BK191 := bb BK191 hb
           replace BK192 := bb BK192 hb
           replace HB := bh HB hb
           (try clear hb)
           (try clear hb2)
           (try clear hk)
           (try clear hi)
           refine hK.out _ _ ⟨(blk_cell BK192.out 0).trans rfl, (blk_cell BK192.out 1).trans rfl, ((HB.out.cell (World.block_lt_of_cell? w _ hw197_0)).trans hw197_0), ((HB.out.cell (World.block_lt_of_cell? w _ hw197_1)).trans hw197_1), ((HB.out.cell (World.block_lt_of_cell? w _ hw198_0)).trans hw198_0), ((HB.out.cell (World.block_lt_of_cell? w _ hw198_1)).trans hw198_1)⟩ (fun hHeld => ?_)
           clear hK K
           refine norm_ (a' := ?_) ?_ ?_
           rotate_left
           ·show Act.put _ (some 48) _ = _
            simp only [Act.put, List.setIfInBounds_toArray, List.set_cons_zero, List.set_cons_succ, i64_w, i32_w]
            rfl
           refine last_ (i := 12) (N := none) #[true, true, true, true, true, true, true, true, true, true, true, true, true] rfl rfl (one_of HT_.out (by kernel_rfl)) (by decide) (fun K hK => ?_)
           have hs29 : w28.cell? ⟨gb192, 0, none⟩ = some (.int .u64 x193000_1) := (blk_cell BK192.out 0).trans rfl
           have hfs29 := blk_frozen BK192.out 0
           have hns29_0 := NB191_192.out
           have hms29_0 := NB192_191.out
           have hs30 : w28.cell? ⟨gb192, 1, none⟩ = some (.int .u64 x193001_1) := (blk_cell BK192.out 1).trans rfl
           have hfs30 := blk_frozen BK192.out 1
           have hns30_0 := NB191_192.out
           have hms30_0 := NB192_191.out
           refine skip_ (w1 := ?_) (by rfl) rfl ?_ ?_
           rotate_left
           ·go_simp
            rfl
           refine hK.out _ _ ?_
           clear hK K
           refine done_ (done_of HT_.out (by kernel_rfl)) ?_
           try go_wp2
           go_roundg kj7
           case measure => have := HK1.out; have := HJ7.out; omega
           case rel => exact ⟨(wrap64 (x17_1 + 1)), (x192000_1), (x192001_1), (t201), (t202), (by first | rfl | (simp; done) | (simp [*]; done)), H', ⟨by have := HK1.out; have := HJ7.out; omega⟩, ⟨by (with_reducible repeat refine bl ?_); refine blk_far ?_ NB191_192.out _; (with_reducible repeat refine bl ?_); refine blk_far ?_ NB191_192.out _; (with_reducible repeat refine bl ?_); exact BK191.out⟩, ⟨by (with_reducible repeat refine bl ?_); refine blk_put (cs := #[.int .u64 t201, .int .u64 x193001_1]) ?_ 1 _ rfl; (with_reducible repeat refine bl ?_); refine blk_put (cs := #[.int .u64 x193000_1, .int .u64 x193001_1]) ?_ 0 _ rfl; (with_reducible repeat refine bl ?_); exact BK192.out⟩, ⟨bq HB.out⟩⟩
          ·rw [if_neg c23] at H
           exact absurd H (by simp)
         ·rw [if_neg c22] at H
          exact absurd H (by simp)
        ·rw [if_neg c21] at H
         exact absurd H (by simp)
    ·rw [if_neg c7] at H
     have c7b0 : decide (x17_1 < (l1.length : Int)) = false := decide_eq_false c7
     clear c7
     simp only [Option.some.injEq, Prod.mk.injEq] at H
     obtain ⟨rfl, rfl⟩ := H
     have hnb31 := NB192_191.out
     have hnc31 := NB191_192.out
     obtain ⟨hcz32_0, hcz32_1⟩ := zc2 BK192
     obtain ⟨hfz32_0, hfz32_1⟩ := zf2 BK192
     obtain ⟨hcz33_0, hcz33_1⟩ := zc2 BK191
     obtain ⟨hfz33_0, hfz33_1⟩ := zf2 BK191
     go_wp2
     refine bodyPost_ret (results_cell_row rfl _ _ gb191 28 #[.int .u64 x193000_1, .int .u64 x193001_1] (0, 0) _ rfl (by (with_reducible repeat refine bl ?_); refine blk_put (cs := #[.int .u64 x193000_1, .int .u64 x192001_1]) ?_ 1 _ rfl; (with_reducible repeat refine bl ?_); refine blk_put (cs := #[.int .u64 x192000_1, .int .u64 x192001_1]) ?_ 0 _ rfl; (with_reducible repeat refine bl ?_); exact BK191.out) Try.underlying28 rfl (by kernel_rfl)) rfl ?_
     exact ⟨by first | rfl | (simp [errW_none, errW_some] <;> rfl) | (simp [*, errW_none, errW_some] <;> rfl), bq HB.out⟩
 ·rw [if_neg c4] at H
  have c4b0 : ((l1.length : Int) == (l2.length : Int)) = false := beq_eq_false_iff_ne.mpr c4
  have c4b1 : ((l1.length : Int) != (l2.length : Int)) = true := bne_iff_ne.mpr c4
  have c4b2 : (l1.length == l2.length) = false := by first | simpa using c4 | (simp at c4 ⊢; omega)
  simp only [Option.some.injEq, Prod.mk.injEq] at H
  obtain ⟨rfl, rfl⟩ := H
  go_enter Try.func28, Try.ntmps28
  go_wp2_with (first | ((with_reducible refine gate_dst (N := 6) rfl ?_); refine box_event ?hg (N := 6) ?hd (cs := #[.int .u64 0, .int .u64 0]) (t := 28) ?hr ?_; (case hd => rfl); (case hg => rfl); (case hr => first | (go_simp; done) | (go_simp; rfl)); intro gb191 hg w34 hbox hb; have BK191 := Aside0.mk hbox; have GW191 := ge hg HB; have GE191 := ge hg HB; replace HB := bh HB hb; clear hb hbox hg; obtain ⟨hcz35_0, hcz35_1⟩ := zc2 BK191; obtain ⟨hfz35_0, hfz35_1⟩ := zf2 BK191))
  refine bodyPost_ret (results_cell_row rfl _ _ gb191 28 #[.int .u64 0, .int .u64 0] (0, 0) _ rfl (by (with_reducible repeat refine bl ?_); refine blk_put (cs := #[.int .u64 0, .int .u64 0]) ?_ 1 _ rfl; (with_reducible repeat refine bl ?_); refine blk_put (cs := #[.int .u64 0, .int .u64 0]) ?_ 0 _ rfl; (with_reducible repeat refine bl ?_); exact BK191.out) Try.underlying28 rfl (by kernel_rfl)) rfl ?_
  exact ⟨by first | rfl | (simp [errW_none, errW_some] <;> rfl) | (simp [*, errW_none, errW_some] <;> rfl), bq HB.out⟩

end Go.Proofs.Ythnaalocgoeddaa.P
