/- Written by a program of this session: functions that the law reaches, as Lean functions, and that the code comes to their answers. Conditions: those that each theorem names. -/
import Derived.Test.YtlegcabfgkccmaaPx0
import Derived.Test.YtlegcabfgkccmaaPx3
namespace Go.Proofs.Ytlegcabfgkccmaa.P
open Go.RowKit Go.Proofs.YtlegcabfgkccmaaX Go.Proofs.YtlegcabfgkccmaaW.PrintWords Go.Proofs.YtlegcabfgkccmaaW.PrintLast Go.Proofs.YtlegcabfgkccmaaW.PrintMore
attribute [local go_sem] max2_int min2_int max_two min_two max_three min_three max_four min_four   -- for this text's walks alone
set_option linter.unusedVariables false
set_option linter.unusedSimpArgs false

/-! ### tower_Level: function 41 -/
def tower_Level.l0 : Nat → Int → Int → Int → Option (Int)
 | 0, _, _, _ => none
 | k + 1, x4, x145000, x145001 => if x4 < 7 then ((octet_Of.f k x4 x145000 x145001).bind fun t145 => (if t145 = true then (some x4) else (tower_Level.l0 k (wrap64 (x4 + 1)) x145000 x145001))) else (some 7)
def tower_Level.f (k : Nat) (a0_0 : Int) (a0_1 : Int) : Option (Int) := tower_Level.l0 k 0 a0_0 a0_1
theorem tower_Level.mono_l : ∀ k, (∀ y0 y1 y2, LeO (tower_Level.l0 k y0 y1 y2) (tower_Level.l0 (k + 1) y0 y1 y2))
 | 0 => fun _ _ _ r h => by simp [tower_Level.l0] at h
 | k + 1 => by
  have ih0 := tower_Level.mono_l k
  ·intro y0 y1 y2
   unfold tower_Level.l0
   repeat' first
   | (with_reducible exact ih0 _ _ _)
   | (with_reducible exact octet_Of.mono _ _ _ _)
   | (with_reducible exact LeO.refl _)
   | (with_reducible exact LeO.none _)
   | (with_reducible refine LeO.ite ?_ ?_)
   | (with_reducible refine LeO.bind ?_ (fun _ => ?_))
   | exact ih0 _ _ _
   | exact octet_Of.mono _ _ _ _
   | exact LeO.none _
   | refine LeO.ite ?_ ?_
   | refine LeO.bind ?_ (fun _ => ?_)
theorem tower_Level.mono : ∀ a0 a1 k, LeO (tower_Level.f k a0 a1) (tower_Level.f (k + 1) a0 a1) := by
 intro a0 a1 k
 have ih0 := tower_Level.mono_l k
 unfold tower_Level.f
 repeat' first
   | (with_reducible exact ih0 _ _ _)
   | (with_reducible exact octet_Of.mono _ _ _ _)
   | (with_reducible exact LeO.refl _)
   | (with_reducible exact LeO.none _)
   | (with_reducible refine LeO.ite ?_ ?_)
   | (with_reducible refine LeO.bind ?_ (fun _ => ?_))
   | exact ih0 _ _ _
   | exact octet_Of.mono _ _ _ _
   | exact LeO.none _
   | refine LeO.ite ?_ ?_
   | refine LeO.bind ?_ (fun _ => ?_)
set_option maxHeartbeats 8000000 in
set_option maxRecDepth 100000 in
theorem tower_Level.calls (k : Nat) (a0_0 : Int) (a0_1 : Int) (r : Int) (w : World) (h : tower_Level.f k a0_0 a0_1 = some r) :
  Calls Try.prog 41 #[.agg #[.int .u64 a0_0, .int .u64 a0_1]] w fun e w' => e = .returned (.int .i64 r) ∧ Below w.heap.size w w' := by
 have hu24 := Try.underlying24
 have HB := Aside0.mk (Below.refl w.heap.size w)
 have H : (tower_Level.l0 k 0 a0_0 a0_1) = some r := h
 clear h
 have H' := Aside0.mk H
 clear H
 go_enter Try.func41, Try.ntmps41
 go_wp2_with (first | ((with_reducible refine gate_dst (N := 1) rfl ?_); refine box_event ?hg (N := 1) ?hd (cs := #[.int .u64 a0_0, .int .u64 a0_1]) (t := 24) ?hr ?_; (case hd => rfl); (case hg => rfl); (case hr => first | (go_simp; done) | (go_simp; rfl)); intro gb144 hg w2 hbox hb; have BK144 := Aside0.mk hbox; have GW144 := ge hg HB; have GE144 := ge hg HB; replace HB := bh HB hb; clear hb hbox hg))
 go_loopg [4] k (fun kq v4 w' => ∃ (x4_1 : Int), v4 = .int .i64 x4_1 ∧ Aside0 (tower_Level.l0 kq x4_1 a0_0 a0_1 = some r) ∧ Aside0 (kq ≤ k) ∧ Aside0 (w'.heap[gb144]? = some (.cells #[.int .u64 a0_0, .int .u64 a0_1] 24 (0, 0))) ∧ Aside0 (Below w.heap.size w w'))
 case atStart => exact ⟨(0), (by first | rfl | (simp; done) | (simp [*]; done)), H', ⟨Nat.le_refl _⟩, ⟨bk BK144.out⟩, ⟨bq HB.out⟩⟩
 case round =>
  clear H'
  try clear p2
  obtain ⟨x4_1, rfl, HA, HK1, BK144, HB⟩ := hrel
  cases gk with
  | zero => exact absurd HA.out (by simp [tower_Level.l0])
  | succ k1 =>
   have H := HA.out
   clear HA
   simp only [tower_Level.l0] at H
   by_cases c3 : x4_1 < 7
   ·rw [if_pos c3] at H
    have c3b0 : decide (x4_1 < 7) = true := decide_eq_true c3
    clear c3
    replace H := Option.bind_eq_some_iff.mp H
    obtain ⟨t145, A40, H⟩ := H
    replace H : (if t145 = true then (some x4_1) else (tower_Level.l0 k1 (wrap64 (x4_1 + 1)) a0_0 a0_1)) = some r := H
    have A4 := Aside0.mk A40
    clear A40
    by_cases c5 : t145 = true
    ·subst c5
     have H1 : (some x4_1) = some r := by rw [if_pos rfl] at H; exact H
     clear H
     have H := H1
     clear H1
     obtain rfl := Option.some.inj H
     obtain ⟨hcz6_0, hcz6_1⟩ := zc2 BK144
     obtain ⟨hfz6_0, hfz6_1⟩ := zf2 BK144
     go_wp2_with (first | ((with_reducible refine gate_callee (f := 26) rfl ?_); refine goesL_ (some 9) rfl rfl Try.func26 (by kernel_rfl) rfl #[.int .i64 x4_1, .agg #[.int .u64 a0_0, .int .u64 a0_1]] rfl (by (try simp only [List.map_toArray, List.map_cons, List.map_nil]); first | done | rfl | (simp only [List.length_drop, List.length_take]; rfl)) ?_; (with_reducible refine (octet_Of.calls k1 x4_1 a0_0 a0_1 true _ A4.out).mono ?_); rintro e w7 ⟨rfl, hb⟩; refine ⟨_, rfl, ?_⟩; replace BK144 := bb BK144 hb; replace HB := bh HB hb; (try clear hb); (try clear hb2); (try clear hk); (try clear hi)))
     go_ret
     exact ⟨by first | rfl | (simp [errW_none, errW_some] <;> rfl) | (simp [*, errW_none, errW_some] <;> rfl), bq HB.out⟩
    ·replace c5 := Bool.eq_false_iff.mpr c5
     subst c5
     have H1 : (tower_Level.l0 k1 (wrap64 (x4_1 + 1)) a0_0 a0_1) = some r := by rw [if_neg (show ¬ (false = true) by decide)] at H; exact H
     clear H
     have H := H1
     clear H1
     have H' := Aside0.mk H
     clear H
     obtain ⟨hcz8_0, hcz8_1⟩ := zc2 BK144
     obtain ⟨hfz8_0, hfz8_1⟩ := zf2 BK144
     go_wp2_with (first | ((with_reducible refine gate_callee (f := 26) rfl ?_); refine goesL_ (some 9) rfl rfl Try.func26 (by kernel_rfl) rfl #[.int .i64 x4_1, .agg #[.int .u64 a0_0, .int .u64 a0_1]] rfl (by (try simp only [List.map_toArray, List.map_cons, List.map_nil]); first | done | rfl | (simp only [List.length_drop, List.length_take]; rfl)) ?_; (with_reducible refine (octet_Of.calls k1 x4_1 a0_0 a0_1 false _ A4.out).mono ?_); rintro e w9 ⟨rfl, hb⟩; refine ⟨_, rfl, ?_⟩; replace BK144 := bb BK144 hb; replace HB := bh HB hb; (try clear hb); (try clear hb2); (try clear hk); (try clear hi)))
     go_roundg k1
     case measure => have := HK1.out; omega
     case rel => exact ⟨(wrap64 (x4_1 + 1)), (by first | rfl | (simp; done) | (simp [*]; done)), H', ⟨by have := HK1.out; omega⟩, ⟨bk BK144.out⟩, ⟨bq HB.out⟩⟩
   ·rw [if_neg c3] at H
    have c3b0 : decide (x4_1 < 7) = false := decide_eq_false c3
    clear c3
    obtain rfl := Option.some.inj H
    go_wp2
    go_ret
    exact ⟨by first | rfl | (simp [errW_none, errW_some] <;> rfl) | (simp [*, errW_none, errW_some] <;> rfl), bq HB.out⟩

end Go.Proofs.Ytlegcabfgkccmaa.P
