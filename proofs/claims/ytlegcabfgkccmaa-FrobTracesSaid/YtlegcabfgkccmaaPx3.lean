/- Written by a program of this session: functions that the law reaches, as Lean functions, and that the code comes to their answers. Conditions: those that each theorem names. -/
import Derived.Test.YtlegcabfgkccmaaPx0
namespace Go.Proofs.Ytlegcabfgkccmaa.P
open Go.RowKit Go.Proofs.YtlegcabfgkccmaaX Go.Proofs.YtlegcabfgkccmaaW.PrintWords Go.Proofs.YtlegcabfgkccmaaW.PrintLast Go.Proofs.YtlegcabfgkccmaaW.PrintMore
attribute [local go_sem] max2_int min2_int max_two min_two max_three min_three max_four min_four   -- for this text's walks alone
set_option linter.unusedVariables false
set_option linter.unusedSimpArgs false

/-! ### steeplelaw33_of: function 10 -/
def steeplelaw33_of.f (a0 : Int) (a1_0 : Int) (a1_1 : Int) : Option (Int × Int) := if a0 < 7 then (if a0 < 6 then (if 0 ≤ (IntKind.u64.wrap (a0)) then (some (0, Go.bits .and .u64 a1_1 (IntKind.u64.wrap ((shl .u64 1 (shl .u64 1 (IntKind.u64.wrap (a0)))) - 1)))) else (none)) else (some (0, a1_1))) else (if a0 < 6 then (if 0 ≤ (IntKind.u64.wrap (a0)) then (some (a1_0, Go.bits .and .u64 a1_1 (IntKind.u64.wrap ((shl .u64 1 (shl .u64 1 (IntKind.u64.wrap (a0)))) - 1)))) else (none)) else (some (a1_0, a1_1)))
set_option maxHeartbeats 8000000 in
set_option maxRecDepth 100000 in
theorem steeplelaw33_of.calls (a0 : Int) (a1_0 : Int) (a1_1 : Int) (r1 : Int) (r2 : Int) (w : World) (h : steeplelaw33_of.f a0 a1_0 a1_1 = some (r1, r2)) :
  Calls Try.prog 10 #[.int .i64 a0, .agg #[.int .u64 a1_0, .int .u64 a1_1]] w fun e w' => e = .returned (.agg #[.int .u64 r1, .int .u64 r2]) ∧ Below w.heap.size w w' := by
 have hu24 := Try.underlying24
 have HB := Aside0.mk (Below.refl w.heap.size w)
 have H : (if a0 < 7 then (if a0 < 6 then (if 0 ≤ (IntKind.u64.wrap (a0)) then (some (0, Go.bits .and .u64 a1_1 (IntKind.u64.wrap ((shl .u64 1 (shl .u64 1 (IntKind.u64.wrap (a0)))) - 1)))) else (none)) else (some (0, a1_1))) else (if a0 < 6 then (if 0 ≤ (IntKind.u64.wrap (a0)) then (some (a1_0, Go.bits .and .u64 a1_1 (IntKind.u64.wrap ((shl .u64 1 (shl .u64 1 (IntKind.u64.wrap (a0)))) - 1)))) else (none)) else (some (a1_0, a1_1)))) = some (r1, r2) := h
 clear h
 by_cases c3 : a0 < 7
 ·rw [if_pos c3] at H
  have c3b0 : decide (a0 < 7) = true := decide_eq_true c3
  clear c3
  by_cases c4 : a0 < 6
  ·rw [if_pos c4] at H
   have c4b0 : decide (a0 < 6) = true := decide_eq_true c4
   clear c4
   obtain ⟨ji5, hji5⟩ : ∃ j_ : Int, (IntKind.u64.wrap (a0)) = j_ := ⟨_, rfl⟩
   replace H : (if 0 ≤ (ji5) then (some (0, Go.bits .and .u64 a1_1 (IntKind.u64.wrap ((shl .u64 1 (shl .u64 1 (ji5))) - 1)))) else (none)) = some (r1, r2) := by first | (rw [hji5] at H; exact H) | (simp only [hji5] at H ⊢; exact H)
   by_cases c6 : 0 ≤ (ji5)
   ·rw [if_pos c6] at H
    have c6b0 := eq_true c6
    have c6b1 : decide (0 ≤ (ji5)) = true := decide_eq_true c6
    clear c6
    obtain ⟨ji7, hji7⟩ : ∃ j_ : Int, (shl .u64 1 (ji5)) = j_ := ⟨_, rfl⟩
    replace H : (some (0, Go.bits .and .u64 a1_1 (IntKind.u64.wrap ((shl .u64 1 (ji7)) - 1)))) = some (r1, r2) := by first | (rw [hji7] at H; exact H) | (simp only [hji7] at H ⊢; exact H)
    have hji7_ : (IntKind.u64.wrap (1 * 2 ^ min (ji5).toNat 64)) = ji7 := hji7
    have hji7z : (ji5) ≤ 64 → (IntKind.u64.wrap (1 * 2 ^ (ji5).toNat)) = ji7 := shl_small hji7
    have hji7p0 := eq_true (show (0 : Int) ≤ ji7 by rw [← hji7_]; exact wrap_u64_nonneg _)
    have hji7p1 : decide (0 ≤ (ji7 : Int)) = true := decide_eq_true (of_eq_true hji7p0)
    have hji7u : (IntKind.u64.wrap (2 ^ min (ji5).toNat 64)) = ji7 := by have h_ := hji7_; rw [Int.one_mul] at h_; exact h_
    have hji7v : (ji5) ≤ 64 → (IntKind.u64.wrap (2 ^ (ji5).toNat)) = ji7 := fun hle_ => by have h_ := hji7z hle_; rw [Int.one_mul] at h_; exact h_
    obtain ⟨ji8, hji8⟩ : ∃ j_ : Int, (shl .u64 1 (ji7)) = j_ := ⟨_, rfl⟩
    replace H : (some (0, Go.bits .and .u64 a1_1 (IntKind.u64.wrap ((ji8) - 1)))) = some (r1, r2) := by first | (rw [hji8] at H; exact H) | (simp only [hji8] at H ⊢; exact H)
    have hji8_ : (IntKind.u64.wrap (1 * 2 ^ min (ji7).toNat 64)) = ji8 := hji8
    have hji8z : (ji7) ≤ 64 → (IntKind.u64.wrap (1 * 2 ^ (ji7).toNat)) = ji8 := shl_small hji8
    have hji8p0 := eq_true (show (0 : Int) ≤ ji8 by rw [← hji8_]; exact wrap_u64_nonneg _)
    have hji8p1 : decide (0 ≤ (ji8 : Int)) = true := decide_eq_true (of_eq_true hji8p0)
    have hji8u : (IntKind.u64.wrap (2 ^ min (ji7).toNat 64)) = ji8 := by have h_ := hji8_; rw [Int.one_mul] at h_; exact h_
    have hji8v : (ji7) ≤ 64 → (IntKind.u64.wrap (2 ^ (ji7).toNat)) = ji8 := fun hle_ => by have h_ := hji8z hle_; rw [Int.one_mul] at h_; exact h_
    simp only [Option.some.injEq, Prod.mk.injEq] at H
    obtain ⟨rfl, rfl⟩ := H
    go_enter Try.func10, Try.ntmps10
    go_wp2_with (first | ((with_reducible refine gate_dst (N := 3) rfl ?_); refine box_event ?hg (N := 3) ?hd (cs := #[.int .u64 a1_0, .int .u64 a1_1]) (t := 24) ?hr ?_; (case hd => rfl); (case hg => rfl); (case hr => first | (go_simp; done) | (go_simp; rfl)); intro gb101 hg w9 hbox hb; have BK101 := Aside0.mk hbox; have GW101 := ge hg HB; have GE101 := ge hg HB; replace HB := bh HB hb; clear hb hbox hg; have hczz101 : ∀ a_ b_ c_ : Value, (((w9.setCell ⟨gb101, 0, none⟩ a_).setCell ⟨gb101, 1, none⟩ b_).setCell ⟨gb101, 0, none⟩ c_).cell? ⟨gb101, 1, none⟩ = some b_ := fun a_ b_ c_ => (blk_cell (blk_put (blk_put (blk_put BK101.out 0 a_ rfl) 1 b_ rfl) 0 c_ rfl) 1).trans rfl; have hczy101_0 : ∀ a_ b_ : Value, ((w9.setCell ⟨gb101, 0, none⟩ a_).setCell ⟨gb101, 1, none⟩ b_).cell? ⟨gb101, 0, none⟩ = some a_ := fun a_ b_ => (blk_cell (blk_put (blk_put BK101.out 0 a_ rfl) 1 b_ rfl) 0).trans rfl; have hczy101_1 : ∀ a_ b_ : Value, ((w9.setCell ⟨gb101, 0, none⟩ a_).setCell ⟨gb101, 1, none⟩ b_).cell? ⟨gb101, 1, none⟩ = some b_ := fun a_ b_ => (blk_cell (blk_put (blk_put BK101.out 0 a_ rfl) 1 b_ rfl) 1).trans rfl) | ((with_reducible refine gate_dst (N := 4) rfl ?_); refine box_event ?hg (N := 4) ?hd (cs := #[.int .u64 0, .int .u64 0]) (t := 24) ?hr ?_; (case hd => rfl); (case hg => rfl); (case hr => first | (go_simp; done) | (go_simp; rfl)); intro gb102 hg w10 hbox hb; have BK102 := Aside0.mk hbox; have GW102 := ge hg HB; have GE102 := ge hg HB; have NB101_102 := nl hg BK101; have NB102_101 := ng hg BK101; replace BK101 := bb BK101 hb; replace HB := bh HB hb; clear hb hbox hg; have hczz102 : ∀ a_ b_ c_ : Value, (((w10.setCell ⟨gb102, 0, none⟩ a_).setCell ⟨gb102, 1, none⟩ b_).setCell ⟨gb102, 0, none⟩ c_).cell? ⟨gb102, 1, none⟩ = some b_ := fun a_ b_ c_ => (blk_cell (blk_put (blk_put (blk_put BK102.out 0 a_ rfl) 1 b_ rfl) 0 c_ rfl) 1).trans rfl; have hczy102_0 : ∀ a_ b_ : Value, ((w10.setCell ⟨gb102, 0, none⟩ a_).setCell ⟨gb102, 1, none⟩ b_).cell? ⟨gb102, 0, none⟩ = some a_ := fun a_ b_ => (blk_cell (blk_put (blk_put BK102.out 0 a_ rfl) 1 b_ rfl) 0).trans rfl; have hczy102_1 : ∀ a_ b_ : Value, ((w10.setCell ⟨gb102, 0, none⟩ a_).setCell ⟨gb102, 1, none⟩ b_).cell? ⟨gb102, 1, none⟩ = some b_ := fun a_ b_ => (blk_cell (blk_put (blk_put BK102.out 0 a_ rfl) 1 b_ rfl) 1).trans rfl; have hnb11 := NB101_102.out; have hnc11 := NB102_101.out; obtain ⟨hcz12_0, hcz12_1⟩ := zc2 BK101; obtain ⟨hfz12_0, hfz12_1⟩ := zf2 BK101; obtain ⟨hcz13_0, hcz13_1⟩ := zc2 BK102; obtain ⟨hfz13_0, hfz13_1⟩ := zf2 BK102))
    refine bodyPost_ret (results_cell_row rfl _ _ gb102 24 #[.int .u64 0, .int .u64 (Go.bits .and .u64 a1_1 (IntKind.u64.wrap ((ji8) - 1)))] (0, 0) _ rfl (by (with_reducible repeat refine bl ?_); refine blk_put (cs := #[.int .u64 0, .int .u64 0]) ?_ 1 _ rfl; (with_reducible repeat refine bl ?_); refine blk_put (cs := #[.int .u64 0, .int .u64 0]) ?_ 0 _ rfl; (with_reducible repeat refine bl ?_); refine blk_far ?_ NB102_101.out _; (with_reducible repeat refine bl ?_); refine blk_far ?_ NB102_101.out _; (with_reducible repeat refine bl ?_); exact BK102.out) Try.underlying24 rfl (by kernel_rfl)) rfl ?_
    exact ⟨by first | rfl | (simp [errW_none, errW_some] <;> rfl) | (simp only [← hji5, ← hji7, ← hji8]; first | rfl | (simp [errW_none, errW_some] <;> rfl)) | (simp [*, errW_none, errW_some] <;> rfl), bq HB.out⟩
   ·rw [if_neg c6] at H
    exact absurd H (by simp)
  ·rw [if_neg c4] at H
   have c4b0 : decide (a0 < 6) = false := decide_eq_false c4
   clear c4
   simp only [Option.some.injEq, Prod.mk.injEq] at H
   obtain ⟨rfl, rfl⟩ := H
   go_enter Try.func10, Try.ntmps10
   go_wp2_with (first | ((with_reducible refine gate_dst (N := 3) rfl ?_); refine box_event ?hg (N := 3) ?hd (cs := #[.int .u64 a1_0, .int .u64 a1_1]) (t := 24) ?hr ?_; (case hd => rfl); (case hg => rfl); (case hr => first | (go_simp; done) | (go_simp; rfl)); intro gb101 hg w14 hbox hb; have BK101 := Aside0.mk hbox; have GW101 := ge hg HB; have GE101 := ge hg HB; replace HB := bh HB hb; clear hb hbox hg; have hczz101 : ∀ a_ b_ c_ : Value, (((w14.setCell ⟨gb101, 0, none⟩ a_).setCell ⟨gb101, 1, none⟩ b_).setCell ⟨gb101, 0, none⟩ c_).cell? ⟨gb101, 1, none⟩ = some b_ := fun a_ b_ c_ => (blk_cell (blk_put (blk_put (blk_put BK101.out 0 a_ rfl) 1 b_ rfl) 0 c_ rfl) 1).trans rfl; have hczy101_0 : ∀ a_ b_ : Value, ((w14.setCell ⟨gb101, 0, none⟩ a_).setCell ⟨gb101, 1, none⟩ b_).cell? ⟨gb101, 0, none⟩ = some a_ := fun a_ b_ => (blk_cell (blk_put (blk_put BK101.out 0 a_ rfl) 1 b_ rfl) 0).trans rfl; have hczy101_1 : ∀ a_ b_ : Value, ((w14.setCell ⟨gb101, 0, none⟩ a_).setCell ⟨gb101, 1, none⟩ b_).cell? ⟨gb101, 1, none⟩ = some b_ := fun a_ b_ => (blk_cell (blk_put (blk_put BK101.out 0 a_ rfl) 1 b_ rfl) 1).trans rfl) | ((with_reducible refine gate_dst (N := 4) rfl ?_); refine box_event ?hg (N := 4) ?hd (cs := #[.int .u64 0, .int .u64 0]) (t := 24) ?hr ?_; (case hd => rfl); (case hg => rfl); (case hr => first | (go_simp; done) | (go_simp; rfl)); intro gb102 hg w15 hbox hb; have BK102 := Aside0.mk hbox; have GW102 := ge hg HB; have GE102 := ge hg HB; have NB101_102 := nl hg BK101; have NB102_101 := ng hg BK101; replace BK101 := bb BK101 hb; replace HB := bh HB hb; clear hb hbox hg; have hczz102 : ∀ a_ b_ c_ : Value, (((w15.setCell ⟨gb102, 0, none⟩ a_).setCell ⟨gb102, 1, none⟩ b_).setCell ⟨gb102, 0, none⟩ c_).cell? ⟨gb102, 1, none⟩ = some b_ := fun a_ b_ c_ => (blk_cell (blk_put (blk_put (blk_put BK102.out 0 a_ rfl) 1 b_ rfl) 0 c_ rfl) 1).trans rfl; have hczy102_0 : ∀ a_ b_ : Value, ((w15.setCell ⟨gb102, 0, none⟩ a_).setCell ⟨gb102, 1, none⟩ b_).cell? ⟨gb102, 0, none⟩ = some a_ := fun a_ b_ => (blk_cell (blk_put (blk_put BK102.out 0 a_ rfl) 1 b_ rfl) 0).trans rfl; have hczy102_1 : ∀ a_ b_ : Value, ((w15.setCell ⟨gb102, 0, none⟩ a_).setCell ⟨gb102, 1, none⟩ b_).cell? ⟨gb102, 1, none⟩ = some b_ := fun a_ b_ => (blk_cell (blk_put (blk_put BK102.out 0 a_ rfl) 1 b_ rfl) 1).trans rfl; have hnb16 := NB101_102.out; have hnc16 := NB102_101.out; obtain ⟨hcz17_0, hcz17_1⟩ := zc2 BK101; obtain ⟨hfz17_0, hfz17_1⟩ := zf2 BK101; obtain ⟨hcz18_0, hcz18_1⟩ := zc2 BK102; obtain ⟨hfz18_0, hfz18_1⟩ := zf2 BK102))
   refine bodyPost_ret (results_cell_row rfl _ _ gb102 24 #[.int .u64 0, .int .u64 a1_1] (0, 0) _ rfl (by (with_reducible repeat refine bl ?_); refine blk_put (cs := #[.int .u64 0, .int .u64 0]) ?_ 1 _ rfl; (with_reducible repeat refine bl ?_); refine blk_put (cs := #[.int .u64 0, .int .u64 0]) ?_ 0 _ rfl; (with_reducible repeat refine bl ?_); refine blk_far ?_ NB102_101.out _; (with_reducible repeat refine bl ?_); exact BK102.out) Try.underlying24 rfl (by kernel_rfl)) rfl ?_
   exact ⟨by first | rfl | (simp [errW_none, errW_some] <;> rfl) | (simp [*, errW_none, errW_some] <;> rfl), bq HB.out⟩
 ·rw [if_neg c3] at H
  have c3b0 : decide (a0 < 7) = false := decide_eq_false c3
  clear c3
  by_cases c19 : a0 < 6
  ·rw [if_pos c19] at H
   have c19b0 : decide (a0 < 6) = true := decide_eq_true c19
   clear c19
   obtain ⟨ji20, hji20⟩ : ∃ j_ : Int, (IntKind.u64.wrap (a0)) = j_ := ⟨_, rfl⟩
   replace H : (if 0 ≤ (ji20) then (some (a1_0, Go.bits .and .u64 a1_1 (IntKind.u64.wrap ((shl .u64 1 (shl .u64 1 (ji20))) - 1)))) else (none)) = some (r1, r2) := by first | (rw [hji20] at H; exact H) | (simp only [hji20] at H ⊢; exact H)
   by_cases c21 : 0 ≤ (ji20)
   ·rw [if_pos c21] at H
    have c21b0 := eq_true c21
    have c21b1 : decide (0 ≤ (ji20)) = true := decide_eq_true c21
    clear c21
    obtain ⟨ji22, hji22⟩ : ∃ j_ : Int, (shl .u64 1 (ji20)) = j_ := ⟨_, rfl⟩
    replace H : (some (a1_0, Go.bits .and .u64 a1_1 (IntKind.u64.wrap ((shl .u64 1 (ji22)) - 1)))) = some (r1, r2) := by first | (rw [hji22] at H; exact H) | (simp only [hji22] at H ⊢; exact H)
    have hji22_ : (IntKind.u64.wrap (1 * 2 ^ min (ji20).toNat 64)) = ji22 := hji22
    have hji22z : (ji20) ≤ 64 → (IntKind.u64.wrap (1 * 2 ^ (ji20).toNat)) = ji22 := shl_small hji22
    have hji22p0 := eq_true (show (0 : Int) ≤ ji22 by rw [← hji22_]; exact wrap_u64_nonneg _)
    have hji22p1 : decide (0 ≤ (ji22 : Int)) = true := decide_eq_true (of_eq_true hji22p0)
    have hji22u : (IntKind.u64.wrap (2 ^ min (ji20).toNat 64)) = ji22 := by have h_ := hji22_; rw [Int.one_mul] at h_; exact h_
    have hji22v : (ji20) ≤ 64 → (IntKind.u64.wrap (2 ^ (ji20).toNat)) = ji22 := fun hle_ => by have h_ := hji22z hle_; rw [Int.one_mul] at h_; exact h_
    obtain ⟨ji23, hji23⟩ : ∃ j_ : Int, (shl .u64 1 (ji22)) = j_ := ⟨_, rfl⟩
    replace H : (some (a1_0, Go.bits .and .u64 a1_1 (IntKind.u64.wrap ((ji23) - 1)))) = some (r1, r2) := by first | (rw [hji23] at H; exact H) | (simp only [hji23] at H ⊢; exact H)
    have hji23_ : (IntKind.u64.wrap (1 * 2 ^ min (ji22).toNat 64)) = ji23 := hji23
    have hji23z : (ji22) ≤ 64 → (IntKind.u64.wrap (1 * 2 ^ (ji22).toNat)) = ji23 := shl_small hji23
    have hji23p0 := eq_true (show (0 : Int) ≤ ji23 by rw [← hji23_]; exact wrap_u64_nonneg _)
    have hji23p1 : decide (0 ≤ (ji23 : Int)) = true := decide_eq_true (of_eq_true hji23p0)
    have hji23u : (IntKind.u64.wrap (2 ^ min (ji22).toNat 64)) = ji23 := by have h_ := hji23_; rw [Int.one_mul] at h_; exact h_
    have hji23v : (ji22) ≤ 64 → (IntKind.u64.wrap (2 ^ (ji22).toNat)) = ji23 := fun hle_ => by have h_ := hji23z hle_; rw [Int.one_mul] at h_; exact h_
    simp only [Option.some.injEq, Prod.mk.injEq] at H
    obtain ⟨rfl, rfl⟩ := H
    go_enter Try.func10, Try.ntmps10
    go_wp2_with (first | ((with_reducible refine gate_dst (N := 3) rfl ?_); refine box_event ?hg (N := 3) ?hd (cs := #[.int .u64 a1_0, .int .u64 a1_1]) (t := 24) ?hr ?_; (case hd => rfl); (case hg => rfl); (case hr => first | (go_simp; done) | (go_simp; rfl)); intro gb101 hg w24 hbox hb; have BK101 := Aside0.mk hbox; have GW101 := ge hg HB; have GE101 := ge hg HB; replace HB := bh HB hb; clear hb hbox hg; have hczz101 : ∀ a_ b_ c_ : Value, (((w24.setCell ⟨gb101, 0, none⟩ a_).setCell ⟨gb101, 1, none⟩ b_).setCell ⟨gb101, 0, none⟩ c_).cell? ⟨gb101, 1, none⟩ = some b_ := fun a_ b_ c_ => (blk_cell (blk_put (blk_put (blk_put BK101.out 0 a_ rfl) 1 b_ rfl) 0 c_ rfl) 1).trans rfl; have hczy101_0 : ∀ a_ b_ : Value, ((w24.setCell ⟨gb101, 0, none⟩ a_).setCell ⟨gb101, 1, none⟩ b_).cell? ⟨gb101, 0, none⟩ = some a_ := fun a_ b_ => (blk_cell (blk_put (blk_put BK101.out 0 a_ rfl) 1 b_ rfl) 0).trans rfl; have hczy101_1 : ∀ a_ b_ : Value, ((w24.setCell ⟨gb101, 0, none⟩ a_).setCell ⟨gb101, 1, none⟩ b_).cell? ⟨gb101, 1, none⟩ = some b_ := fun a_ b_ => (blk_cell (blk_put (blk_put BK101.out 0 a_ rfl) 1 b_ rfl) 1).trans rfl) | ((with_reducible refine gate_dst (N := 4) rfl ?_); refine box_event ?hg (N := 4) ?hd (cs := #[.int .u64 0, .int .u64 0]) (t := 24) ?hr ?_; (case hd => rfl); (case hg => rfl); (case hr => first | (go_simp; done) | (go_simp; rfl)); intro gb102 hg w25 hbox hb; have BK102 := Aside0.mk hbox; have GW102 := ge hg HB; have GE102 := ge hg HB; have NB101_102 := nl hg BK101; have NB102_101 := ng hg BK101; replace BK101 := bb BK101 hb; replace HB := bh HB hb; clear hb hbox hg; have hczz102 : ∀ a_ b_ c_ : Value, (((w25.setCell ⟨gb102, 0, none⟩ a_).setCell ⟨gb102, 1, none⟩ b_).setCell ⟨gb102, 0, none⟩ c_).cell? ⟨gb102, 1, none⟩ = some b_ := fun a_ b_ c_ => (blk_cell (blk_put (blk_put (blk_put BK102.out 0 a_ rfl) 1 b_ rfl) 0 c_ rfl) 1).trans rfl; have hczy102_0 : ∀ a_ b_ : Value, ((w25.setCell ⟨gb102, 0, none⟩ a_).setCell ⟨gb102, 1, none⟩ b_).cell? ⟨gb102, 0, none⟩ = some a_ := fun a_ b_ => (blk_cell (blk_put (blk_put BK102.out 0 a_ rfl) 1 b_ rfl) 0).trans rfl; have hczy102_1 : ∀ a_ b_ : Value, ((w25.setCell ⟨gb102, 0, none⟩ a_).setCell ⟨gb102, 1, none⟩ b_).cell? ⟨gb102, 1, none⟩ = some b_ := fun a_ b_ => (blk_cell (blk_put (blk_put BK102.out 0 a_ rfl) 1 b_ rfl) 1).trans rfl; have hnb26 := NB101_102.out; have hnc26 := NB102_101.out; obtain ⟨hcz27_0, hcz27_1⟩ := zc2 BK101; obtain ⟨hfz27_0, hfz27_1⟩ := zf2 BK101; obtain ⟨hcz28_0, hcz28_1⟩ := zc2 BK102; obtain ⟨hfz28_0, hfz28_1⟩ := zf2 BK102))
    refine bodyPost_ret (results_cell_row rfl _ _ gb102 24 #[.int .u64 a1_0, .int .u64 (Go.bits .and .u64 a1_1 (IntKind.u64.wrap ((ji23) - 1)))] (0, 0) _ rfl (by (with_reducible repeat refine bl ?_); refine blk_put (cs := #[.int .u64 a1_0, .int .u64 0]) ?_ 1 _ rfl; (with_reducible repeat refine bl ?_); refine blk_put (cs := #[.int .u64 0, .int .u64 0]) ?_ 0 _ rfl; (with_reducible repeat refine bl ?_); refine blk_far ?_ NB102_101.out _; (with_reducible repeat refine bl ?_); exact BK102.out) Try.underlying24 rfl (by kernel_rfl)) rfl ?_
    exact ⟨by first | rfl | (simp [errW_none, errW_some] <;> rfl) | (simp only [← hji20, ← hji22, ← hji23]; first | rfl | (simp [errW_none, errW_some] <;> rfl)) | (simp [*, errW_none, errW_some] <;> rfl), bq HB.out⟩
   ·rw [if_neg c21] at H
    exact absurd H (by simp)
  ·rw [if_neg c19] at H
   have c19b0 : decide (a0 < 6) = false := decide_eq_false c19
   clear c19
   simp only [Option.some.injEq, Prod.mk.injEq] at H
   obtain ⟨rfl, rfl⟩ := H
   go_enter Try.func10, Try.ntmps10
   go_wp2_with (first | ((with_reducible refine gate_dst (N := 3) rfl ?_); refine box_event ?hg (N := 3) ?hd (cs := #[.int .u64 a1_0, .int .u64 a1_1]) (t := 24) ?hr ?_; (case hd => rfl); (case hg => rfl); (case hr => first | (go_simp; done) | (go_simp; rfl)); intro gb101 hg w29 hbox hb; have BK101 := Aside0.mk hbox; have GW101 := ge hg HB; have GE101 := ge hg HB; replace HB := bh HB hb; clear hb hbox hg; have hczz101 : ∀ a_ b_ c_ : Value, (((w29.setCell ⟨gb101, 0, none⟩ a_).setCell ⟨gb101, 1, none⟩ b_).setCell ⟨gb101, 0, none⟩ c_).cell? ⟨gb101, 1, none⟩ = some b_ := fun a_ b_ c_ => (blk_cell (blk_put (blk_put (blk_put BK101.out 0 a_ rfl) 1 b_ rfl) 0 c_ rfl) 1).trans rfl; have hczy101_0 : ∀ a_ b_ : Value, ((w29.setCell ⟨gb101, 0, none⟩ a_).setCell ⟨gb101, 1, none⟩ b_).cell? ⟨gb101, 0, none⟩ = some a_ := fun a_ b_ => (blk_cell (blk_put (blk_put BK101.out 0 a_ rfl) 1 b_ rfl) 0).trans rfl; have hczy101_1 : ∀ a_ b_ : Value, ((w29.setCell ⟨gb101, 0, none⟩ a_).setCell ⟨gb101, 1, none⟩ b_).cell? ⟨gb101, 1, none⟩ = some b_ := fun a_ b_ => (blk_cell (blk_put (blk_put BK101.out 0 a_ rfl) 1 b_ rfl) 1).trans rfl) | ((with_reducible refine gate_dst (N := 4) rfl ?_); refine box_event ?hg (N := 4) ?hd (cs := #[.int .u64 0, .int .u64 0]) (t := 24) ?hr ?_; (case hd => rfl); (case hg => rfl); (case hr => first | (go_simp; done) | (go_simp; rfl)); intro gb102 hg w30 hbox hb; have BK102 := Aside0.mk hbox; have GW102 := ge hg HB; have GE102 := ge hg HB; have NB101_102 := nl hg BK101; have NB102_101 := ng hg BK101; replace BK101 := bb BK101 hb; replace HB := bh HB hb; clear hb hbox hg; have hczz102 : ∀ a_ b_ c_ : Value, (((w30.setCell ⟨gb102, 0, none⟩ a_).setCell ⟨gb102, 1, none⟩ b_).setCell ⟨gb102, 0, none⟩ c_).cell? ⟨gb102, 1, none⟩ = some b_ := fun a_ b_ c_ => (blk_cell (blk_put (blk_put (blk_put BK102.out 0 a_ rfl) 1 b_ rfl) 0 c_ rfl) 1).trans rfl; have hczy102_0 : ∀ a_ b_ : Value, ((w30.setCell ⟨gb102, 0, none⟩ a_).setCell ⟨gb102, 1, none⟩ b_).cell? ⟨gb102, 0, none⟩ = some a_ := fun a_ b_ => (blk_cell (blk_put (blk_put BK102.out 0 a_ rfl) 1 b_ rfl) 0).trans rfl; have hczy102_1 : ∀ a_ b_ : Value, ((w30.setCell ⟨gb102, 0, none⟩ a_).setCell ⟨gb102, 1, none⟩ b_).cell? ⟨gb102, 1, none⟩ = some b_ := fun a_ b_ => (blk_cell (blk_put (blk_put BK102.out 0 a_ rfl) 1 b_ rfl) 1).trans rfl; have hnb31 := NB101_102.out; have hnc31 := NB102_101.out; obtain ⟨hcz32_0, hcz32_1⟩ := zc2 BK101; obtain ⟨hfz32_0, hfz32_1⟩ := zf2 BK101; obtain ⟨hcz33_0, hcz33_1⟩ := zc2 BK102; obtain ⟨hfz33_0, hfz33_1⟩ := zf2 BK102))
   refine bodyPost_ret (results_cell_row rfl _ _ gb102 24 #[.int .u64 a1_0, .int .u64 a1_1] (0, 0) _ rfl (by (with_reducible repeat refine bl ?_); refine blk_put (cs := #[.int .u64 a1_0, .int .u64 0]) ?_ 1 _ rfl; (with_reducible repeat refine bl ?_); refine blk_put (cs := #[.int .u64 0, .int .u64 0]) ?_ 0 _ rfl; (with_reducible repeat refine bl ?_); exact BK102.out) Try.underlying24 rfl (by kernel_rfl)) rfl ?_
   exact ⟨by first | rfl | (simp [errW_none, errW_some] <;> rfl) | (simp [*, errW_none, errW_some] <;> rfl), bq HB.out⟩

/-! ### tower_Add: function 12 -/
def tower_Add.f (a0_0 : Int) (a0_1 : Int) (a1_0 : Int) (a1_1 : Int) : Option (Int × Int) := some (Go.bits .xor .u64 a0_0 a1_0, Go.bits .xor .u64 a0_1 a1_1)
set_option maxHeartbeats 8000000 in
set_option maxRecDepth 100000 in
theorem tower_Add.calls (a0_0 : Int) (a0_1 : Int) (a1_0 : Int) (a1_1 : Int) (r1 : Int) (r2 : Int) (w : World) (h : tower_Add.f a0_0 a0_1 a1_0 a1_1 = some (r1, r2)) :
  Calls Try.prog 12 #[.agg #[.int .u64 a0_0, .int .u64 a0_1], .agg #[.int .u64 a1_0, .int .u64 a1_1]] w fun e w' => e = .returned (.agg #[.int .u64 r1, .int .u64 r2]) ∧ Below w.heap.size w w' := by
 have hu24 := Try.underlying24
 have HB := Aside0.mk (Below.refl w.heap.size w)
 have H : (some (Go.bits .xor .u64 a0_0 a1_0, Go.bits .xor .u64 a0_1 a1_1)) = some (r1, r2) := h
 clear h
 simp only [Option.some.injEq, Prod.mk.injEq] at H
 obtain ⟨rfl, rfl⟩ := H
 go_enter Try.func12, Try.ntmps12
 go_wp2_with (first | ((with_reducible refine gate_dst (N := 2) rfl ?_); refine box_event ?hg (N := 2) ?hd (cs := #[.int .u64 a0_0, .int .u64 a0_1]) (t := 24) ?hr ?_; (case hd => rfl); (case hg => rfl); (case hr => first | (go_simp; done) | (go_simp; rfl)); intro gb103 hg w3 hbox hb; have BK103 := Aside0.mk hbox; have GW103 := ge hg HB; have GE103 := ge hg HB; replace HB := bh HB hb; clear hb hbox hg) | ((with_reducible refine gate_dst (N := 3) rfl ?_); refine box_event ?hg (N := 3) ?hd (cs := #[.int .u64 a1_0, .int .u64 a1_1]) (t := 24) ?hr ?_; (case hd => rfl); (case hg => rfl); (case hr => first | (go_simp; done) | (go_simp; rfl)); intro gb104 hg w4 hbox hb; have BK104 := Aside0.mk hbox; have GW104 := ge hg HB; have GE104 := ge hg HB; have NB103_104 := nl hg BK103; have NB104_103 := ng hg BK103; replace BK103 := bb BK103 hb; replace HB := bh HB hb; clear hb hbox hg) | ((with_reducible refine gate_dst (N := 4) rfl ?_); refine box_event ?hg (N := 4) ?hd (cs := #[.int .u64 0, .int .u64 0]) (t := 24) ?hr ?_; (case hd => rfl); (case hg => rfl); (case hr => first | (go_simp; done) | (go_simp; rfl)); intro gb105 hg w5 hbox hb; have BK105 := Aside0.mk hbox; have GW105 := ge hg HB; have GE105 := ge hg HB; have NB103_105 := nl hg BK103; have NB105_103 := ng hg BK103; have NB104_105 := nl hg BK104; have NB105_104 := ng hg BK104; replace BK103 := bb BK103 hb; replace BK104 := bb BK104 hb; replace HB := bh HB hb; clear hb hbox hg; have hnb6 := NB103_104.out; have hnc6 := NB104_103.out; have hnb7 := NB103_105.out; have hnc7 := NB105_103.out; obtain ⟨hcz8_0, hcz8_1⟩ := zc2 BK103; obtain ⟨hfz8_0, hfz8_1⟩ := zf2 BK103; have hnb9 := NB104_105.out; have hnc9 := NB105_104.out; obtain ⟨hcz10_0, hcz10_1⟩ := zc2 BK104; obtain ⟨hfz10_0, hfz10_1⟩ := zf2 BK104; obtain ⟨hcz11_0, hcz11_1⟩ := zc2 BK105; obtain ⟨hfz11_0, hfz11_1⟩ := zf2 BK105))
 refine bodyPost_ret (results_cell_row rfl _ _ gb105 24 #[.int .u64 (Go.bits .xor .u64 a0_0 a1_0), .int .u64 (Go.bits .xor .u64 a0_1 a1_1)] (0, 0) _ rfl (by (with_reducible repeat refine bl ?_); refine blk_put (cs := #[.int .u64 (Go.bits .xor .u64 a0_0 a1_0), .int .u64 0]) ?_ 1 _ rfl; (with_reducible repeat refine bl ?_); refine blk_put (cs := #[.int .u64 0, .int .u64 0]) ?_ 0 _ rfl; (with_reducible repeat refine bl ?_); exact BK105.out) Try.underlying24 rfl (by kernel_rfl)) rfl ?_
 exact ⟨by first | rfl | (simp [errW_none, errW_some] <;> rfl) | (simp [*, errW_none, errW_some] <;> rfl), bq HB.out⟩

/-! ### octet_Of: function 26 -/
def octet_Of.j0 : Nat → Int → Bool → Int → Int → Option (Bool)
 | 0, _, _, _, _ => none
 | k + 1, x0, x5, x107000, x107001 => if x5 = true then (some false) else (if x0 = 7 then (some true) else (if x0 = 6 then (some (x107000 == 0)) else (if x107000 = 0 then (if 0 ≤ x0 then (some ((shr .u64 x107001 (shl .u64 1 x0)) == 0)) else (none)) else (some false))))
def octet_Of.f (k : Nat) (a0 : Int) (a1_0 : Int) (a1_1 : Int) : Option (Bool) := if a0 < 0 then (octet_Of.j0 k a0 true a1_0 a1_1) else (octet_Of.j0 k a0 (decide (a0 > 7)) a1_0 a1_1)
theorem octet_Of.mono_l : ∀ k, (∀ y0 y1 y2 y3, LeO (octet_Of.j0 k y0 y1 y2 y3) (octet_Of.j0 (k + 1) y0 y1 y2 y3))
 | 0 => fun _ _ _ _ r h => by simp [octet_Of.j0] at h
 | k + 1 => by
  have ih0 := octet_Of.mono_l k
  ·intro y0 y1 y2 y3
   unfold octet_Of.j0
   repeat' first
   | (with_reducible exact ih0 _ _ _ _)
   | (with_reducible exact LeO.refl _)
   | (with_reducible exact LeO.none _)
   | (with_reducible refine LeO.ite ?_ ?_)
   | (with_reducible refine LeO.bind ?_ (fun _ => ?_))
   | exact ih0 _ _ _ _
   | exact LeO.none _
   | refine LeO.ite ?_ ?_
   | refine LeO.bind ?_ (fun _ => ?_)
theorem octet_Of.mono : ∀ a0 a1 a2 k, LeO (octet_Of.f k a0 a1 a2) (octet_Of.f (k + 1) a0 a1 a2) := by
 intro a0 a1 a2 k
 have ih0 := octet_Of.mono_l k
 unfold octet_Of.f
 repeat' first
   | (with_reducible exact ih0 _ _ _ _)
   | (with_reducible exact LeO.refl _)
   | (with_reducible exact LeO.none _)
   | (with_reducible refine LeO.ite ?_ ?_)
   | (with_reducible refine LeO.bind ?_ (fun _ => ?_))
   | exact ih0 _ _ _ _
   | exact LeO.none _
   | refine LeO.ite ?_ ?_
   | refine LeO.bind ?_ (fun _ => ?_)
set_option maxHeartbeats 8000000 in
set_option maxRecDepth 100000 in
theorem octet_Of.calls (k : Nat) (a0 : Int) (a1_0 : Int) (a1_1 : Int) (r : Bool) (w : World) (h : octet_Of.f k a0 a1_0 a1_1 = some r) :
  Calls Try.prog 26 #[.int .i64 a0, .agg #[.int .u64 a1_0, .int .u64 a1_1]] w fun e w' => e = .returned (.bool r) ∧ Below w.heap.size w w' := by
 have hu24 := Try.underlying24
 have HB := Aside0.mk (Below.refl w.heap.size w)
 have H : (if a0 < 0 then (octet_Of.j0 k a0 true a1_0 a1_1) else (octet_Of.j0 k a0 (decide (a0 > 7)) a1_0 a1_1)) = some r := h
 clear h
 have HC3 := Aside0.mk H
 clear H
 go_enter Try.func26, Try.ntmps26
 go_upto_region 1 with (first | ((with_reducible refine gate_dst (N := 3) rfl ?_); refine box_event ?hg (N := 3) ?hd (cs := #[.int .u64 a1_0, .int .u64 a1_1]) (t := 24) ?hr ?_; (case hd => rfl); (case hg => rfl); (case hr => first | (go_simp; done) | (go_simp; rfl)); intro gb106 hg w4 hbox hb; have BK106 := Aside0.mk hbox; have GW106 := ge hg HB; have GE106 := ge hg HB; replace HB := bh HB hb; clear hb hbox hg))
 repeat (go_quiet (first | ((with_reducible refine gate_dst (N := 3) rfl ?_); refine box_event ?hg (N := 3) ?hd (cs := #[.int .u64 a1_0, .int .u64 a1_1]) (t := 24) ?hr ?_; (case hd => rfl); (case hg => rfl); (case hr => first | (go_simp; done) | (go_simp; rfl)); intro gb106 hg w4 hbox hb; have BK106 := Aside0.mk hbox; have GW106 := ge hg HB; have GE106 := ge hg HB; replace HB := bh HB hb; clear hb hbox hg)); go_upto_region 1 with (first | ((with_reducible refine gate_dst (N := 3) rfl ?_); refine box_event ?hg (N := 3) ?hd (cs := #[.int .u64 a1_0, .int .u64 a1_1]) (t := 24) ?hr ?_; (case hd => rfl); (case hg => rfl); (case hr => first | (go_simp; done) | (go_simp; rfl)); intro gb106 hg w4 hbox hb; have BK106 := Aside0.mk hbox; have GW106 := ge hg HB; have GE106 := ge hg HB; replace HB := bh HB hb; clear hb hbox hg)))
 (try simp only [Act.put, List.setIfInBounds_toArray, List.set_cons_zero, List.set_cons_succ])
 go_cut [5] (fun v5 wc => ∃ (kq : Nat) (x5_2 : Bool), v5 = .bool x5_2 ∧ Aside0 (octet_Of.j0 kq a0 x5_2 a1_0 a1_1 = some r) ∧ Aside0 (kq ≤ k) ∧ Aside0 (wc.heap[gb106]? = some (.cells #[.int .u64 a1_0, .int .u64 a1_1] 24 (0, 0))) ∧ Aside0 (Below w.heap.size w wc))
 case first =>
  have H := HC3.out
  clear HC3
  by_cases c5 : a0 < 0
  ·rw [if_pos c5] at H
   have c5b0 : decide (a0 < 0) = true := decide_eq_true c5
   clear c5
   (first | rw [c5b0] | (simp only [i64_w, i32_w]; rw [c5b0]) | skip)
   have H' := Aside0.mk H
   clear H
   go_wp2
   repeat (go_quiet (fail); try go_wp2)
   go_meet
   case rel => exact ⟨_, (true), (by first | rfl | (simp; done) | (simp [*]; done)), H', ⟨by first | omega | exact Nat.le_refl _⟩, ⟨bk BK106.out⟩, ⟨bq HB.out⟩⟩
  ·rw [if_neg c5] at H
   have c5b0 : decide (a0 < 0) = false := decide_eq_false c5
   clear c5
   (first | rw [c5b0] | (simp only [i64_w, i32_w]; rw [c5b0]) | skip)
   have H' := Aside0.mk H
   clear H
   go_wp2
   repeat (go_quiet (fail); try go_wp2)
   go_meet
   case rel => exact ⟨_, (decide (a0 > 7)), (by first | rfl | (simp; done) | (simp [*]; done)), H', ⟨by first | omega | exact Nat.le_refl _⟩, ⟨bk BK106.out⟩, ⟨bq HB.out⟩⟩
 case rest =>
  clear HC3
  try clear c2
  try clear p2
  try clear c5
  try clear c5b0
  obtain ⟨kq, x5_2, rfl, HA, HJ2, BK106, HB⟩ := hcut
  cases kq with
  | zero => exact absurd HA.out (by simp [octet_Of.j0])
  | succ kj2 =>
   have H := HA.out
   clear HA
   simp only [octet_Of.j0] at H
   by_cases c6 : x5_2 = true
   ·subst c6
    have H1 : (some false) = some r := by rw [if_pos rfl] at H; exact H
    clear H
    have H := H1
    clear H1
    obtain rfl := Option.some.inj H
    go_wp2
    repeat (go_quiet (fail); try go_wp2)
    go_ret
    exact ⟨by first | rfl | (simp [errW_none, errW_some] <;> rfl) | (simp [*, errW_none, errW_some] <;> rfl), bq HB.out⟩
   ·replace c6 := Bool.eq_false_iff.mpr c6
    subst c6
    have H1 : (if a0 = 7 then (some true) else (if a0 = 6 then (some (a1_0 == 0)) else (if a1_0 = 0 then (if 0 ≤ a0 then (some ((shr .u64 a1_1 (shl .u64 1 a0)) == 0)) else (none)) else (some false)))) = some r := by rw [if_neg (show ¬ (false = true) by decide)] at H; exact H
    clear H
    have H := H1
    clear H1
    by_cases c7 : a0 = 7
    ·rw [if_pos c7] at H
     have c7b0 : (a0 == 7) = true := beq_iff_eq.mpr c7
     have c7b1 : (a0 != 7) = false := bne_eq_false_iff_eq.mpr c7
     clear c7
     obtain rfl := Option.some.inj H
     go_wp2
     repeat (go_quiet (fail); try go_wp2)
     go_ret
     exact ⟨by first | rfl | (simp [errW_none, errW_some] <;> rfl) | (simp [*, errW_none, errW_some] <;> rfl), bq HB.out⟩
    ·rw [if_neg c7] at H
     have c7b0 : (a0 == 7) = false := beq_eq_false_iff_ne.mpr c7
     have c7b1 : (a0 != 7) = true := bne_iff_ne.mpr c7
     by_cases c8 : a0 = 6
     ·rw [if_pos c8] at H
      have c8b0 : (a0 == 6) = true := beq_iff_eq.mpr c8
      have c8b1 : (a0 != 6) = false := bne_eq_false_iff_eq.mpr c8
      clear c8
      obtain rfl := Option.some.inj H
      obtain ⟨hcz9_0, hcz9_1⟩ := zc2 BK106
      obtain ⟨hfz9_0, hfz9_1⟩ := zf2 BK106
      go_wp2
      repeat (go_quiet (fail); try go_wp2)
      go_ret
      exact ⟨by first | rfl | (simp [errW_none, errW_some] <;> rfl) | (simp [*, errW_none, errW_some] <;> rfl), bq HB.out⟩
     ·rw [if_neg c8] at H
      have c8b0 : (a0 == 6) = false := beq_eq_false_iff_ne.mpr c8
      have c8b1 : (a0 != 6) = true := bne_iff_ne.mpr c8
      by_cases c10 : a1_0 = 0
      ·rw [if_pos c10] at H
       have c10b0 : (a1_0 == 0) = true := beq_iff_eq.mpr c10
       have c10b1 : (a1_0 != 0) = false := bne_eq_false_iff_eq.mpr c10
       clear c10
       by_cases c11 : 0 ≤ a0
       ·rw [if_pos c11] at H
        have c11b0 := eq_true c11
        have c11b1 : decide (0 ≤ a0) = true := decide_eq_true c11
        clear c11
        obtain ⟨ji12, hji12⟩ : ∃ j_ : Int, (shl .u64 1 a0) = j_ := ⟨_, rfl⟩
        replace H : (some ((shr .u64 a1_1 (ji12)) == 0)) = some r := by first | (rw [hji12] at H; exact H) | (simp only [hji12] at H ⊢; exact H)
        have hji12_ : (IntKind.u64.wrap (1 * 2 ^ min a0.toNat 64)) = ji12 := hji12
        have hji12z : a0 ≤ 64 → (IntKind.u64.wrap (1 * 2 ^ a0.toNat)) = ji12 := shl_small hji12
        have hji12p0 := eq_true (show (0 : Int) ≤ ji12 by rw [← hji12_]; exact wrap_u64_nonneg _)
        have hji12p1 : decide (0 ≤ (ji12 : Int)) = true := decide_eq_true (of_eq_true hji12p0)
        have hji12u : (IntKind.u64.wrap (2 ^ min a0.toNat 64)) = ji12 := by have h_ := hji12_; rw [Int.one_mul] at h_; exact h_
        have hji12v : a0 ≤ 64 → (IntKind.u64.wrap (2 ^ a0.toNat)) = ji12 := fun hle_ => by have h_ := hji12z hle_; rw [Int.one_mul] at h_; exact h_
        obtain ⟨ji13, hji13⟩ : ∃ j_ : Int, (shr .u64 a1_1 (ji12)) = j_ := ⟨_, rfl⟩
        replace H : (some ((ji13) == 0)) = some r := by first | (rw [hji13] at H; exact H) | (simp only [hji13] at H ⊢; exact H)
        have hji13_ : (a1_1 / 2 ^ min (ji12).toNat 64) = ji13 := hji13
        have hji13z : (ji12) ≤ 64 → (a1_1 / 2 ^ (ji12).toNat) = ji13 := shr_small hji13
        obtain rfl := Option.some.inj H
        obtain ⟨hcz14_0, hcz14_1⟩ := zc2 BK106
        obtain ⟨hfz14_0, hfz14_1⟩ := zf2 BK106
        go_wp2
        repeat (go_quiet (fail); try go_wp2)
        go_ret
        exact ⟨by first | rfl | (simp [errW_none, errW_some] <;> rfl) | (simp only [← hji12, ← hji13]; first | rfl | (simp [errW_none, errW_some] <;> rfl)) | (simp [*, errW_none, errW_some] <;> rfl), bq HB.out⟩
       ·rw [if_neg c11] at H
        exact absurd H (by simp)
      ·rw [if_neg c10] at H
       have c10b0 : (a1_0 == 0) = false := beq_eq_false_iff_ne.mpr c10
       have c10b1 : (a1_0 != 0) = true := bne_iff_ne.mpr c10
       obtain rfl := Option.some.inj H
       obtain ⟨hcz15_0, hcz15_1⟩ := zc2 BK106
       obtain ⟨hfz15_0, hfz15_1⟩ := zf2 BK106
       go_wp2
       repeat (go_quiet (fail); try go_wp2)
       go_ret
       exact ⟨by first | rfl | (simp [errW_none, errW_some] <;> rfl) | (simp [*, errW_none, errW_some] <;> rfl), bq HB.out⟩

/-! ### frob_fits: function 36 -/
def frob_fits.f (k : Nat) (a0 : Int) (a1 : Int) (a2_0 : Int) (a2_1 : Int) : Option (Bool) := (octet_Of.f k a0 a2_0 a2_1).bind fun t108 => (if t108 = true then (if a1 ≥ 0 then (some (decide (a1 ≤ a0))) else (some false)) else (some false))
theorem frob_fits.mono : ∀ a0 a1 a2 a3 k, LeO (frob_fits.f k a0 a1 a2 a3) (frob_fits.f (k + 1) a0 a1 a2 a3) := by
 intro a0 a1 a2 a3 k
 unfold frob_fits.f
 repeat' first
   | (with_reducible exact octet_Of.mono _ _ _ _)
   | (with_reducible exact LeO.refl _)
   | (with_reducible exact LeO.none _)
   | (with_reducible refine LeO.ite ?_ ?_)
   | (with_reducible refine LeO.bind ?_ (fun _ => ?_))
   | exact octet_Of.mono _ _ _ _
   | exact LeO.none _
   | refine LeO.ite ?_ ?_
   | refine LeO.bind ?_ (fun _ => ?_)
set_option maxHeartbeats 8000000 in
set_option maxRecDepth 100000 in
theorem frob_fits.calls (k : Nat) (a0 : Int) (a1 : Int) (a2_0 : Int) (a2_1 : Int) (r : Bool) (w : World) (h : frob_fits.f k a0 a1 a2_0 a2_1 = some r) :
  Calls Try.prog 36 #[.int .i64 a0, .int .i64 a1, .agg #[.int .u64 a2_0, .int .u64 a2_1]] w fun e w' => e = .returned (.bool r) ∧ Below w.heap.size w w' := by
 have hu24 := Try.underlying24
 have HB := Aside0.mk (Below.refl w.heap.size w)
 have H : ((octet_Of.f k a0 a2_0 a2_1).bind fun t108 => (if t108 = true then (if a1 ≥ 0 then (some (decide (a1 ≤ a0))) else (some false)) else (some false))) = some r := h
 clear h
 replace H := Option.bind_eq_some_iff.mp H
 obtain ⟨t108, A40, H⟩ := H
 replace H : (if t108 = true then (if a1 ≥ 0 then (some (decide (a1 ≤ a0))) else (some false)) else (some false)) = some r := H
 have A4 := Aside0.mk A40
 clear A40
 by_cases c5 : t108 = true
 ·subst c5
  have H1 : (if a1 ≥ 0 then (some (decide (a1 ≤ a0))) else (some false)) = some r := by rw [if_pos rfl] at H; exact H
  clear H
  have H := H1
  clear H1
  by_cases c6 : a1 ≥ 0
  ·rw [if_pos c6] at H
   have c6b0 : decide (0 ≤ a1) = true := decide_eq_true c6
   clear c6
   obtain rfl := Option.some.inj H
   go_enter Try.func36, Try.ntmps36
   go_wp2_with (first | ((with_reducible refine gate_dst (N := 5) rfl ?_); refine box_event ?hg (N := 5) ?hd (cs := #[.int .u64 a2_0, .int .u64 a2_1]) (t := 24) ?hr ?_; (case hd => rfl); (case hg => rfl); (case hr => first | (go_simp; done) | (go_simp; rfl)); intro gb107 hg w7 hbox hb; have BK107 := Aside0.mk hbox; have GW107 := ge hg HB; have GE107 := ge hg HB; replace HB := bh HB hb; clear hb hbox hg; obtain ⟨hcz8_0, hcz8_1⟩ := zc2 BK107; obtain ⟨hfz8_0, hfz8_1⟩ := zf2 BK107) | ((with_reducible refine gate_callee (f := 26) rfl ?_); refine goesL_ (some 9) rfl rfl Try.func26 (by kernel_rfl) rfl #[.int .i64 a0, .agg #[.int .u64 a2_0, .int .u64 a2_1]] rfl (by (try simp only [List.map_toArray, List.map_cons, List.map_nil]); first | done | rfl | (simp only [List.length_drop, List.length_take]; rfl)) ?_; (with_reducible refine (octet_Of.calls k a0 a2_0 a2_1 true _ A4.out).mono ?_); rintro e w9 ⟨rfl, hb⟩; refine ⟨_, rfl, ?_⟩; replace BK107 := bb BK107 hb; replace HB := bh HB hb; (try clear hb); (try clear hb2); (try clear hk); (try clear hi)))
   go_ret
   exact ⟨by first | rfl | (simp [errW_none, errW_some] <;> rfl) | (simp [*, errW_none, errW_some] <;> rfl), bq HB.out⟩
  ·rw [if_neg c6] at H
   have c6b0 : decide (0 ≤ a1) = false := decide_eq_false c6
   clear c6
   obtain rfl := Option.some.inj H
   go_enter Try.func36, Try.ntmps36
   go_wp2_with (first | ((with_reducible refine gate_dst (N := 5) rfl ?_); refine box_event ?hg (N := 5) ?hd (cs := #[.int .u64 a2_0, .int .u64 a2_1]) (t := 24) ?hr ?_; (case hd => rfl); (case hg => rfl); (case hr => first | (go_simp; done) | (go_simp; rfl)); intro gb107 hg w10 hbox hb; have BK107 := Aside0.mk hbox; have GW107 := ge hg HB; have GE107 := ge hg HB; replace HB := bh HB hb; clear hb hbox hg; obtain ⟨hcz11_0, hcz11_1⟩ := zc2 BK107; obtain ⟨hfz11_0, hfz11_1⟩ := zf2 BK107) | ((with_reducible refine gate_callee (f := 26) rfl ?_); refine goesL_ (some 9) rfl rfl Try.func26 (by kernel_rfl) rfl #[.int .i64 a0, .agg #[.int .u64 a2_0, .int .u64 a2_1]] rfl (by (try simp only [List.map_toArray, List.map_cons, List.map_nil]); first | done | rfl | (simp only [List.length_drop, List.length_take]; rfl)) ?_; (with_reducible refine (octet_Of.calls k a0 a2_0 a2_1 true _ A4.out).mono ?_); rintro e w12 ⟨rfl, hb⟩; refine ⟨_, rfl, ?_⟩; replace BK107 := bb BK107 hb; replace HB := bh HB hb; (try clear hb); (try clear hb2); (try clear hk); (try clear hi)))
   go_ret
   exact ⟨by first | rfl | (simp [errW_none, errW_some] <;> rfl) | (simp [*, errW_none, errW_some] <;> rfl), bq HB.out⟩
 ·replace c5 := Bool.eq_false_iff.mpr c5
  subst c5
  have H1 : (some false) = some r := by rw [if_neg (show ¬ (false = true) by decide)] at H; exact H
  clear H
  have H := H1
  clear H1
  obtain rfl := Option.some.inj H
  go_enter Try.func36, Try.ntmps36
  go_wp2_with (first | ((with_reducible refine gate_dst (N := 5) rfl ?_); refine box_event ?hg (N := 5) ?hd (cs := #[.int .u64 a2_0, .int .u64 a2_1]) (t := 24) ?hr ?_; (case hd => rfl); (case hg => rfl); (case hr => first | (go_simp; done) | (go_simp; rfl)); intro gb107 hg w13 hbox hb; have BK107 := Aside0.mk hbox; have GW107 := ge hg HB; have GE107 := ge hg HB; replace HB := bh HB hb; clear hb hbox hg; obtain ⟨hcz14_0, hcz14_1⟩ := zc2 BK107; obtain ⟨hfz14_0, hfz14_1⟩ := zf2 BK107) | ((with_reducible refine gate_callee (f := 26) rfl ?_); refine goesL_ (some 9) rfl rfl Try.func26 (by kernel_rfl) rfl #[.int .i64 a0, .agg #[.int .u64 a2_0, .int .u64 a2_1]] rfl (by (try simp only [List.map_toArray, List.map_cons, List.map_nil]); first | done | rfl | (simp only [List.length_drop, List.length_take]; rfl)) ?_; (with_reducible refine (octet_Of.calls k a0 a2_0 a2_1 false _ A4.out).mono ?_); rintro e w15 ⟨rfl, hb⟩; refine ⟨_, rfl, ?_⟩; replace BK107 := bb BK107 hb; replace HB := bh HB hb; (try clear hb); (try clear hb2); (try clear hk); (try clear hi)))
  go_ret
  exact ⟨by first | rfl | (simp [errW_none, errW_some] <;> rfl) | (simp [*, errW_none, errW_some] <;> rfl), bq HB.out⟩

-- NOT PRINTED: function 37 (frob_conjugates)

end Go.Proofs.Ytlegcabfgkccmaa.P
