/- Written by a program of this session: functions that the law reaches, as Lean functions, and that the code comes to their answers. Conditions: those that each theorem names. -/
import Derived.Test.YtmibjgjgfombaaaPx0
import Derived.Test.YtmibjgjgfombaaaX2
namespace Go.Proofs.Ytmibjgjgfombaaa.P
open Go.RowKit Go.Proofs.YtmibjgjgfombaaaX Go.Proofs.YtmibjgjgfombaaaW.PrintWords Go.Proofs.YtmibjgjgfombaaaW.PrintLast Go.Proofs.YtmibjgjgfombaaaW.PrintMore
attribute [local go_sem] max2_int min2_int max_two min_two max_three min_three max_four min_four   -- for this text's walks alone
set_option linter.unusedVariables false
set_option linter.unusedSimpArgs false
set_option maxRecDepth 100000 in
theorem fld_lo11b (w : World) (a b : Int) : Sem.run Try.prog (Instr.field 91 (Value.agg #[Value.int IntKind.u64 a, Value.int IntKind.u64 b]) 1) w = Result.ok (Value.int IntKind.u64 b) w := by
  have hu := Try.underlying91
  go_simp
  rfl
attribute [local go_sem] fld_lo11b
set_option maxRecDepth 100000 in
theorem fld_lo11a (w : World) (a b : Int) : Sem.run Try.prog (Instr.field 87 (Value.agg #[Value.int IntKind.u64 a, Value.int IntKind.u64 b]) 1) w = Result.ok (Value.int IntKind.u64 b) w := by
  have hu := Try.underlying87
  go_simp
  rfl
attribute [local go_sem] fld_lo11a

/-! ### steepleref10_round: function 82 -/
mutual
def steepleref10_round.j0 : Nat → List Int → Bool → Int → List Int → List Int → List Int → List (List Int) → Option (List Int)
 | 0, _, _, _, _, _, _, _ => none
 | k + 1, x1, x2, x3, x9, x10, x288000, x288001 => steepleref10_round.l0 k x1 x2 x3 x9 x10 ([] : List Int) 0 x288000 x288001
def steepleref10_round.l0 : Nat → List Int → Bool → Int → List Int → List Int → List Int → Int → List Int → List (List Int) → Option (List Int)
 | 0, _, _, _, _, _, _, _, _, _ => none
 | k + 1, x1, x2, x3, x9, x10, x11, x12, x288000, x288001 => if x12 < 64 then (if 0 ≤ x12 then (if x12 < (x1.length : Int) then (if x2 = true then (if (Int.tmod x12 8) = 7 then (if 0 ≤ (Go.bits .xor .i64 (Go.bits .xor .i64 (rd x1 x12) 255) (Int.tmod (wrap64 ((wrap64 (16 * (wrap64 (Int.tdiv x12 8)))) + x3)) 256)) then (if (Go.bits .xor .i64 (Go.bits .xor .i64 (rd x1 x12) 255) (Int.tmod (wrap64 ((wrap64 (16 * (wrap64 (Int.tdiv x12 8)))) + x3)) 256)) < (x288000.length : Int) then (if x11.length < 17592186044416 then (steepleref10_round.l0 k x1 x2 x3 x9 x10 (x11 ++ [rd x288000 (Go.bits .xor .i64 (Go.bits .xor .i64 (rd x1 x12) 255) (Int.tmod (wrap64 ((wrap64 (16 * (wrap64 (Int.tdiv x12 8)))) + x3)) 256))]) (wrap64 (x12 + 1)) x288000 x288001) else (none)) else (none)) else (none)) else (if 0 ≤ (Go.bits .xor .i64 (rd x1 x12) 255) then (if (Go.bits .xor .i64 (rd x1 x12) 255) < (x288000.length : Int) then (if x11.length < 17592186044416 then (steepleref10_round.l0 k x1 x2 x3 x9 x10 (x11 ++ [rd x288000 (Go.bits .xor .i64 (rd x1 x12) 255)]) (wrap64 (x12 + 1)) x288000 x288001) else (none)) else (none)) else (none))) else (if (Int.tmod x12 8) = 0 then (if 0 ≤ (Go.bits .xor .i64 (rd x1 x12) (Int.tmod (wrap64 ((wrap64 (16 * (wrap64 (Int.tdiv x12 8)))) + x3)) 256)) then (if (Go.bits .xor .i64 (rd x1 x12) (Int.tmod (wrap64 ((wrap64 (16 * (wrap64 (Int.tdiv x12 8)))) + x3)) 256)) < (x288000.length : Int) then (if x11.length < 17592186044416 then (steepleref10_round.l0 k x1 x2 x3 x9 x10 (x11 ++ [rd x288000 (Go.bits .xor .i64 (rd x1 x12) (Int.tmod (wrap64 ((wrap64 (16 * (wrap64 (Int.tdiv x12 8)))) + x3)) 256))]) (wrap64 (x12 + 1)) x288000 x288001) else (none)) else (none)) else (none)) else (if 0 ≤ (rd x1 x12) then (if (rd x1 x12) < (x288000.length : Int) then (if x11.length < 17592186044416 then (steepleref10_round.l0 k x1 x2 x3 x9 x10 (x11 ++ [rd x288000 (rd x1 x12)]) (wrap64 (x12 + 1)) x288000 x288001) else (none)) else (none)) else (none)))) else (none)) else (none)) else (steepleref10_round.l1 k x9 x10 x11 ([] : List Int) 0 x288000 x288001)
def steepleref10_round.l1 : Nat → List Int → List Int → List Int → List Int → Int → List Int → List (List Int) → Option (List Int)
 | 0, _, _, _, _, _, _, _ => none
 | k + 1, x9, x10, x11, x14, x15, x288000, x288001 => if x15 < 64 then (steepleref10_round.l2 k x9 x10 x11 x14 x15 0 0 x288000 x288001) else (some x14)
def steepleref10_round.l2 : Nat → List Int → List Int → List Int → List Int → Int → Int → Int → List Int → List (List Int) → Option (List Int)
 | 0, _, _, _, _, _, _, _, _, _ => none
 | k + 1, x9, x10, x11, x14, x15, x16, x17, x288000, x288001 => if x17 < 8 then (if 0 ≤ (Int.tmod (wrap64 ((Int.tmod x15 8) + x17)) 8) then (if (Int.tmod (wrap64 ((Int.tmod x15 8) + x17)) 8) < (x9.length : Int) then (if 0 ≤ x17 then (if x17 < (x10.length : Int) then (if 0 ≤ (rd x10 x17) then (if (rd x10 x17) < (x288001.length : Int) then (if 0 ≤ (wrap64 ((wrap64 (8 * (Int.tmod (wrap64 ((wrap64 (Int.tdiv x15 8)) + (rd x9 (Int.tmod (wrap64 ((Int.tmod x15 8) + x17)) 8)))) 8))) + (Int.tmod (wrap64 ((Int.tmod x15 8) + x17)) 8))) then (if (wrap64 ((wrap64 (8 * (Int.tmod (wrap64 ((wrap64 (Int.tdiv x15 8)) + (rd x9 (Int.tmod (wrap64 ((Int.tmod x15 8) + x17)) 8)))) 8))) + (Int.tmod (wrap64 ((Int.tmod x15 8) + x17)) 8))) < (x11.length : Int) then (if 0 ≤ (rd x11 (wrap64 ((wrap64 (8 * (Int.tmod (wrap64 ((wrap64 (Int.tdiv x15 8)) + (rd x9 (Int.tmod (wrap64 ((Int.tmod x15 8) + x17)) 8)))) 8))) + (Int.tmod (wrap64 ((Int.tmod x15 8) + x17)) 8)))) then (if (rd x11 (wrap64 ((wrap64 (8 * (Int.tmod (wrap64 ((wrap64 (Int.tdiv x15 8)) + (rd x9 (Int.tmod (wrap64 ((Int.tmod x15 8) + x17)) 8)))) 8))) + (Int.tmod (wrap64 ((Int.tmod x15 8) + x17)) 8)))) < ((rd_L5 x288001 (rd x10 x17)).length : Int) then (steepleref10_round.l2 k x9 x10 x11 x14 x15 (Go.bits .xor .i64 x16 (rd (rd_L5 x288001 (rd x10 x17)) (rd x11 (wrap64 ((wrap64 (8 * (Int.tmod (wrap64 ((wrap64 (Int.tdiv x15 8)) + (rd x9 (Int.tmod (wrap64 ((Int.tmod x15 8) + x17)) 8)))) 8))) + (Int.tmod (wrap64 ((Int.tmod x15 8) + x17)) 8)))))) (wrap64 (x17 + 1)) x288000 x288001) else (none)) else (none)) else (none)) else (none)) else (none)) else (none)) else (none)) else (none)) else (none)) else (none)) else (if x14.length < 17592186044416 then (steepleref10_round.l1 k x9 x10 x11 (x14 ++ [x16]) (wrap64 (x15 + 1)) x288000 x288001) else (none))
end
def steepleref10_round.f (k : Nat) (l0_0 : List Int) (l0_1 : List (List Int)) (l1 : List Int) (a2 : Bool) (a3 : Int) : Option (List Int) := (some (([2, 2, 3, 4, 5, 3, 5, 7] : List Int) : List Int)).bind fun y291 => (if a2 = true then (steepleref10_round.j0 k l1 a2 a3 (([1, 3, 5, 7, 0, 2, 4, 6] : List Int)) y291 l0_0 l0_1) else (steepleref10_round.j0 k l1 a2 a3 (([0, 1, 2, 3, 4, 5, 6, 7] : List Int)) y291 l0_0 l0_1))
set_option maxHeartbeats 8000000 in
set_option maxRecDepth 100000 in
theorem steepleref10_round.calls (k : Nat) (A0_0 : Option Addr) (c0_0 : Nat) (l0_0 : List Int) (A0_1 : Option Addr) (c0_1 : Nat) (l0_1 : List (List Int)) (A1 : Option Addr) (c1 : Nat) (l1 : List Int) (a2 : Bool) (a3 : Int) (r : List Int) (w : World) (hr0_0 : Kd.C (Kd.int .i64) w A0_0 l0_0.length l0_0) (hc0_0 : l0_0.length ≤ c0_0) (hr0_1 : Kd.C (Kd.slice 3 (Kd.int .i64)) w A0_1 l0_1.length l0_1) (hc0_1 : l0_1.length ≤ c0_1) (hr1 : Kd.C (Kd.int .i64) w A1 l1.length l1) (hc1 : l1.length ≤ c1) (h : steepleref10_round.f k l0_0 l0_1 l1 a2 a3 = some r) :
  Calls Try.prog 82 #[.agg #[.slice A0_0 l0_0.length c0_0, .slice A0_1 l0_1.length c0_1], .slice A1 l1.length c1, .bool a2, .int .i64 a3] w fun e w' => ∃ v0_ : Value, e = .returned (v0_) ∧ Kd.R (Kd.int .i64) 3 w' w.heap.size (fun _ => True) v0_ r ∧ Below w.heap.size w w' := by
 have hu39 := Try.underlying39
 have HR0_0 := Aside0.mk hr0_0
 have HC0_0 := Aside0.mk hc0_0
 clear hr0_0 hc0_0
 have HR0_1 := Aside0.mk hr0_1
 have HC0_1 := Aside0.mk hc0_1
 clear hr0_1 hc0_1
 have HR1 := Aside0.mk hr1
 have HC1 := Aside0.mk hc1
 clear hr1 hc1
 have HB := Aside0.mk (Below.refl w.heap.size w)
 have H : ((some (([2, 2, 3, 4, 5, 3, 5, 7] : List Int) : List Int)).bind fun y291 => (if a2 = true then (steepleref10_round.j0 k l1 a2 a3 (([1, 3, 5, 7, 0, 2, 4, 6] : List Int)) y291 l0_0 l0_1) else (steepleref10_round.j0 k l1 a2 a3 (([0, 1, 2, 3, 4, 5, 6, 7] : List Int)) y291 l0_0 l0_1))) = some r := h
 clear h
 obtain ⟨y288, hy288⟩ : ∃ y_ : List Int, y_ = (([0, 1, 2, 3, 4, 5, 6, 7] : List Int)) := ⟨_, rfl⟩
 replace H : ((some (([2, 2, 3, 4, 5, 3, 5, 7] : List Int) : List Int)).bind fun y291 => (if a2 = true then (steepleref10_round.j0 k l1 a2 a3 (([1, 3, 5, 7, 0, 2, 4, 6] : List Int)) y291 l0_0 l0_1) else (steepleref10_round.j0 k l1 a2 a3 y288 y291 l0_0 l0_1))) = some r := by first | (rw [hy288]; with_reducible exact H) | (have H2_ := (Option.bind_some _ _).symm.trans H; rw [hy288]; with_reducible exact H2_) | (have H2_ := (Option.bind_some _ _).symm.trans H; with_reducible exact H2_) | with_reducible exact H | (rw [hy288]; exact H) | exact H
 have Ny288 := Aside0.mk hy288
 clear hy288
 obtain ⟨y291, hy291⟩ : ∃ y_ : List Int, y_ = (([2, 2, 3, 4, 5, 3, 5, 7] : List Int)) := ⟨_, rfl⟩
 replace H : (if a2 = true then (steepleref10_round.j0 k l1 a2 a3 (([1, 3, 5, 7, 0, 2, 4, 6] : List Int)) y291 l0_0 l0_1) else (steepleref10_round.j0 k l1 a2 a3 y288 y291 l0_0 l0_1)) = some r := by first | (rw [hy291]; with_reducible exact H) | (have H2_ := (Option.bind_some _ _).symm.trans H; rw [hy291]; with_reducible exact H2_) | (have H2_ := (Option.bind_some _ _).symm.trans H; with_reducible exact H2_) | with_reducible exact H | (rw [hy291]; exact H) | exact H
 have Ny291 := Aside0.mk hy291
 clear hy291
 have HC5 := Aside0.mk H
 clear H
 go_enter Try.func82, Try.ntmps82
 go_upto_if 22 with (first | ((with_reducible refine gate_dst (N := 4) rfl ?_); refine box_event ?hg (N := 4) ?hd (cs := #[.slice A0_0 l0_0.length c0_0, .slice A0_1 l0_1.length c0_1]) (t := 39) ?hr ?_; (case hd => rfl); (case hg => rfl); (case hr => go_simp <;> rfl); intro gb287 hg w6 hbox hb; have BK287 := Aside0.mk hbox; have GW287 := ge hg HB; have GE287 := ge hg HB; replace HB := bh HB hb; clear hb hbox hg) | ((with_reducible refine gate_dst (N := 20) rfl ?_); refine Kd.R_lit (Kd.int .i64) _ 3 ?hg (N := 20) ?hd (xs := ([0, 1, 2, 3, 4, 5, 6, 7] : List Int)) (inner := [.int .i64 0, .int .i64 1, .int .i64 2, .int .i64 3, .int .i64 4, .int .i64 5, .int .i64 6, .int .i64 7]) (ok := fun _ => True) (okp := fun _ => True) ?hr ?hp (fun _ hk => hk) trivial (Below.refl _ _) (Nat.le_refl _) (by simp) ?_; (case hd => rfl); (case hg => rfl); (case hr => go_simp <;> rfl); (case hp => exact (Reps.one (show Kd.M (Kd.int .i64) _ _ _ 0 [.int .i64 0] from rfl) (Reps.one (show Kd.M (Kd.int .i64) _ _ _ 1 [.int .i64 1] from rfl) (Reps.one (show Kd.M (Kd.int .i64) _ _ _ 2 [.int .i64 2] from rfl) (Reps.one (show Kd.M (Kd.int .i64) _ _ _ 3 [.int .i64 3] from rfl) (Reps.one (show Kd.M (Kd.int .i64) _ _ _ 4 [.int .i64 4] from rfl) (Reps.one (show Kd.M (Kd.int .i64) _ _ _ 5 [.int .i64 5] from rfl) (Reps.one (show Kd.M (Kd.int .i64) _ _ _ 6 [.int .i64 6] from rfl) (Reps.one (show Kd.M (Kd.int .i64) _ _ _ 7 [.int .i64 7] from rfl) (Reps.none _ _)))))))))); intro v289 w7 ho8 hb hg_ hnew_; clear hg_ hnew_; (first | rw [← Ny288.out] at ho8 | (simp only [Int.reduceToNat] at ho8; rw [← Ny288.out] at ho8)); have HO290 := kw ho8 HB; replace BK287 := bb BK287 hb; replace HB := bh HB hb; clear hb ho8) | ((with_reducible refine gate_dst (N := 21) rfl ?_); refine Kd.R_lit (Kd.int .i64) _ 3 ?hg (N := 21) ?hd (xs := ([2, 2, 3, 4, 5, 3, 5, 7] : List Int)) (inner := [.int .i64 2, .int .i64 2, .int .i64 3, .int .i64 4, .int .i64 5, .int .i64 3, .int .i64 5, .int .i64 7]) (ok := fun _ => True) (okp := fun _ => True) ?hr ?hp (fun _ hk => hk) trivial (Below.refl _ _) (Nat.le_refl _) (by simp) ?_; (case hd => rfl); (case hg => rfl); (case hr => go_simp <;> rfl); (case hp => exact (Reps.one (show Kd.M (Kd.int .i64) _ _ _ 2 [.int .i64 2] from rfl) (Reps.one (show Kd.M (Kd.int .i64) _ _ _ 2 [.int .i64 2] from rfl) (Reps.one (show Kd.M (Kd.int .i64) _ _ _ 3 [.int .i64 3] from rfl) (Reps.one (show Kd.M (Kd.int .i64) _ _ _ 4 [.int .i64 4] from rfl) (Reps.one (show Kd.M (Kd.int .i64) _ _ _ 5 [.int .i64 5] from rfl) (Reps.one (show Kd.M (Kd.int .i64) _ _ _ 3 [.int .i64 3] from rfl) (Reps.one (show Kd.M (Kd.int .i64) _ _ _ 5 [.int .i64 5] from rfl) (Reps.one (show Kd.M (Kd.int .i64) _ _ _ 7 [.int .i64 7] from rfl) (Reps.none _ _)))))))))); intro v292 w9 ho10 hb hg_ hnew_; clear hg_ hnew_; (first | rw [← Ny291.out] at ho10 | (simp only [Int.reduceToNat] at ho10; rw [← Ny291.out] at ho10)); have HO293 := Aside0.mk (Kd.R_lower (Kd.R_new' ho10 (Kd.R_lt (kr HO290.out))) (below_size (bq HB.out))); replace HO290 := Aside0.mk (Kd.R_elder' (kr HO290.out) (Kd.R_base ho10) hb); replace BK287 := bb BK287 hb; replace HB := bh HB hb; clear hb ho10))
 repeat (go_quiet (first | ((with_reducible refine gate_dst (N := 4) rfl ?_); refine box_event ?hg (N := 4) ?hd (cs := #[.slice A0_0 l0_0.length c0_0, .slice A0_1 l0_1.length c0_1]) (t := 39) ?hr ?_; (case hd => rfl); (case hg => rfl); (case hr => go_simp <;> rfl); intro gb287 hg w6 hbox hb; have BK287 := Aside0.mk hbox; have GW287 := ge hg HB; have GE287 := ge hg HB; replace HB := bh HB hb; clear hb hbox hg) | ((with_reducible refine gate_dst (N := 20) rfl ?_); refine Kd.R_lit (Kd.int .i64) _ 3 ?hg (N := 20) ?hd (xs := ([0, 1, 2, 3, 4, 5, 6, 7] : List Int)) (inner := [.int .i64 0, .int .i64 1, .int .i64 2, .int .i64 3, .int .i64 4, .int .i64 5, .int .i64 6, .int .i64 7]) (ok := fun _ => True) (okp := fun _ => True) ?hr ?hp (fun _ hk => hk) trivial (Below.refl _ _) (Nat.le_refl _) (by simp) ?_; (case hd => rfl); (case hg => rfl); (case hr => go_simp <;> rfl); (case hp => exact (Reps.one (show Kd.M (Kd.int .i64) _ _ _ 0 [.int .i64 0] from rfl) (Reps.one (show Kd.M (Kd.int .i64) _ _ _ 1 [.int .i64 1] from rfl) (Reps.one (show Kd.M (Kd.int .i64) _ _ _ 2 [.int .i64 2] from rfl) (Reps.one (show Kd.M (Kd.int .i64) _ _ _ 3 [.int .i64 3] from rfl) (Reps.one (show Kd.M (Kd.int .i64) _ _ _ 4 [.int .i64 4] from rfl) (Reps.one (show Kd.M (Kd.int .i64) _ _ _ 5 [.int .i64 5] from rfl) (Reps.one (show Kd.M (Kd.int .i64) _ _ _ 6 [.int .i64 6] from rfl) (Reps.one (show Kd.M (Kd.int .i64) _ _ _ 7 [.int .i64 7] from rfl) (Reps.none _ _)))))))))); intro v289 w7 ho8 hb hg_ hnew_; clear hg_ hnew_; (first | rw [← Ny288.out] at ho8 | (simp only [Int.reduceToNat] at ho8; rw [← Ny288.out] at ho8)); have HO290 := kw ho8 HB; replace BK287 := bb BK287 hb; replace HB := bh HB hb; clear hb ho8) | ((with_reducible refine gate_dst (N := 21) rfl ?_); refine Kd.R_lit (Kd.int .i64) _ 3 ?hg (N := 21) ?hd (xs := ([2, 2, 3, 4, 5, 3, 5, 7] : List Int)) (inner := [.int .i64 2, .int .i64 2, .int .i64 3, .int .i64 4, .int .i64 5, .int .i64 3, .int .i64 5, .int .i64 7]) (ok := fun _ => True) (okp := fun _ => True) ?hr ?hp (fun _ hk => hk) trivial (Below.refl _ _) (Nat.le_refl _) (by simp) ?_; (case hd => rfl); (case hg => rfl); (case hr => go_simp <;> rfl); (case hp => exact (Reps.one (show Kd.M (Kd.int .i64) _ _ _ 2 [.int .i64 2] from rfl) (Reps.one (show Kd.M (Kd.int .i64) _ _ _ 2 [.int .i64 2] from rfl) (Reps.one (show Kd.M (Kd.int .i64) _ _ _ 3 [.int .i64 3] from rfl) (Reps.one (show Kd.M (Kd.int .i64) _ _ _ 4 [.int .i64 4] from rfl) (Reps.one (show Kd.M (Kd.int .i64) _ _ _ 5 [.int .i64 5] from rfl) (Reps.one (show Kd.M (Kd.int .i64) _ _ _ 3 [.int .i64 3] from rfl) (Reps.one (show Kd.M (Kd.int .i64) _ _ _ 5 [.int .i64 5] from rfl) (Reps.one (show Kd.M (Kd.int .i64) _ _ _ 7 [.int .i64 7] from rfl) (Reps.none _ _)))))))))); intro v292 w9 ho10 hb hg_ hnew_; clear hg_ hnew_; (first | rw [← Ny291.out] at ho10 | (simp only [Int.reduceToNat] at ho10; rw [← Ny291.out] at ho10)); have HO293 := Aside0.mk (Kd.R_lower (Kd.R_new' ho10 (Kd.R_lt (kr HO290.out))) (below_size (bq HB.out))); replace HO290 := Aside0.mk (Kd.R_elder' (kr HO290.out) (Kd.R_base ho10) hb); replace BK287 := bb BK287 hb; replace HB := bh HB hb; clear hb ho10)); go_upto_if 22 with (first | ((with_reducible refine gate_dst (N := 4) rfl ?_); refine box_event ?hg (N := 4) ?hd (cs := #[.slice A0_0 l0_0.length c0_0, .slice A0_1 l0_1.length c0_1]) (t := 39) ?hr ?_; (case hd => rfl); (case hg => rfl); (case hr => go_simp <;> rfl); intro gb287 hg w6 hbox hb; have BK287 := Aside0.mk hbox; have GW287 := ge hg HB; have GE287 := ge hg HB; replace HB := bh HB hb; clear hb hbox hg) | ((with_reducible refine gate_dst (N := 20) rfl ?_); refine Kd.R_lit (Kd.int .i64) _ 3 ?hg (N := 20) ?hd (xs := ([0, 1, 2, 3, 4, 5, 6, 7] : List Int)) (inner := [.int .i64 0, .int .i64 1, .int .i64 2, .int .i64 3, .int .i64 4, .int .i64 5, .int .i64 6, .int .i64 7]) (ok := fun _ => True) (okp := fun _ => True) ?hr ?hp (fun _ hk => hk) trivial (Below.refl _ _) (Nat.le_refl _) (by simp) ?_; (case hd => rfl); (case hg => rfl); (case hr => go_simp <;> rfl); (case hp => exact (Reps.one (show Kd.M (Kd.int .i64) _ _ _ 0 [.int .i64 0] from rfl) (Reps.one (show Kd.M (Kd.int .i64) _ _ _ 1 [.int .i64 1] from rfl) (Reps.one (show Kd.M (Kd.int .i64) _ _ _ 2 [.int .i64 2] from rfl) (Reps.one (show Kd.M (Kd.int .i64) _ _ _ 3 [.int .i64 3] from rfl) (Reps.one (show Kd.M (Kd.int .i64) _ _ _ 4 [.int .i64 4] from rfl) (Reps.one (show Kd.M (Kd.int .i64) _ _ _ 5 [.int .i64 5] from rfl) (Reps.one (show Kd.M (Kd.int .i64) _ _ _ 6 [.int .i64 6] from rfl) (Reps.one (show Kd.M (Kd.int .i64) _ _ _ 7 [.int .i64 7] from rfl) (Reps.none _ _)))))))))); intro v289 w7 ho8 hb hg_ hnew_; clear hg_ hnew_; (first | rw [← Ny288.out] at ho8 | (simp only [Int.reduceToNat] at ho8; rw [← Ny288.out] at ho8)); have HO290 := kw ho8 HB; replace BK287 := bb BK287 hb; replace HB := bh HB hb; clear hb ho8) | ((with_reducible refine gate_dst (N := 21) rfl ?_); refine Kd.R_lit (Kd.int .i64) _ 3 ?hg (N := 21) ?hd (xs := ([2, 2, 3, 4, 5, 3, 5, 7] : List Int)) (inner := [.int .i64 2, .int .i64 2, .int .i64 3, .int .i64 4, .int .i64 5, .int .i64 3, .int .i64 5, .int .i64 7]) (ok := fun _ => True) (okp := fun _ => True) ?hr ?hp (fun _ hk => hk) trivial (Below.refl _ _) (Nat.le_refl _) (by simp) ?_; (case hd => rfl); (case hg => rfl); (case hr => go_simp <;> rfl); (case hp => exact (Reps.one (show Kd.M (Kd.int .i64) _ _ _ 2 [.int .i64 2] from rfl) (Reps.one (show Kd.M (Kd.int .i64) _ _ _ 2 [.int .i64 2] from rfl) (Reps.one (show Kd.M (Kd.int .i64) _ _ _ 3 [.int .i64 3] from rfl) (Reps.one (show Kd.M (Kd.int .i64) _ _ _ 4 [.int .i64 4] from rfl) (Reps.one (show Kd.M (Kd.int .i64) _ _ _ 5 [.int .i64 5] from rfl) (Reps.one (show Kd.M (Kd.int .i64) _ _ _ 3 [.int .i64 3] from rfl) (Reps.one (show Kd.M (Kd.int .i64) _ _ _ 5 [.int .i64 5] from rfl) (Reps.one (show Kd.M (Kd.int .i64) _ _ _ 7 [.int .i64 7] from rfl) (Reps.none _ _)))))))))); intro v292 w9 ho10 hb hg_ hnew_; clear hg_ hnew_; (first | rw [← Ny291.out] at ho10 | (simp only [Int.reduceToNat] at ho10; rw [← Ny291.out] at ho10)); have HO293 := Aside0.mk (Kd.R_lower (Kd.R_new' ho10 (Kd.R_lt (kr HO290.out))) (below_size (bq HB.out))); replace HO290 := Aside0.mk (Kd.R_elder' (kr HO290.out) (Kd.R_base ho10) hb); replace BK287 := bb BK287 hb; replace HB := bh HB hb; clear hb ho10)))
 (try simp only [Act.put, sA, s0, sS])
 go_cut [9] (fun v9 wc => ∃ (kq : Nat) (x9_4 : List Int), Aside0 (steepleref10_round.j0 kq l1 a2 a3 x9_4 y291 l0_0 l0_1 = some r) ∧ Aside0 (kq ≤ k) ∧ Aside0 (Kd.R (Kd.int .i64) 3 wc w.heap.size (fun k_ => some k_ ≠ (v292 : Value).ownBlock) v9 x9_4) ∧ Aside0 (Kd.R (Kd.int .i64) 3 wc w.heap.size (fun k_ => some k_ ≠ (v9 : Value).ownBlock) v292 y291) ∧ Aside0 (wc.heap[gb287]? = some (.cells #[(.slice A0_0 l0_0.length c0_0), (.slice A0_1 l0_1.length c0_1)] 39 (0, 0))) ∧ Aside0 (Below w.heap.size w wc))
 case first =>
  have H := HC5.out
  clear HC5
  by_cases c11 : a2 = true
  rotate_left
  ·replace c11 := Bool.eq_false_iff.mpr c11
   subst c11
   have H1 : (steepleref10_round.j0 k l1 false a3 y288 y291 l0_0 l0_1) = some r := by rw [if_neg (show ¬ (false = true) by decide)] at H; exact H
   clear H
   have H := H1
   clear H1
   have H' := Aside0.mk H
   clear H
   go_wp2
   repeat (go_quiet (fail); try go_wp2)
   go_meet
   case rel => exact ⟨_, (y288), H', ⟨by first | omega | exact Nat.le_refl _⟩, ⟨by (with_reducible repeat refine kl ?_); exact Kd.R_mono HO290.out (fun _ hk => hk.2)⟩, ⟨by (with_reducible repeat refine kl ?_); exact Kd.R_mono HO293.out (fun _ hk => hk.2)⟩, ⟨bk BK287.out⟩, ⟨bq HB.out⟩⟩
  subst c11
  have H1 : (steepleref10_round.j0 k l1 true a3 (([1, 3, 5, 7, 0, 2, 4, 6] : List Int)) y291 l0_0 l0_1) = some r := by rw [if_pos rfl] at H; exact H
  clear H
  have H := H1
  clear H1
  obtain ⟨y294, hy294⟩ : ∃ y_ : List Int, y_ = (([1, 3, 5, 7, 0, 2, 4, 6] : List Int)) := ⟨_, rfl⟩
  replace H : (steepleref10_round.j0 k l1 true a3 y294 y291 l0_0 l0_1) = some r := by first | (rw [hy294]; with_reducible exact H) | (have H2_ := (Option.bind_some _ _).symm.trans H; rw [hy294]; with_reducible exact H2_) | (have H2_ := (Option.bind_some _ _).symm.trans H; with_reducible exact H2_) | with_reducible exact H | (rw [hy294]; exact H) | exact H
  have Ny294 := Aside0.mk hy294
  clear hy294
  have H' := Aside0.mk H
  clear H
  go_wp2_with (first | ((with_reducible refine gate_dst (N := 23) rfl ?_); refine Kd.R_lit (Kd.int .i64) _ 3 ?hg (N := 23) ?hd (xs := ([1, 3, 5, 7, 0, 2, 4, 6] : List Int)) (inner := [.int .i64 1, .int .i64 3, .int .i64 5, .int .i64 7, .int .i64 0, .int .i64 2, .int .i64 4, .int .i64 6]) (ok := fun _ => True) (okp := fun _ => True) ?hr ?hp (fun _ hk => hk) trivial (Below.refl _ _) (Nat.le_refl _) (by simp) ?_; (case hd => rfl); (case hg => rfl); (case hr => go_simp <;> rfl); (case hp => exact (Reps.one (show Kd.M (Kd.int .i64) _ _ _ 1 [.int .i64 1] from rfl) (Reps.one (show Kd.M (Kd.int .i64) _ _ _ 3 [.int .i64 3] from rfl) (Reps.one (show Kd.M (Kd.int .i64) _ _ _ 5 [.int .i64 5] from rfl) (Reps.one (show Kd.M (Kd.int .i64) _ _ _ 7 [.int .i64 7] from rfl) (Reps.one (show Kd.M (Kd.int .i64) _ _ _ 0 [.int .i64 0] from rfl) (Reps.one (show Kd.M (Kd.int .i64) _ _ _ 2 [.int .i64 2] from rfl) (Reps.one (show Kd.M (Kd.int .i64) _ _ _ 4 [.int .i64 4] from rfl) (Reps.one (show Kd.M (Kd.int .i64) _ _ _ 6 [.int .i64 6] from rfl) (Reps.none _ _)))))))))); intro v295 w12 ho13 hb hg_ hnew_; clear hg_ hnew_; (first | rw [← Ny294.out] at ho13 | (simp only [Int.reduceToNat] at ho13; rw [← Ny294.out] at ho13)); have HO296 := Aside0.mk (Kd.R_lower (Kd.R_new' (Kd.R_new' ho13 (Kd.R_lt (kr HO290.out))) (Kd.R_lt (kr HO293.out))) (below_size (bq HB.out))); replace HO290 := Aside0.mk (Kd.R_elder' (kr HO290.out) (Kd.R_base ho13) hb); replace HO293 := Aside0.mk (Kd.R_elder' (kr HO293.out) (Kd.R_base ho13) hb); replace BK287 := bb BK287 hb; replace HB := bh HB hb; clear hb ho13))
  repeat (go_quiet (first | ((with_reducible refine gate_dst (N := 23) rfl ?_); refine Kd.R_lit (Kd.int .i64) _ 3 ?hg (N := 23) ?hd (xs := ([1, 3, 5, 7, 0, 2, 4, 6] : List Int)) (inner := [.int .i64 1, .int .i64 3, .int .i64 5, .int .i64 7, .int .i64 0, .int .i64 2, .int .i64 4, .int .i64 6]) (ok := fun _ => True) (okp := fun _ => True) ?hr ?hp (fun _ hk => hk) trivial (Below.refl _ _) (Nat.le_refl _) (by simp) ?_; (case hd => rfl); (case hg => rfl); (case hr => go_simp <;> rfl); (case hp => exact (Reps.one (show Kd.M (Kd.int .i64) _ _ _ 1 [.int .i64 1] from rfl) (Reps.one (show Kd.M (Kd.int .i64) _ _ _ 3 [.int .i64 3] from rfl) (Reps.one (show Kd.M (Kd.int .i64) _ _ _ 5 [.int .i64 5] from rfl) (Reps.one (show Kd.M (Kd.int .i64) _ _ _ 7 [.int .i64 7] from rfl) (Reps.one (show Kd.M (Kd.int .i64) _ _ _ 0 [.int .i64 0] from rfl) (Reps.one (show Kd.M (Kd.int .i64) _ _ _ 2 [.int .i64 2] from rfl) (Reps.one (show Kd.M (Kd.int .i64) _ _ _ 4 [.int .i64 4] from rfl) (Reps.one (show Kd.M (Kd.int .i64) _ _ _ 6 [.int .i64 6] from rfl) (Reps.none _ _)))))))))); intro v295 w12 ho13 hb hg_ hnew_; clear hg_ hnew_; (first | rw [← Ny294.out] at ho13 | (simp only [Int.reduceToNat] at ho13; rw [← Ny294.out] at ho13)); have HO296 := Aside0.mk (Kd.R_lower (Kd.R_new' (Kd.R_new' ho13 (Kd.R_lt (kr HO290.out))) (Kd.R_lt (kr HO293.out))) (below_size (bq HB.out))); replace HO290 := Aside0.mk (Kd.R_elder' (kr HO290.out) (Kd.R_base ho13) hb); replace HO293 := Aside0.mk (Kd.R_elder' (kr HO293.out) (Kd.R_base ho13) hb); replace BK287 := bb BK287 hb; replace HB := bh HB hb; clear hb ho13)); try go_wp2_with (first | ((with_reducible refine gate_dst (N := 23) rfl ?_); refine Kd.R_lit (Kd.int .i64) _ 3 ?hg (N := 23) ?hd (xs := ([1, 3, 5, 7, 0, 2, 4, 6] : List Int)) (inner := [.int .i64 1, .int .i64 3, .int .i64 5, .int .i64 7, .int .i64 0, .int .i64 2, .int .i64 4, .int .i64 6]) (ok := fun _ => True) (okp := fun _ => True) ?hr ?hp (fun _ hk => hk) trivial (Below.refl _ _) (Nat.le_refl _) (by simp) ?_; (case hd => rfl); (case hg => rfl); (case hr => go_simp <;> rfl); (case hp => exact (Reps.one (show Kd.M (Kd.int .i64) _ _ _ 1 [.int .i64 1] from rfl) (Reps.one (show Kd.M (Kd.int .i64) _ _ _ 3 [.int .i64 3] from rfl) (Reps.one (show Kd.M (Kd.int .i64) _ _ _ 5 [.int .i64 5] from rfl) (Reps.one (show Kd.M (Kd.int .i64) _ _ _ 7 [.int .i64 7] from rfl) (Reps.one (show Kd.M (Kd.int .i64) _ _ _ 0 [.int .i64 0] from rfl) (Reps.one (show Kd.M (Kd.int .i64) _ _ _ 2 [.int .i64 2] from rfl) (Reps.one (show Kd.M (Kd.int .i64) _ _ _ 4 [.int .i64 4] from rfl) (Reps.one (show Kd.M (Kd.int .i64) _ _ _ 6 [.int .i64 6] from rfl) (Reps.none _ _)))))))))); intro v295 w12 ho13 hb hg_ hnew_; clear hg_ hnew_; (first | rw [← Ny294.out] at ho13 | (simp only [Int.reduceToNat] at ho13; rw [← Ny294.out] at ho13)); have HO296 := Aside0.mk (Kd.R_lower (Kd.R_new' (Kd.R_new' ho13 (Kd.R_lt (kr HO290.out))) (Kd.R_lt (kr HO293.out))) (below_size (bq HB.out))); replace HO290 := Aside0.mk (Kd.R_elder' (kr HO290.out) (Kd.R_base ho13) hb); replace HO293 := Aside0.mk (Kd.R_elder' (kr HO293.out) (Kd.R_base ho13) hb); replace BK287 := bb BK287 hb; replace HB := bh HB hb; clear hb ho13)))
  go_meet
  case rel => exact ⟨_, (y294), H', ⟨by first | omega | exact Nat.le_refl _⟩, ⟨by (with_reducible repeat refine kl ?_); exact Kd.R_mono HO296.out (fun _ hk => hk.2)⟩, ⟨by (with_reducible repeat refine kl ?_); exact Kd.R_mono HO293.out (fun _ hk => hk.2)⟩, ⟨bk BK287.out⟩, ⟨bq HB.out⟩⟩
 case rest =>
  clear HC5
  try clear c1
  try clear p2
  try clear c8
  try clear c11
  obtain ⟨kq, x9_4, HA, HJ4, HO_9, HO_10, BK287, HB⟩ := hcut
  cases kq with
  | zero => exact absurd HA.out (by simp [steepleref10_round.j0])
  | succ kj4 =>
   have H := HA.out
   clear HA
   simp only [steepleref10_round.j0] at H
   have H' := Aside0.mk H
   clear H
   go_wp2
   repeat (go_quiet (fail); try go_wp2)
   go_loopg [11, 12] kj4 (fun kq v11 v12 w' => ∃ (x11_2 : List Int) (x12_2 : Int), v12 = .int .i64 x12_2 ∧ Aside0 (steepleref10_round.l0 kq l1 a2 a3 x9_4 y291 x11_2 x12_2 l0_0 l0_1 = some r) ∧ Aside0 (kq ≤ kj4) ∧ Aside0 (Kd.R (Kd.int .i64) 3 w' w.heap.size (fun k_ => some k_ ≠ (v292 : Value).ownBlock ∧ some k_ ≠ (v11 : Value).ownBlock) u9 x9_4) ∧ Aside0 (Kd.R (Kd.int .i64) 3 w' w.heap.size (fun k_ => some k_ ≠ (u9 : Value).ownBlock ∧ some k_ ≠ (v11 : Value).ownBlock) v292 y291) ∧ Aside0 (Kd.R (Kd.int .i64) 3 w' w.heap.size (fun k_ => some k_ ≠ (u9 : Value).ownBlock ∧ some k_ ≠ (v292 : Value).ownBlock) v11 x11_2) ∧ Aside0 (w'.heap[gb287]? = some (.cells #[(.slice A0_0 l0_0.length c0_0), (.slice A0_1 l0_1.length c0_1)] 39 (0, 0))) ∧ Aside0 (Below w.heap.size w w'))
   case atStart => exact ⟨(([] : List Int)), (0), (by first | rfl | (simp; done) | (simp [*]; done)), H', ⟨Nat.le_refl _⟩, ⟨by (with_reducible repeat refine kl ?_); exact Kd.R_mono HO_9.out (fun _ hk => ⟨hk, (by simp [Value.ownBlock])⟩)⟩, ⟨by (with_reducible repeat refine kl ?_); exact Kd.R_mono HO_10.out (fun _ hk => ⟨hk, (by simp [Value.ownBlock])⟩)⟩, ⟨by first | exact Kd.R_nil _ _ _ _ _ | exact Kd.N_nil _ _ _ _ _ | exact Kd.V_nil _ _ _ _ _ | exact Kd.Q_nil _ _ _ _ _ | exact Kd.S_nil _ _ _ _ _⟩, ⟨bk BK287.out⟩, ⟨bq HB.out⟩⟩
   case round =>
    clear H'
    try clear c1
    try clear p2
    try clear c8
    try clear c11
    try clear p2
    obtain ⟨x11_2, x12_2, rfl, HA, HK2, HO_9, HO_10, HO_11, BK287, HB⟩ := hrel
    cases gk with
    | zero => exact absurd HA.out (by simp [steepleref10_round.l0])
    | succ k2 =>
     have H := HA.out
     clear HA
     simp only [steepleref10_round.l0] at H
     by_cases c14 : x12_2 < 64
     ·rw [if_pos c14] at H
      have c14b0 : decide (x12_2 < 64) = true := decide_eq_true c14
      clear c14
      by_cases c15 : 0 ≤ x12_2
      rotate_left
      ·rw [if_neg c15] at H
       exact absurd H (by simp)
      rw [if_pos c15] at H
      have c15b0 : decide (0 ≤ x12_2) = true := decide_eq_true c15
      clear c15
      by_cases c16 : x12_2 < (l1.length : Int)
      rotate_left
      ·rw [if_neg c16] at H
       exact absurd H (by simp)
      rw [if_pos c16] at H
      have c16b0 : decide (x12_2 < (l1.length : Int)) = true := decide_eq_true c16
      clear c16
      by_cases c17 : a2 = true
      ·subst c17
       have H1 : (if (Int.tmod x12_2 8) = 7 then (if 0 ≤ (Go.bits .xor .i64 (Go.bits .xor .i64 (rd l1 x12_2) 255) (Int.tmod (wrap64 ((wrap64 (16 * (wrap64 (Int.tdiv x12_2 8)))) + a3)) 256)) then (if (Go.bits .xor .i64 (Go.bits .xor .i64 (rd l1 x12_2) 255) (Int.tmod (wrap64 ((wrap64 (16 * (wrap64 (Int.tdiv x12_2 8)))) + a3)) 256)) < (l0_0.length : Int) then (if x11_2.length < 17592186044416 then (steepleref10_round.l0 k2 l1 true a3 x9_4 y291 (x11_2 ++ [rd l0_0 (Go.bits .xor .i64 (Go.bits .xor .i64 (rd l1 x12_2) 255) (Int.tmod (wrap64 ((wrap64 (16 * (wrap64 (Int.tdiv x12_2 8)))) + a3)) 256))]) (wrap64 (x12_2 + 1)) l0_0 l0_1) else (none)) else (none)) else (none)) else (if 0 ≤ (Go.bits .xor .i64 (rd l1 x12_2) 255) then (if (Go.bits .xor .i64 (rd l1 x12_2) 255) < (l0_0.length : Int) then (if x11_2.length < 17592186044416 then (steepleref10_round.l0 k2 l1 true a3 x9_4 y291 (x11_2 ++ [rd l0_0 (Go.bits .xor .i64 (rd l1 x12_2) 255)]) (wrap64 (x12_2 + 1)) l0_0 l0_1) else (none)) else (none)) else (none))) = some r := by rw [if_pos rfl] at H; exact H
       clear H
       have H := H1
       clear H1
       by_cases c18 : (Int.tmod x12_2 8) = 7
       rotate_left
       ·rw [if_neg c18] at H
        have c18b0 : ((Int.tmod x12_2 8) == 7) = false := beq_eq_false_iff_ne.mpr c18
        have c18b1 : ((Int.tmod x12_2 8) != 7) = true := bne_iff_ne.mpr c18
        by_cases c25 : 0 ≤ (Go.bits .xor .i64 (rd l1 x12_2) 255)
        rotate_left
        ·rw [if_neg c25] at H
         exact absurd H (by simp)
        rw [if_pos c25] at H
        have c25b0 : decide (0 ≤ (Go.bits .xor .i64 (rd l1 x12_2) 255)) = true := decide_eq_true c25
        clear c25
        by_cases c26 : (Go.bits .xor .i64 (rd l1 x12_2) 255) < (l0_0.length : Int)
        rotate_left
        ·rw [if_neg c26] at H
         exact absurd H (by simp)
        rw [if_pos c26] at H
        have c26b0 : decide ((Go.bits .xor .i64 (rd l1 x12_2) 255) < (l0_0.length : Int)) = true := decide_eq_true c26
        clear c26
        by_cases c27 : x11_2.length < 17592186044416
        rotate_left
        ·rw [if_neg c27] at H
         exact absurd H (by simp)
        rw [if_pos c27] at H
        have LMc27 := Aside0.mk c27
        clear c27
        obtain ⟨y303, hy303⟩ : ∃ y_ : List Int, y_ = (x11_2 ++ [rd l0_0 (Go.bits .xor .i64 (rd l1 x12_2) 255)]) := ⟨_, rfl⟩
        replace H : (steepleref10_round.l0 k2 l1 true a3 x9_4 y291 y303 (wrap64 (x12_2 + 1)) l0_0 l0_1) = some r := by first | (rw [hy303]; with_reducible exact H) | (have H2_ := (Option.bind_some _ _).symm.trans H; rw [hy303]; with_reducible exact H2_) | (have H2_ := (Option.bind_some _ _).symm.trans H; with_reducible exact H2_) | with_reducible exact H | (rw [hy303]; exact H) | exact H
        have Ny303 := Aside0.mk hy303
        clear hy303
        have H' := Aside0.mk H
        clear H
        have p297 : 0 ≤ (x12_2 : Int) := of_decide_eq_true (by first | (with_reducible assumption) | assumption)
        have q297 : x12_2 < (l1.length : Int) := of_decide_eq_true (by first | (with_reducible assumption) | assumption)
        obtain ⟨ad297, e297, hx297_0⟩ := Kd.at_int HR1.out x12_2 p297 q297
        cases e297
        replace hx297_0 := (HB.out.cell (World.block_lt_of_cell? w _ hx297_0)).trans hx297_0
        replace p297 := eq_true p297
        replace q297 := eq_true q297
        obtain ⟨hcz28_0, hcz28_1⟩ := zc2 BK287
        obtain ⟨hfz28_0, hfz28_1⟩ := zf2 BK287
        have p302 : 0 ≤ ((Go.bits .xor .i64 (rd l1 x12_2) 255) : Int) := of_decide_eq_true (by first | (with_reducible assumption) | assumption)
        have q302 : (Go.bits .xor .i64 (rd l1 x12_2) 255) < (l0_0.length : Int) := of_decide_eq_true (by first | (with_reducible assumption) | assumption)
        obtain ⟨ad302, e302, hx302_0⟩ := Kd.at_int HR0_0.out (Go.bits .xor .i64 (rd l1 x12_2) 255) p302 q302
        cases e302
        replace hx302_0 := (HB.out.cell (World.block_lt_of_cell? w _ hx302_0)).trans hx302_0
        replace p302 := eq_true p302
        replace q302 := eq_true q302
        go_wp2_with (first | ((with_reducible refine gate_builtin (b := .append) (xs := #[.tmp 58, .tmp 64]) rfl ?_); at_builtin; refine Kd.R_append (Kd.int .i64) (w0 := w) w.heap.size rfl (.tmp 58) (.tmp 64) 36 3 (.int .i64 0) 8 rfl Try.underlying36 info3 rfl (by decide) (by omega) u11 x11_2 (rd l0_0 (Go.bits .xor .i64 (rd l1 x12_2) 255)) [.int .i64 (rd l0_0 (Go.bits .xor .i64 (rd l1 x12_2) 255))] (fun k_ => some k_ ≠ (u9 : Value).ownBlock ∧ some k_ ≠ (v292 : Value).ownBlock) (fun _ => False) rfl rfl ?aP (fun _ hk => hk.elim) ?aF ?aO ?aB ?aS ?aL ?_; (case aP => exact rfl); (case aB => exact (bq HB.out)); (case aF => exact (fun k_ hk => ⟨Kd.fresh' (Kd.R_lt (kr HO_9.out)) k_ hk, Kd.fresh' (Kd.R_lt (kr HO_10.out)) k_ hk⟩)); (case aO => exact (kr HO_11.out)); (case aS => exact (below_size (bq HB.out))); (case aL => have := LMc27.out; omega); intro v304 w29 ho hb hg hat; rw [← Ny303.out] at ho; have HO305 := Aside0.mk ho; replace HO_9 := Aside0.mk (Kd.R_after (ok := (fun k_ => some k_ ≠ (v292 : Value).ownBlock)) (kr HO_9.out) hg hat); replace HO_10 := Aside0.mk (Kd.R_after (ok := (fun k_ => some k_ ≠ (u9 : Value).ownBlock)) (kr HO_10.out) hg hat); replace BK287 := Aside0.mk (blk_grown (g := gb287) (o := .cells #[.slice (some ad302) l0_0.length c0_0, .slice A0_1 l0_1.length c0_1] 39 (0, 0)) (bk BK287.out) hg (Kd.R_ne HO_11.out BK287.out (by decide))); replace HB := Aside0.mk hb; clear HO_11; clear ho hb hg hat))
        repeat (go_quiet (first | ((with_reducible refine gate_builtin (b := .append) (xs := #[.tmp 58, .tmp 64]) rfl ?_); at_builtin; refine Kd.R_append (Kd.int .i64) (w0 := w) w.heap.size rfl (.tmp 58) (.tmp 64) 36 3 (.int .i64 0) 8 rfl Try.underlying36 info3 rfl (by decide) (by omega) u11 x11_2 (rd l0_0 (Go.bits .xor .i64 (rd l1 x12_2) 255)) [.int .i64 (rd l0_0 (Go.bits .xor .i64 (rd l1 x12_2) 255))] (fun k_ => some k_ ≠ (u9 : Value).ownBlock ∧ some k_ ≠ (v292 : Value).ownBlock) (fun _ => False) rfl rfl ?aP (fun _ hk => hk.elim) ?aF ?aO ?aB ?aS ?aL ?_; (case aP => exact rfl); (case aB => exact (bq HB.out)); (case aF => exact (fun k_ hk => ⟨Kd.fresh' (Kd.R_lt (kr HO_9.out)) k_ hk, Kd.fresh' (Kd.R_lt (kr HO_10.out)) k_ hk⟩)); (case aO => exact (kr HO_11.out)); (case aS => exact (below_size (bq HB.out))); (case aL => have := LMc27.out; omega); intro v304 w29 ho hb hg hat; rw [← Ny303.out] at ho; have HO305 := Aside0.mk ho; replace HO_9 := Aside0.mk (Kd.R_after (ok := (fun k_ => some k_ ≠ (v292 : Value).ownBlock)) (kr HO_9.out) hg hat); replace HO_10 := Aside0.mk (Kd.R_after (ok := (fun k_ => some k_ ≠ (u9 : Value).ownBlock)) (kr HO_10.out) hg hat); replace BK287 := Aside0.mk (blk_grown (g := gb287) (o := .cells #[.slice (some ad302) l0_0.length c0_0, .slice A0_1 l0_1.length c0_1] 39 (0, 0)) (bk BK287.out) hg (Kd.R_ne HO_11.out BK287.out (by decide))); replace HB := Aside0.mk hb; clear HO_11; clear ho hb hg hat)); try go_wp2_with (first | ((with_reducible refine gate_builtin (b := .append) (xs := #[.tmp 58, .tmp 64]) rfl ?_); at_builtin; refine Kd.R_append (Kd.int .i64) (w0 := w) w.heap.size rfl (.tmp 58) (.tmp 64) 36 3 (.int .i64 0) 8 rfl Try.underlying36 info3 rfl (by decide) (by omega) u11 x11_2 (rd l0_0 (Go.bits .xor .i64 (rd l1 x12_2) 255)) [.int .i64 (rd l0_0 (Go.bits .xor .i64 (rd l1 x12_2) 255))] (fun k_ => some k_ ≠ (u9 : Value).ownBlock ∧ some k_ ≠ (v292 : Value).ownBlock) (fun _ => False) rfl rfl ?aP (fun _ hk => hk.elim) ?aF ?aO ?aB ?aS ?aL ?_; (case aP => exact rfl); (case aB => exact (bq HB.out)); (case aF => exact (fun k_ hk => ⟨Kd.fresh' (Kd.R_lt (kr HO_9.out)) k_ hk, Kd.fresh' (Kd.R_lt (kr HO_10.out)) k_ hk⟩)); (case aO => exact (kr HO_11.out)); (case aS => exact (below_size (bq HB.out))); (case aL => have := LMc27.out; omega); intro v304 w29 ho hb hg hat; rw [← Ny303.out] at ho; have HO305 := Aside0.mk ho; replace HO_9 := Aside0.mk (Kd.R_after (ok := (fun k_ => some k_ ≠ (v292 : Value).ownBlock)) (kr HO_9.out) hg hat); replace HO_10 := Aside0.mk (Kd.R_after (ok := (fun k_ => some k_ ≠ (u9 : Value).ownBlock)) (kr HO_10.out) hg hat); replace BK287 := Aside0.mk (blk_grown (g := gb287) (o := .cells #[.slice (some ad302) l0_0.length c0_0, .slice A0_1 l0_1.length c0_1] 39 (0, 0)) (bk BK287.out) hg (Kd.R_ne HO_11.out BK287.out (by decide))); replace HB := Aside0.mk hb; clear HO_11; clear ho hb hg hat)))
        go_roundg k2
        case measure => have := HJ4.out; have := HK2.out; omega
        case rel => exact ⟨(y303), (wrap64 (x12_2 + 1)), (by first | rfl | (simp; done) | (simp [*]; done)), H', ⟨by have := HJ4.out; have := HK2.out; omega⟩, ⟨kr HO_9.out⟩, ⟨kr HO_10.out⟩, ⟨kr HO305.out⟩, ⟨bk BK287.out⟩, ⟨bq HB.out⟩⟩
       rw [if_pos c18] at H
       have c18b0 : ((Int.tmod x12_2 8) == 7) = true := beq_iff_eq.mpr c18
       have c18b1 : ((Int.tmod x12_2 8) != 7) = false := bne_eq_false_iff_eq.mpr c18
       clear c18
       obtain ⟨ji19, hji19⟩ : ∃ j_ : Int, (Go.bits .xor .i64 (Go.bits .xor .i64 (rd l1 x12_2) 255) (Int.tmod (wrap64 ((wrap64 (16 * (wrap64 (Int.tdiv x12_2 8)))) + a3)) 256)) = j_ := ⟨_, rfl⟩
       replace H : (if 0 ≤ (ji19) then (if (ji19) < (l0_0.length : Int) then (if x11_2.length < 17592186044416 then (steepleref10_round.l0 k2 l1 true a3 x9_4 y291 (x11_2 ++ [rd l0_0 (ji19)]) (wrap64 (x12_2 + 1)) l0_0 l0_1) else (none)) else (none)) else (none)) = some r := by first | (rw [hji19] at H; exact H) | (simp only [hji19] at H ⊢; exact H)
       by_cases c20 : 0 ≤ (ji19)
       rotate_left
       ·rw [if_neg c20] at H
        exact absurd H (by simp)
       rw [if_pos c20] at H
       have c20b0 : decide (0 ≤ (ji19)) = true := decide_eq_true c20
       clear c20
       by_cases c21 : (ji19) < (l0_0.length : Int)
       rotate_left
       ·rw [if_neg c21] at H
        exact absurd H (by simp)
       rw [if_pos c21] at H
       have c21b0 : decide ((ji19) < (l0_0.length : Int)) = true := decide_eq_true c21
       clear c21
       by_cases c22 : x11_2.length < 17592186044416
       rotate_left
       ·rw [if_neg c22] at H
        exact absurd H (by simp)
       rw [if_pos c22] at H
       have LMc22 := Aside0.mk c22
       clear c22
       obtain ⟨y299, hy299⟩ : ∃ y_ : List Int, y_ = (x11_2 ++ [rd l0_0 (ji19)]) := ⟨_, rfl⟩
       replace H : (steepleref10_round.l0 k2 l1 true a3 x9_4 y291 y299 (wrap64 (x12_2 + 1)) l0_0 l0_1) = some r := by first | (rw [hy299]; with_reducible exact H) | (have H2_ := (Option.bind_some _ _).symm.trans H; rw [hy299]; with_reducible exact H2_) | (have H2_ := (Option.bind_some _ _).symm.trans H; with_reducible exact H2_) | with_reducible exact H | (rw [hy299]; exact H) | exact H
       have Ny299 := Aside0.mk hy299
       clear hy299
       have H' := Aside0.mk H
       clear H
       have p297 : 0 ≤ (x12_2 : Int) := of_decide_eq_true (by first | (with_reducible assumption) | assumption)
       have q297 : x12_2 < (l1.length : Int) := of_decide_eq_true (by first | (with_reducible assumption) | assumption)
       obtain ⟨ad297, e297, hx297_0⟩ := Kd.at_int HR1.out x12_2 p297 q297
       cases e297
       replace hx297_0 := (HB.out.cell (World.block_lt_of_cell? w _ hx297_0)).trans hx297_0
       replace p297 := eq_true p297
       replace q297 := eq_true q297
       obtain ⟨hcz23_0, hcz23_1⟩ := zc2 BK287
       obtain ⟨hfz23_0, hfz23_1⟩ := zf2 BK287
       have p298 : 0 ≤ ((ji19) : Int) := of_decide_eq_true (by first | (with_reducible assumption) | assumption)
       have q298 : (ji19) < (l0_0.length : Int) := of_decide_eq_true (by first | (with_reducible assumption) | assumption)
       obtain ⟨ad298, e298, hx298_0⟩ := Kd.at_int HR0_0.out (ji19) p298 q298
       cases e298
       replace hx298_0 := (HB.out.cell (World.block_lt_of_cell? w _ hx298_0)).trans hx298_0
       replace p298 := eq_true p298
       replace q298 := eq_true q298
       go_wp2_with (first | ((with_reducible refine gate_builtin (b := .append) (xs := #[.tmp 58, .tmp 64]) rfl ?_); at_builtin; refine Kd.R_append (Kd.int .i64) (w0 := w) w.heap.size rfl (.tmp 58) (.tmp 64) 36 3 (.int .i64 0) 8 rfl Try.underlying36 info3 rfl (by decide) (by omega) u11 x11_2 (rd l0_0 (ji19)) [.int .i64 (rd l0_0 (ji19))] (fun k_ => some k_ ≠ (u9 : Value).ownBlock ∧ some k_ ≠ (v292 : Value).ownBlock) (fun _ => False) rfl rfl ?aP (fun _ hk => hk.elim) ?aF ?aO ?aB ?aS ?aL ?_; (case aP => exact rfl); (case aB => exact (bq HB.out)); (case aF => exact (fun k_ hk => ⟨Kd.fresh' (Kd.R_lt (kr HO_9.out)) k_ hk, Kd.fresh' (Kd.R_lt (kr HO_10.out)) k_ hk⟩)); (case aO => exact (kr HO_11.out)); (case aS => exact (below_size (bq HB.out))); (case aL => have := LMc22.out; omega); intro v300 w24 ho hb hg hat; rw [← Ny299.out] at ho; have HO301 := Aside0.mk ho; replace HO_9 := Aside0.mk (Kd.R_after (ok := (fun k_ => some k_ ≠ (v292 : Value).ownBlock)) (kr HO_9.out) hg hat); replace HO_10 := Aside0.mk (Kd.R_after (ok := (fun k_ => some k_ ≠ (u9 : Value).ownBlock)) (kr HO_10.out) hg hat); replace BK287 := Aside0.mk (blk_grown (g := gb287) (o := .cells #[.slice (some ad298) l0_0.length c0_0, .slice A0_1 l0_1.length c0_1] 39 (0, 0)) (bk BK287.out) hg (Kd.R_ne HO_11.out BK287.out (by decide))); replace HB := Aside0.mk hb; clear HO_11; clear ho hb hg hat))
       repeat (go_quiet (first | ((with_reducible refine gate_builtin (b := .append) (xs := #[.tmp 58, .tmp 64]) rfl ?_); at_builtin; refine Kd.R_append (Kd.int .i64) (w0 := w) w.heap.size rfl (.tmp 58) (.tmp 64) 36 3 (.int .i64 0) 8 rfl Try.underlying36 info3 rfl (by decide) (by omega) u11 x11_2 (rd l0_0 (ji19)) [.int .i64 (rd l0_0 (ji19))] (fun k_ => some k_ ≠ (u9 : Value).ownBlock ∧ some k_ ≠ (v292 : Value).ownBlock) (fun _ => False) rfl rfl ?aP (fun _ hk => hk.elim) ?aF ?aO ?aB ?aS ?aL ?_; (case aP => exact rfl); (case aB => exact (bq HB.out)); (case aF => exact (fun k_ hk => ⟨Kd.fresh' (Kd.R_lt (kr HO_9.out)) k_ hk, Kd.fresh' (Kd.R_lt (kr HO_10.out)) k_ hk⟩)); (case aO => exact (kr HO_11.out)); (case aS => exact (below_size (bq HB.out))); (case aL => have := LMc22.out; omega); intro v300 w24 ho hb hg hat; rw [← Ny299.out] at ho; have HO301 := Aside0.mk ho; replace HO_9 := Aside0.mk (Kd.R_after (ok := (fun k_ => some k_ ≠ (v292 : Value).ownBlock)) (kr HO_9.out) hg hat); replace HO_10 := Aside0.mk (Kd.R_after (ok := (fun k_ => some k_ ≠ (u9 : Value).ownBlock)) (kr HO_10.out) hg hat); replace BK287 := Aside0.mk (blk_grown (g := gb287) (o := .cells #[.slice (some ad298) l0_0.length c0_0, .slice A0_1 l0_1.length c0_1] 39 (0, 0)) (bk BK287.out) hg (Kd.R_ne HO_11.out BK287.out (by decide))); replace HB := Aside0.mk hb; clear HO_11; clear ho hb hg hat)); try go_wp2_with (first | ((with_reducible refine gate_builtin (b := .append) (xs := #[.tmp 58, .tmp 64]) rfl ?_); at_builtin; refine Kd.R_append (Kd.int .i64) (w0 := w) w.heap.size rfl (.tmp 58) (.tmp 64) 36 3 (.int .i64 0) 8 rfl Try.underlying36 info3 rfl (by decide) (by omega) u11 x11_2 (rd l0_0 (ji19)) [.int .i64 (rd l0_0 (ji19))] (fun k_ => some k_ ≠ (u9 : Value).ownBlock ∧ some k_ ≠ (v292 : Value).ownBlock) (fun _ => False) rfl rfl ?aP (fun _ hk => hk.elim) ?aF ?aO ?aB ?aS ?aL ?_; (case aP => exact rfl); (case aB => exact (bq HB.out)); (case aF => exact (fun k_ hk => ⟨Kd.fresh' (Kd.R_lt (kr HO_9.out)) k_ hk, Kd.fresh' (Kd.R_lt (kr HO_10.out)) k_ hk⟩)); (case aO => exact (kr HO_11.out)); (case aS => exact (below_size (bq HB.out))); (case aL => have := LMc22.out; omega); intro v300 w24 ho hb hg hat; rw [← Ny299.out] at ho; have HO301 := Aside0.mk ho; replace HO_9 := Aside0.mk (Kd.R_after (ok := (fun k_ => some k_ ≠ (v292 : Value).ownBlock)) (kr HO_9.out) hg hat); replace HO_10 := Aside0.mk (Kd.R_after (ok := (fun k_ => some k_ ≠ (u9 : Value).ownBlock)) (kr HO_10.out) hg hat); replace BK287 := Aside0.mk (blk_grown (g := gb287) (o := .cells #[.slice (some ad298) l0_0.length c0_0, .slice A0_1 l0_1.length c0_1] 39 (0, 0)) (bk BK287.out) hg (Kd.R_ne HO_11.out BK287.out (by decide))); replace HB := Aside0.mk hb; clear HO_11; clear ho hb hg hat)))
       go_roundg k2
       case measure => have := HJ4.out; have := HK2.out; omega
       case rel => exact ⟨(y299), (wrap64 (x12_2 + 1)), (by first | rfl | (simp; done) | (simp [*]; done)), H', ⟨by have := HJ4.out; have := HK2.out; omega⟩, ⟨kr HO_9.out⟩, ⟨kr HO_10.out⟩, ⟨kr HO301.out⟩, ⟨bk BK287.out⟩, ⟨bq HB.out⟩⟩
      replace c17 := Bool.eq_false_iff.mpr c17
      subst c17
      have H1 : (if (Int.tmod x12_2 8) = 0 then (if 0 ≤ (Go.bits .xor .i64 (rd l1 x12_2) (Int.tmod (wrap64 ((wrap64 (16 * (wrap64 (Int.tdiv x12_2 8)))) + a3)) 256)) then (if (Go.bits .xor .i64 (rd l1 x12_2) (Int.tmod (wrap64 ((wrap64 (16 * (wrap64 (Int.tdiv x12_2 8)))) + a3)) 256)) < (l0_0.length : Int) then (if x11_2.length < 17592186044416 then (steepleref10_round.l0 k2 l1 false a3 x9_4 y291 (x11_2 ++ [rd l0_0 (Go.bits .xor .i64 (rd l1 x12_2) (Int.tmod (wrap64 ((wrap64 (16 * (wrap64 (Int.tdiv x12_2 8)))) + a3)) 256))]) (wrap64 (x12_2 + 1)) l0_0 l0_1) else (none)) else (none)) else (none)) else (if 0 ≤ (rd l1 x12_2) then (if (rd l1 x12_2) < (l0_0.length : Int) then (if x11_2.length < 17592186044416 then (steepleref10_round.l0 k2 l1 false a3 x9_4 y291 (x11_2 ++ [rd l0_0 (rd l1 x12_2)]) (wrap64 (x12_2 + 1)) l0_0 l0_1) else (none)) else (none)) else (none))) = some r := by rw [if_neg (show ¬ (false = true) by decide)] at H; exact H
      clear H
      have H := H1
      clear H1
      by_cases c30 : (Int.tmod x12_2 8) = 0
      rotate_left
      ·rw [if_neg c30] at H
       have c30b0 : ((Int.tmod x12_2 8) == 0) = false := beq_eq_false_iff_ne.mpr c30
       have c30b1 : ((Int.tmod x12_2 8) != 0) = true := bne_iff_ne.mpr c30
       by_cases c37 : 0 ≤ (rd l1 x12_2)
       rotate_left
       ·rw [if_neg c37] at H
        exact absurd H (by simp)
       rw [if_pos c37] at H
       have c37b0 : decide (0 ≤ (rd l1 x12_2)) = true := decide_eq_true c37
       clear c37
       by_cases c38 : (rd l1 x12_2) < (l0_0.length : Int)
       rotate_left
       ·rw [if_neg c38] at H
        exact absurd H (by simp)
       rw [if_pos c38] at H
       have c38b0 : decide ((rd l1 x12_2) < (l0_0.length : Int)) = true := decide_eq_true c38
       clear c38
       by_cases c39 : x11_2.length < 17592186044416
       rotate_left
       ·rw [if_neg c39] at H
        exact absurd H (by simp)
       rw [if_pos c39] at H
       have LMc39 := Aside0.mk c39
       clear c39
       obtain ⟨y311, hy311⟩ : ∃ y_ : List Int, y_ = (x11_2 ++ [rd l0_0 (rd l1 x12_2)]) := ⟨_, rfl⟩
       replace H : (steepleref10_round.l0 k2 l1 false a3 x9_4 y291 y311 (wrap64 (x12_2 + 1)) l0_0 l0_1) = some r := by first | (rw [hy311]; with_reducible exact H) | (have H2_ := (Option.bind_some _ _).symm.trans H; rw [hy311]; with_reducible exact H2_) | (have H2_ := (Option.bind_some _ _).symm.trans H; with_reducible exact H2_) | with_reducible exact H | (rw [hy311]; exact H) | exact H
       have Ny311 := Aside0.mk hy311
       clear hy311
       have H' := Aside0.mk H
       clear H
       have p297 : 0 ≤ (x12_2 : Int) := of_decide_eq_true (by first | (with_reducible assumption) | assumption)
       have q297 : x12_2 < (l1.length : Int) := of_decide_eq_true (by first | (with_reducible assumption) | assumption)
       obtain ⟨ad297, e297, hx297_0⟩ := Kd.at_int HR1.out x12_2 p297 q297
       cases e297
       replace hx297_0 := (HB.out.cell (World.block_lt_of_cell? w _ hx297_0)).trans hx297_0
       replace p297 := eq_true p297
       replace q297 := eq_true q297
       obtain ⟨hcz40_0, hcz40_1⟩ := zc2 BK287
       obtain ⟨hfz40_0, hfz40_1⟩ := zf2 BK287
       have p310 : 0 ≤ ((rd l1 x12_2) : Int) := of_decide_eq_true (by first | (with_reducible assumption) | assumption)
       have q310 : (rd l1 x12_2) < (l0_0.length : Int) := of_decide_eq_true (by first | (with_reducible assumption) | assumption)
       obtain ⟨ad310, e310, hx310_0⟩ := Kd.at_int HR0_0.out (rd l1 x12_2) p310 q310
       cases e310
       replace hx310_0 := (HB.out.cell (World.block_lt_of_cell? w _ hx310_0)).trans hx310_0
       replace p310 := eq_true p310
       replace q310 := eq_true q310
       go_wp2_with (first | ((with_reducible refine gate_builtin (b := .append) (xs := #[.tmp 58, .tmp 64]) rfl ?_); at_builtin; refine Kd.R_append (Kd.int .i64) (w0 := w) w.heap.size rfl (.tmp 58) (.tmp 64) 36 3 (.int .i64 0) 8 rfl Try.underlying36 info3 rfl (by decide) (by omega) u11 x11_2 (rd l0_0 (rd l1 x12_2)) [.int .i64 (rd l0_0 (rd l1 x12_2))] (fun k_ => some k_ ≠ (u9 : Value).ownBlock ∧ some k_ ≠ (v292 : Value).ownBlock) (fun _ => False) rfl rfl ?aP (fun _ hk => hk.elim) ?aF ?aO ?aB ?aS ?aL ?_; (case aP => exact rfl); (case aB => exact (bq HB.out)); (case aF => exact (fun k_ hk => ⟨Kd.fresh' (Kd.R_lt (kr HO_9.out)) k_ hk, Kd.fresh' (Kd.R_lt (kr HO_10.out)) k_ hk⟩)); (case aO => exact (kr HO_11.out)); (case aS => exact (below_size (bq HB.out))); (case aL => have := LMc39.out; omega); intro v312 w41 ho hb hg hat; rw [← Ny311.out] at ho; have HO313 := Aside0.mk ho; replace HO_9 := Aside0.mk (Kd.R_after (ok := (fun k_ => some k_ ≠ (v292 : Value).ownBlock)) (kr HO_9.out) hg hat); replace HO_10 := Aside0.mk (Kd.R_after (ok := (fun k_ => some k_ ≠ (u9 : Value).ownBlock)) (kr HO_10.out) hg hat); replace BK287 := Aside0.mk (blk_grown (g := gb287) (o := .cells #[.slice (some ad310) l0_0.length c0_0, .slice A0_1 l0_1.length c0_1] 39 (0, 0)) (bk BK287.out) hg (Kd.R_ne HO_11.out BK287.out (by decide))); replace HB := Aside0.mk hb; clear HO_11; clear ho hb hg hat))
       repeat (go_quiet (first | ((with_reducible refine gate_builtin (b := .append) (xs := #[.tmp 58, .tmp 64]) rfl ?_); at_builtin; refine Kd.R_append (Kd.int .i64) (w0 := w) w.heap.size rfl (.tmp 58) (.tmp 64) 36 3 (.int .i64 0) 8 rfl Try.underlying36 info3 rfl (by decide) (by omega) u11 x11_2 (rd l0_0 (rd l1 x12_2)) [.int .i64 (rd l0_0 (rd l1 x12_2))] (fun k_ => some k_ ≠ (u9 : Value).ownBlock ∧ some k_ ≠ (v292 : Value).ownBlock) (fun _ => False) rfl rfl ?aP (fun _ hk => hk.elim) ?aF ?aO ?aB ?aS ?aL ?_; (case aP => exact rfl); (case aB => exact (bq HB.out)); (case aF => exact (fun k_ hk => ⟨Kd.fresh' (Kd.R_lt (kr HO_9.out)) k_ hk, Kd.fresh' (Kd.R_lt (kr HO_10.out)) k_ hk⟩)); (case aO => exact (kr HO_11.out)); (case aS => exact (below_size (bq HB.out))); (case aL => have := LMc39.out; omega); intro v312 w41 ho hb hg hat; rw [← Ny311.out] at ho; have HO313 := Aside0.mk ho; replace HO_9 := Aside0.mk (Kd.R_after (ok := (fun k_ => some k_ ≠ (v292 : Value).ownBlock)) (kr HO_9.out) hg hat); replace HO_10 := Aside0.mk (Kd.R_after (ok := (fun k_ => some k_ ≠ (u9 : Value).ownBlock)) (kr HO_10.out) hg hat); replace BK287 := Aside0.mk (blk_grown (g := gb287) (o := .cells #[.slice (some ad310) l0_0.length c0_0, .slice A0_1 l0_1.length c0_1] 39 (0, 0)) (bk BK287.out) hg (Kd.R_ne HO_11.out BK287.out (by decide))); replace HB := Aside0.mk hb; clear HO_11; clear ho hb hg hat)); try go_wp2_with (first | ((with_reducible refine gate_builtin (b := .append) (xs := #[.tmp 58, .tmp 64]) rfl ?_); at_builtin; refine Kd.R_append (Kd.int .i64) (w0 := w) w.heap.size rfl (.tmp 58) (.tmp 64) 36 3 (.int .i64 0) 8 rfl Try.underlying36 info3 rfl (by decide) (by omega) u11 x11_2 (rd l0_0 (rd l1 x12_2)) [.int .i64 (rd l0_0 (rd l1 x12_2))] (fun k_ => some k_ ≠ (u9 : Value).ownBlock ∧ some k_ ≠ (v292 : Value).ownBlock) (fun _ => False) rfl rfl ?aP (fun _ hk => hk.elim) ?aF ?aO ?aB ?aS ?aL ?_; (case aP => exact rfl); (case aB => exact (bq HB.out)); (case aF => exact (fun k_ hk => ⟨Kd.fresh' (Kd.R_lt (kr HO_9.out)) k_ hk, Kd.fresh' (Kd.R_lt (kr HO_10.out)) k_ hk⟩)); (case aO => exact (kr HO_11.out)); (case aS => exact (below_size (bq HB.out))); (case aL => have := LMc39.out; omega); intro v312 w41 ho hb hg hat; rw [← Ny311.out] at ho; have HO313 := Aside0.mk ho; replace HO_9 := Aside0.mk (Kd.R_after (ok := (fun k_ => some k_ ≠ (v292 : Value).ownBlock)) (kr HO_9.out) hg hat); replace HO_10 := Aside0.mk (Kd.R_after (ok := (fun k_ => some k_ ≠ (u9 : Value).ownBlock)) (kr HO_10.out) hg hat); replace BK287 := Aside0.mk (blk_grown (g := gb287) (o := .cells #[.slice (some ad310) l0_0.length c0_0, .slice A0_1 l0_1.length c0_1] 39 (0, 0)) (bk BK287.out) hg (Kd.R_ne HO_11.out BK287.out (by decide))); replace HB := Aside0.mk hb; clear HO_11; clear ho hb hg hat)))
       go_roundg k2
       case measure => have := HJ4.out; have := HK2.out; omega
       case rel => exact ⟨(y311), (wrap64 (x12_2 + 1)), (by first | rfl | (simp; done) | (simp [*]; done)), H', ⟨by have := HJ4.out; have := HK2.out; omega⟩, ⟨kr HO_9.out⟩, ⟨kr HO_10.out⟩, ⟨kr HO313.out⟩, ⟨bk BK287.out⟩, ⟨bq HB.out⟩⟩
      rw [if_pos c30] at H
      have c30b0 : ((Int.tmod x12_2 8) == 0) = true := beq_iff_eq.mpr c30
      have c30b1 : ((Int.tmod x12_2 8) != 0) = false := bne_eq_false_iff_eq.mpr c30
      clear c30
      obtain ⟨ji31, hji31⟩ : ∃ j_ : Int, (Go.bits .xor .i64 (rd l1 x12_2) (Int.tmod (wrap64 ((wrap64 (16 * (wrap64 (Int.tdiv x12_2 8)))) + a3)) 256)) = j_ := ⟨_, rfl⟩
      replace H : (if 0 ≤ (ji31) then (if (ji31) < (l0_0.length : Int) then (if x11_2.length < 17592186044416 then (steepleref10_round.l0 k2 l1 false a3 x9_4 y291 (x11_2 ++ [rd l0_0 (ji31)]) (wrap64 (x12_2 + 1)) l0_0 l0_1) else (none)) else (none)) else (none)) = some r := by first | (rw [hji31] at H; exact H) | (simp only [hji31] at H ⊢; exact H)
      by_cases c32 : 0 ≤ (ji31)
      rotate_left
      ·rw [if_neg c32] at H
       exact absurd H (by simp)
      rw [if_pos c32] at H
      have c32b0 : decide (0 ≤ (ji31)) = true := decide_eq_true c32
      clear c32
      by_cases c33 : (ji31) < (l0_0.length : Int)
      rotate_left
      ·rw [if_neg c33] at H
       exact absurd H (by simp)
      rw [if_pos c33] at H
      have c33b0 : decide ((ji31) < (l0_0.length : Int)) = true := decide_eq_true c33
      clear c33
      by_cases c34 : x11_2.length < 17592186044416
      rotate_left
      ·rw [if_neg c34] at H
       exact absurd H (by simp)
      rw [if_pos c34] at H
      have LMc34 := Aside0.mk c34
      clear c34
      obtain ⟨y307, hy307⟩ : ∃ y_ : List Int, y_ = (x11_2 ++ [rd l0_0 (ji31)]) := ⟨_, rfl⟩
      replace H : (steepleref10_round.l0 k2 l1 false a3 x9_4 y291 y307 (wrap64 (x12_2 + 1)) l0_0 l0_1) = some r := by first | (rw [hy307]; with_reducible exact H) | (have H2_ := (Option.bind_some _ _).symm.trans H; rw [hy307]; with_reducible exact H2_) | (have H2_ := (Option.bind_some _ _).symm.trans H; with_reducible exact H2_) | with_reducible exact H | (rw [hy307]; exact H) | exact H
      have Ny307 := Aside0.mk hy307
      clear hy307
      have H' := Aside0.mk H
      clear H
      have p297 : 0 ≤ (x12_2 : Int) := of_decide_eq_true (by first | (with_reducible assumption) | assumption)
      have q297 : x12_2 < (l1.length : Int) := of_decide_eq_true (by first | (with_reducible assumption) | assumption)
      obtain ⟨ad297, e297, hx297_0⟩ := Kd.at_int HR1.out x12_2 p297 q297
      cases e297
      replace hx297_0 := (HB.out.cell (World.block_lt_of_cell? w _ hx297_0)).trans hx297_0
      replace p297 := eq_true p297
      replace q297 := eq_true q297
      obtain ⟨hcz35_0, hcz35_1⟩ := zc2 BK287
      obtain ⟨hfz35_0, hfz35_1⟩ := zf2 BK287
      have p306 : 0 ≤ ((ji31) : Int) := of_decide_eq_true (by first | (with_reducible assumption) | assumption)
      have q306 : (ji31) < (l0_0.length : Int) := of_decide_eq_true (by first | (with_reducible assumption) | assumption)
      obtain ⟨ad306, e306, hx306_0⟩ := Kd.at_int HR0_0.out (ji31) p306 q306
      cases e306
      replace hx306_0 := (HB.out.cell (World.block_lt_of_cell? w _ hx306_0)).trans hx306_0
      replace p306 := eq_true p306
      replace q306 := eq_true q306
      go_wp2_with (first | ((with_reducible refine gate_builtin (b := .append) (xs := #[.tmp 58, .tmp 64]) rfl ?_); at_builtin; refine Kd.R_append (Kd.int .i64) (w0 := w) w.heap.size rfl (.tmp 58) (.tmp 64) 36 3 (.int .i64 0) 8 rfl Try.underlying36 info3 rfl (by decide) (by omega) u11 x11_2 (rd l0_0 (ji31)) [.int .i64 (rd l0_0 (ji31))] (fun k_ => some k_ ≠ (u9 : Value).ownBlock ∧ some k_ ≠ (v292 : Value).ownBlock) (fun _ => False) rfl rfl ?aP (fun _ hk => hk.elim) ?aF ?aO ?aB ?aS ?aL ?_; (case aP => exact rfl); (case aB => exact (bq HB.out)); (case aF => exact (fun k_ hk => ⟨Kd.fresh' (Kd.R_lt (kr HO_9.out)) k_ hk, Kd.fresh' (Kd.R_lt (kr HO_10.out)) k_ hk⟩)); (case aO => exact (kr HO_11.out)); (case aS => exact (below_size (bq HB.out))); (case aL => have := LMc34.out; omega); intro v308 w36 ho hb hg hat; rw [← Ny307.out] at ho; have HO309 := Aside0.mk ho; replace HO_9 := Aside0.mk (Kd.R_after (ok := (fun k_ => some k_ ≠ (v292 : Value).ownBlock)) (kr HO_9.out) hg hat); replace HO_10 := Aside0.mk (Kd.R_after (ok := (fun k_ => some k_ ≠ (u9 : Value).ownBlock)) (kr HO_10.out) hg hat); replace BK287 := Aside0.mk (blk_grown (g := gb287) (o := .cells #[.slice (some ad306) l0_0.length c0_0, .slice A0_1 l0_1.length c0_1] 39 (0, 0)) (bk BK287.out) hg (Kd.R_ne HO_11.out BK287.out (by decide))); replace HB := Aside0.mk hb; clear HO_11; clear ho hb hg hat))
      repeat (go_quiet (first | ((with_reducible refine gate_builtin (b := .append) (xs := #[.tmp 58, .tmp 64]) rfl ?_); at_builtin; refine Kd.R_append (Kd.int .i64) (w0 := w) w.heap.size rfl (.tmp 58) (.tmp 64) 36 3 (.int .i64 0) 8 rfl Try.underlying36 info3 rfl (by decide) (by omega) u11 x11_2 (rd l0_0 (ji31)) [.int .i64 (rd l0_0 (ji31))] (fun k_ => some k_ ≠ (u9 : Value).ownBlock ∧ some k_ ≠ (v292 : Value).ownBlock) (fun _ => False) rfl rfl ?aP (fun _ hk => hk.elim) ?aF ?aO ?aB ?aS ?aL ?_; (case aP => exact rfl); (case aB => exact (bq HB.out)); (case aF => exact (fun k_ hk => ⟨Kd.fresh' (Kd.R_lt (kr HO_9.out)) k_ hk, Kd.fresh' (Kd.R_lt (kr HO_10.out)) k_ hk⟩)); (case aO => exact (kr HO_11.out)); (case aS => exact (below_size (bq HB.out))); (case aL => have := LMc34.out; omega); intro v308 w36 ho hb hg hat; rw [← Ny307.out] at ho; have HO309 := Aside0.mk ho; replace HO_9 := Aside0.mk (Kd.R_after (ok := (fun k_ => some k_ ≠ (v292 : Value).ownBlock)) (kr HO_9.out) hg hat); replace HO_10 := Aside0.mk (Kd.R_after (ok := (fun k_ => some k_ ≠ (u9 : Value).ownBlock)) (kr HO_10.out) hg hat); replace BK287 := Aside0.mk (blk_grown (g := gb287) (o := .cells #[.slice (some ad306) l0_0.length c0_0, .slice A0_1 l0_1.length c0_1] 39 (0, 0)) (bk BK287.out) hg (Kd.R_ne HO_11.out BK287.out (by decide))); replace HB := Aside0.mk hb; clear HO_11; clear ho hb hg hat)); try go_wp2_with (first | ((with_reducible refine gate_builtin (b := .append) (xs := #[.tmp 58, .tmp 64]) rfl ?_); at_builtin; refine Kd.R_append (Kd.int .i64) (w0 := w) w.heap.size rfl (.tmp 58) (.tmp 64) 36 3 (.int .i64 0) 8 rfl Try.underlying36 info3 rfl (by decide) (by omega) u11 x11_2 (rd l0_0 (ji31)) [.int .i64 (rd l0_0 (ji31))] (fun k_ => some k_ ≠ (u9 : Value).ownBlock ∧ some k_ ≠ (v292 : Value).ownBlock) (fun _ => False) rfl rfl ?aP (fun _ hk => hk.elim) ?aF ?aO ?aB ?aS ?aL ?_; (case aP => exact rfl); (case aB => exact (bq HB.out)); (case aF => exact (fun k_ hk => ⟨Kd.fresh' (Kd.R_lt (kr HO_9.out)) k_ hk, Kd.fresh' (Kd.R_lt (kr HO_10.out)) k_ hk⟩)); (case aO => exact (kr HO_11.out)); (case aS => exact (below_size (bq HB.out))); (case aL => have := LMc34.out; omega); intro v308 w36 ho hb hg hat; rw [← Ny307.out] at ho; have HO309 := Aside0.mk ho; replace HO_9 := Aside0.mk (Kd.R_after (ok := (fun k_ => some k_ ≠ (v292 : Value).ownBlock)) (kr HO_9.out) hg hat); replace HO_10 := Aside0.mk (Kd.R_after (ok := (fun k_ => some k_ ≠ (u9 : Value).ownBlock)) (kr HO_10.out) hg hat); replace BK287 := Aside0.mk (blk_grown (g := gb287) (o := .cells #[.slice (some ad306) l0_0.length c0_0, .slice A0_1 l0_1.length c0_1] 39 (0, 0)) (bk BK287.out) hg (Kd.R_ne HO_11.out BK287.out (by decide))); replace HB := Aside0.mk hb; clear HO_11; clear ho hb hg hat)))
      go_roundg k2
      case measure => have := HJ4.out; have := HK2.out; omega
      case rel => exact ⟨(y307), (wrap64 (x12_2 + 1)), (by first | rfl | (simp; done) | (simp [*]; done)), H', ⟨by have := HJ4.out; have := HK2.out; omega⟩, ⟨kr HO_9.out⟩, ⟨kr HO_10.out⟩, ⟨kr HO309.out⟩, ⟨bk BK287.out⟩, ⟨bq HB.out⟩⟩
     rw [if_neg c14] at H
     have c14b0 : decide (x12_2 < 64) = false := decide_eq_false c14
     clear c14
     have H' := Aside0.mk H
     clear H
     go_wp2
     repeat (go_quiet (fail); try go_wp2)
     go_loopg [14, 15] k2 (fun kq v14 v15 w' => ∃ (x14_3 : List Int) (x15_3 : Int), v15 = .int .i64 x15_3 ∧ Aside0 (steepleref10_round.l1 kq x9_4 y291 x11_2 x14_3 x15_3 l0_0 l0_1 = some r) ∧ Aside0 (kq ≤ k2) ∧ Aside0 (Kd.R (Kd.int .i64) 3 w' w.heap.size (fun k_ => some k_ ≠ (v292 : Value).ownBlock ∧ some k_ ≠ (u11 : Value).ownBlock ∧ some k_ ≠ (v14 : Value).ownBlock) u9 x9_4) ∧ Aside0 (Kd.R (Kd.int .i64) 3 w' w.heap.size (fun k_ => some k_ ≠ (u9 : Value).ownBlock ∧ some k_ ≠ (u11 : Value).ownBlock ∧ some k_ ≠ (v14 : Value).ownBlock) v292 y291) ∧ Aside0 (Kd.R (Kd.int .i64) 3 w' w.heap.size (fun k_ => some k_ ≠ (u9 : Value).ownBlock ∧ some k_ ≠ (v292 : Value).ownBlock ∧ some k_ ≠ (v14 : Value).ownBlock) u11 x11_2) ∧ Aside0 (Kd.R (Kd.int .i64) 3 w' w.heap.size (fun k_ => some k_ ≠ (u9 : Value).ownBlock ∧ some k_ ≠ (v292 : Value).ownBlock ∧ some k_ ≠ (u11 : Value).ownBlock) v14 x14_3) ∧ Aside0 (w'.heap[gb287]? = some (.cells #[(.slice A0_0 l0_0.length c0_0), (.slice A0_1 l0_1.length c0_1)] 39 (0, 0))) ∧ Aside0 (Below w.heap.size w w'))
     case atStart => exact ⟨(([] : List Int)), (0), (by first | rfl | (simp; done) | (simp [*]; done)), H', ⟨Nat.le_refl _⟩, ⟨by (with_reducible repeat refine kl ?_); exact Kd.R_mono HO_9.out (fun _ hk => ⟨hk.1, ⟨hk.2, (by simp [Value.ownBlock])⟩⟩)⟩, ⟨by (with_reducible repeat refine kl ?_); exact Kd.R_mono HO_10.out (fun _ hk => ⟨hk.1, ⟨hk.2, (by simp [Value.ownBlock])⟩⟩)⟩, ⟨by (with_reducible repeat refine kl ?_); exact Kd.R_mono HO_11.out (fun _ hk => ⟨hk.1, ⟨hk.2, (by simp [Value.ownBlock])⟩⟩)⟩, ⟨by first | exact Kd.R_nil _ _ _ _ _ | exact Kd.N_nil _ _ _ _ _ | exact Kd.V_nil _ _ _ _ _ | exact Kd.Q_nil _ _ _ _ _ | exact Kd.S_nil _ _ _ _ _⟩, ⟨bk BK287.out⟩, ⟨bq HB.out⟩⟩
     case round =>
      clear H'
      try clear c1
      try clear c2
      try clear p2
      try clear q2
      try clear hx2
      try clear c3
      try clear p3
      try clear q3
      try clear hx3
      try clear p6
      try clear c8
      try clear c11
      try clear c14
      try clear c14b0
      try clear c15
      try clear c15b0
      try clear c16
      try clear c16b0
      try clear c17
      try clear c18
      try clear c18b0
      try clear c18b1
      try clear c20
      try clear c20b0
      try clear c21
      try clear c21b0
      try clear c22
      try clear c25
      try clear c25b0
      try clear c26
      try clear c26b0
      try clear c27
      try clear p29
      try clear q29
      try clear hx29
      try clear c30
      try clear c30b0
      try clear c30b1
      try clear p30
      try clear q30
      try clear hx30
      try clear p31
      try clear q31
      try clear hx31
      try clear c32
      try clear c32b0
      try clear c33
      try clear c33b0
      try clear c34
      try clear c37
      try clear c37b0
      try clear c38
      try clear c38b0
      try clear c39
      try clear hcz23_0
      try clear hcz23_1
      try clear hcz28_0
      try clear hcz28_1
      try clear hcz35_0
      try clear hcz35_1
      try clear hcz40_0
      try clear hcz40_1
      try clear hfz23_0
      try clear hfz23_1
      try clear hfz28_0
      try clear hfz28_1
      try clear hfz35_0
      try clear hfz35_1
      try clear hfz40_0
      try clear hfz40_1
      try clear hx297_0
      try clear hx298_0
      try clear hx302_0
      try clear hx306_0
      try clear hx310_0
      try clear p2
      try clear p297
      try clear p298
      try clear p302
      try clear p306
      try clear p310
      try clear q297
      try clear q298
      try clear q302
      try clear q306
      try clear q310
      obtain ⟨x14_3, x15_3, rfl, HA, HK3, HO_9, HO_10, HO_11, HO_14, BK287, HB⟩ := hrel
      cases gk with
      | zero => exact absurd HA.out (by simp [steepleref10_round.l1])
      | succ k3 =>
       have H := HA.out
       clear HA
       simp only [steepleref10_round.l1] at H
       by_cases c42 : x15_3 < 64
       rotate_left
       ·rw [if_neg c42] at H
        have c42b0 : decide (x15_3 < 64) = false := decide_eq_false c42
        clear c42
        obtain rfl := Option.some.inj H
        go_wp2
        repeat (go_quiet (fail); try go_wp2)
        go_ret
        exact ⟨_, by first | rfl | (simp [errW_none, errW_some] <;> rfl) | (simp [*, errW_none, errW_some] <;> rfl), by (with_reducible repeat refine kl ?_); exact Kd.R_mono HO_14.out (fun _ hk => trivial), bq HB.out⟩

       rw [if_pos c42] at H
       have c42b0 : decide (x15_3 < 64) = true := decide_eq_true c42
       clear c42
       have H' := Aside0.mk H
       clear H
       go_wp2
       repeat (go_quiet (fail); try go_wp2)
       go_loopg [16, 17] k3 (fun kq v16 v17 w' => ∃ (x16_4 : Int) (x17_4 : Int), v16 = .int .i64 x16_4 ∧ v17 = .int .i64 x17_4 ∧ Aside0 (steepleref10_round.l2 kq x9_4 y291 x11_2 x14_3 x15_3 x16_4 x17_4 l0_0 l0_1 = some r) ∧ Aside0 (kq ≤ k3) ∧ Aside0 (Kd.R (Kd.int .i64) 3 w' w.heap.size (fun k_ => some k_ ≠ (v292 : Value).ownBlock ∧ some k_ ≠ (u11 : Value).ownBlock ∧ some k_ ≠ (u14 : Value).ownBlock) u9 x9_4) ∧ Aside0 (Kd.R (Kd.int .i64) 3 w' w.heap.size (fun k_ => some k_ ≠ (u9 : Value).ownBlock ∧ some k_ ≠ (u11 : Value).ownBlock ∧ some k_ ≠ (u14 : Value).ownBlock) v292 y291) ∧ Aside0 (Kd.R (Kd.int .i64) 3 w' w.heap.size (fun k_ => some k_ ≠ (u9 : Value).ownBlock ∧ some k_ ≠ (v292 : Value).ownBlock ∧ some k_ ≠ (u14 : Value).ownBlock) u11 x11_2) ∧ Aside0 (Kd.R (Kd.int .i64) 3 w' w.heap.size (fun k_ => some k_ ≠ (u9 : Value).ownBlock ∧ some k_ ≠ (v292 : Value).ownBlock ∧ some k_ ≠ (u11 : Value).ownBlock) u14 x14_3) ∧ Aside0 (w'.heap[gb287]? = some (.cells #[(.slice A0_0 l0_0.length c0_0), (.slice A0_1 l0_1.length c0_1)] 39 (0, 0))) ∧ Aside0 (Below w.heap.size w w'))
       case atStart => exact ⟨(0), (0), (by first | rfl | (simp; done) | (simp [*]; done)), (by first | rfl | (simp; done) | (simp [*]; done)), H', ⟨Nat.le_refl _⟩, ⟨kr HO_9.out⟩, ⟨kr HO_10.out⟩, ⟨kr HO_11.out⟩, ⟨kr HO_14.out⟩, ⟨bk BK287.out⟩, ⟨bq HB.out⟩⟩
       case round =>
        clear H'
        try clear c1
        try clear c2
        try clear p2
        try clear q2
        try clear hx2
        try clear c3
        try clear p3
        try clear q3
        try clear hx3
        try clear c4
        try clear p6
        try clear c8
        try clear c11
        try clear c14
        try clear c14b0
        try clear c15
        try clear c15b0
        try clear c16
        try clear c16b0
        try clear c17
        try clear c18
        try clear c18b0
        try clear c18b1
        try clear c20
        try clear c20b0
        try clear c21
        try clear c21b0
        try clear c22
        try clear c25
        try clear c25b0
        try clear c26
        try clear c26b0
        try clear c27
        try clear p29
        try clear q29
        try clear hx29
        try clear c30
        try clear c30b0
        try clear c30b1
        try clear p30
        try clear q30
        try clear hx30
        try clear p31
        try clear q31
        try clear hx31
        try clear c32
        try clear c32b0
        try clear c33
        try clear c33b0
        try clear c34
        try clear c37
        try clear c37b0
        try clear c38
        try clear c38b0
        try clear c39
        try clear c42
        try clear c42b0
        try clear hcz23_0
        try clear hcz23_1
        try clear hcz28_0
        try clear hcz28_1
        try clear hcz35_0
        try clear hcz35_1
        try clear hcz40_0
        try clear hcz40_1
        try clear hfz23_0
        try clear hfz23_1
        try clear hfz28_0
        try clear hfz28_1
        try clear hfz35_0
        try clear hfz35_1
        try clear hfz40_0
        try clear hfz40_1
        try clear hx297_0
        try clear hx298_0
        try clear hx302_0
        try clear hx306_0
        try clear hx310_0
        try clear p2
        try clear p29
        try clear p297
        try clear p298
        try clear p3
        try clear p30
        try clear p302
        try clear p306
        try clear p31
        try clear p310
        try clear p6
        try clear q2
        try clear q29
        try clear q297
        try clear q298
        try clear q3
        try clear q30
        try clear q302
        try clear q306
        try clear q31
        try clear q310
        obtain ⟨x16_4, x17_4, rfl, rfl, HA, HK4, HO_9, HO_10, HO_11, HO_14, BK287, HB⟩ := hrel
        cases gk with
        | zero => exact absurd HA.out (by simp [steepleref10_round.l2])
        | succ k4 =>
         have H := HA.out
         clear HA
         simp only [steepleref10_round.l2] at H
         by_cases c43 : x17_4 < 8
         rotate_left
         ·rw [if_neg c43] at H
          have c43b0 : decide (x17_4 < 8) = false := decide_eq_false c43
          clear c43
          by_cases c60 : x14_3.length < 17592186044416
          rotate_left
          ·rw [if_neg c60] at H
           exact absurd H (by simp)
          rw [if_pos c60] at H
          have LMc60 := Aside0.mk c60
          clear c60
          obtain ⟨y319, hy319⟩ : ∃ y_ : List Int, y_ = (x14_3 ++ [x16_4]) := ⟨_, rfl⟩
          replace H : (steepleref10_round.l1 k4 x9_4 y291 x11_2 y319 (wrap64 (x15_3 + 1)) l0_0 l0_1) = some r := by first | (rw [hy319]; with_reducible exact H) | (have H2_ := (Option.bind_some _ _).symm.trans H; rw [hy319]; with_reducible exact H2_) | (have H2_ := (Option.bind_some _ _).symm.trans H; with_reducible exact H2_) | with_reducible exact H | (rw [hy319]; exact H) | exact H
          have Ny319 := Aside0.mk hy319
          clear hy319
          have H' := Aside0.mk H
          clear H
          go_wp2_with (first | ((with_reducible refine gate_builtin (b := .append) (xs := #[.tmp 106, .tmp 108]) rfl ?_); at_builtin; refine Kd.R_append (Kd.int .i64) (w0 := w) w.heap.size rfl (.tmp 106) (.tmp 108) 36 3 (.int .i64 0) 8 rfl Try.underlying36 info3 rfl (by decide) (by omega) u14 x14_3 x16_4 [.int .i64 x16_4] (fun k_ => some k_ ≠ (u9 : Value).ownBlock ∧ some k_ ≠ (v292 : Value).ownBlock ∧ some k_ ≠ (u11 : Value).ownBlock) (fun _ => False) rfl rfl ?aP (fun _ hk => hk.elim) ?aF ?aO ?aB ?aS ?aL ?_; (case aP => exact rfl); (case aB => exact (bq HB.out)); (case aF => exact (fun k_ hk => ⟨Kd.fresh' (Kd.R_lt (kr HO_9.out)) k_ hk, Kd.fresh' (Kd.R_lt (kr HO_10.out)) k_ hk, Kd.fresh' (Kd.R_lt (kr HO_11.out)) k_ hk⟩)); (case aO => exact (kr HO_14.out)); (case aS => exact (below_size (bq HB.out))); (case aL => have := LMc60.out; omega); intro v320 w61 ho hb hg hat; rw [← Ny319.out] at ho; have HO321 := Aside0.mk ho; replace HO_9 := Aside0.mk (Kd.R_after (ok := (fun k_ => some k_ ≠ (v292 : Value).ownBlock ∧ some k_ ≠ (u11 : Value).ownBlock)) (by (with_reducible repeat refine kl ?_); exact Kd.R_mono HO_9.out (fun _ hk => ⟨⟨hk.1, hk.2.1⟩, hk.2.2⟩)) hg hat); replace HO_10 := Aside0.mk (Kd.R_after (ok := (fun k_ => some k_ ≠ (u9 : Value).ownBlock ∧ some k_ ≠ (u11 : Value).ownBlock)) (by (with_reducible repeat refine kl ?_); exact Kd.R_mono HO_10.out (fun _ hk => ⟨⟨hk.1, hk.2.1⟩, hk.2.2⟩)) hg hat); replace HO_11 := Aside0.mk (Kd.R_after (ok := (fun k_ => some k_ ≠ (u9 : Value).ownBlock ∧ some k_ ≠ (v292 : Value).ownBlock)) (by (with_reducible repeat refine kl ?_); exact Kd.R_mono HO_11.out (fun _ hk => ⟨⟨hk.1, hk.2.1⟩, hk.2.2⟩)) hg hat); replace BK287 := Aside0.mk (blk_grown (g := gb287) (o := .cells #[.slice A0_0 l0_0.length c0_0, .slice A0_1 l0_1.length c0_1] 39 (0, 0)) (bk BK287.out) hg (Kd.R_ne HO_14.out BK287.out (by decide))); replace HB := Aside0.mk hb; clear HO_14; clear ho hb hg hat))
          repeat (go_quiet (first | ((with_reducible refine gate_builtin (b := .append) (xs := #[.tmp 106, .tmp 108]) rfl ?_); at_builtin; refine Kd.R_append (Kd.int .i64) (w0 := w) w.heap.size rfl (.tmp 106) (.tmp 108) 36 3 (.int .i64 0) 8 rfl Try.underlying36 info3 rfl (by decide) (by omega) u14 x14_3 x16_4 [.int .i64 x16_4] (fun k_ => some k_ ≠ (u9 : Value).ownBlock ∧ some k_ ≠ (v292 : Value).ownBlock ∧ some k_ ≠ (u11 : Value).ownBlock) (fun _ => False) rfl rfl ?aP (fun _ hk => hk.elim) ?aF ?aO ?aB ?aS ?aL ?_; (case aP => exact rfl); (case aB => exact (bq HB.out)); (case aF => exact (fun k_ hk => ⟨Kd.fresh' (Kd.R_lt (kr HO_9.out)) k_ hk, Kd.fresh' (Kd.R_lt (kr HO_10.out)) k_ hk, Kd.fresh' (Kd.R_lt (kr HO_11.out)) k_ hk⟩)); (case aO => exact (kr HO_14.out)); (case aS => exact (below_size (bq HB.out))); (case aL => have := LMc60.out; omega); intro v320 w61 ho hb hg hat; rw [← Ny319.out] at ho; have HO321 := Aside0.mk ho; replace HO_9 := Aside0.mk (Kd.R_after (ok := (fun k_ => some k_ ≠ (v292 : Value).ownBlock ∧ some k_ ≠ (u11 : Value).ownBlock)) (by (with_reducible repeat refine kl ?_); exact Kd.R_mono HO_9.out (fun _ hk => ⟨⟨hk.1, hk.2.1⟩, hk.2.2⟩)) hg hat); replace HO_10 := Aside0.mk (Kd.R_after (ok := (fun k_ => some k_ ≠ (u9 : Value).ownBlock ∧ some k_ ≠ (u11 : Value).ownBlock)) (by (with_reducible repeat refine kl ?_); exact Kd.R_mono HO_10.out (fun _ hk => ⟨⟨hk.1, hk.2.1⟩, hk.2.2⟩)) hg hat); replace HO_11 := Aside0.mk (Kd.R_after (ok := (fun k_ => some k_ ≠ (u9 : Value).ownBlock ∧ some k_ ≠ (v292 : Value).ownBlock)) (by (with_reducible repeat refine kl ?_); exact Kd.R_mono HO_11.out (fun _ hk => ⟨⟨hk.1, hk.2.1⟩, hk.2.2⟩)) hg hat); replace BK287 := Aside0.mk (blk_grown (g := gb287) (o := .cells #[.slice A0_0 l0_0.length c0_0, .slice A0_1 l0_1.length c0_1] 39 (0, 0)) (bk BK287.out) hg (Kd.R_ne HO_14.out BK287.out (by decide))); replace HB := Aside0.mk hb; clear HO_14; clear ho hb hg hat)); try go_wp2_with (first | ((with_reducible refine gate_builtin (b := .append) (xs := #[.tmp 106, .tmp 108]) rfl ?_); at_builtin; refine Kd.R_append (Kd.int .i64) (w0 := w) w.heap.size rfl (.tmp 106) (.tmp 108) 36 3 (.int .i64 0) 8 rfl Try.underlying36 info3 rfl (by decide) (by omega) u14 x14_3 x16_4 [.int .i64 x16_4] (fun k_ => some k_ ≠ (u9 : Value).ownBlock ∧ some k_ ≠ (v292 : Value).ownBlock ∧ some k_ ≠ (u11 : Value).ownBlock) (fun _ => False) rfl rfl ?aP (fun _ hk => hk.elim) ?aF ?aO ?aB ?aS ?aL ?_; (case aP => exact rfl); (case aB => exact (bq HB.out)); (case aF => exact (fun k_ hk => ⟨Kd.fresh' (Kd.R_lt (kr HO_9.out)) k_ hk, Kd.fresh' (Kd.R_lt (kr HO_10.out)) k_ hk, Kd.fresh' (Kd.R_lt (kr HO_11.out)) k_ hk⟩)); (case aO => exact (kr HO_14.out)); (case aS => exact (below_size (bq HB.out))); (case aL => have := LMc60.out; omega); intro v320 w61 ho hb hg hat; rw [← Ny319.out] at ho; have HO321 := Aside0.mk ho; replace HO_9 := Aside0.mk (Kd.R_after (ok := (fun k_ => some k_ ≠ (v292 : Value).ownBlock ∧ some k_ ≠ (u11 : Value).ownBlock)) (by (with_reducible repeat refine kl ?_); exact Kd.R_mono HO_9.out (fun _ hk => ⟨⟨hk.1, hk.2.1⟩, hk.2.2⟩)) hg hat); replace HO_10 := Aside0.mk (Kd.R_after (ok := (fun k_ => some k_ ≠ (u9 : Value).ownBlock ∧ some k_ ≠ (u11 : Value).ownBlock)) (by (with_reducible repeat refine kl ?_); exact Kd.R_mono HO_10.out (fun _ hk => ⟨⟨hk.1, hk.2.1⟩, hk.2.2⟩)) hg hat); replace HO_11 := Aside0.mk (Kd.R_after (ok := (fun k_ => some k_ ≠ (u9 : Value).ownBlock ∧ some k_ ≠ (v292 : Value).ownBlock)) (by (with_reducible repeat refine kl ?_); exact Kd.R_mono HO_11.out (fun _ hk => ⟨⟨hk.1, hk.2.1⟩, hk.2.2⟩)) hg hat); replace BK287 := Aside0.mk (blk_grown (g := gb287) (o := .cells #[.slice A0_0 l0_0.length c0_0, .slice A0_1 l0_1.length c0_1] 39 (0, 0)) (bk BK287.out) hg (Kd.R_ne HO_14.out BK287.out (by decide))); replace HB := Aside0.mk hb; clear HO_14; clear ho hb hg hat)))
          go_roundg k4
          case measure => have := HJ4.out; have := HK2.out; have := HK3.out; have := HK4.out; omega
          case rel => exact ⟨(y319), (wrap64 (x15_3 + 1)), (by first | rfl | (simp; done) | (simp [*]; done)), H', ⟨by have := HJ4.out; have := HK2.out; have := HK3.out; have := HK4.out; omega⟩, ⟨by (with_reducible repeat refine kl ?_); exact Kd.R_mono HO_9.out (fun _ hk => ⟨hk.1.1, ⟨hk.1.2, hk.2⟩⟩)⟩, ⟨by (with_reducible repeat refine kl ?_); exact Kd.R_mono HO_10.out (fun _ hk => ⟨hk.1.1, ⟨hk.1.2, hk.2⟩⟩)⟩, ⟨by (with_reducible repeat refine kl ?_); exact Kd.R_mono HO_11.out (fun _ hk => ⟨hk.1.1, ⟨hk.1.2, hk.2⟩⟩)⟩, ⟨kr HO321.out⟩, ⟨bk BK287.out⟩, ⟨bq HB.out⟩⟩
         rw [if_pos c43] at H
         have c43b0 : decide (x17_4 < 8) = true := decide_eq_true c43
         clear c43
         obtain ⟨ji44, hji44⟩ : ∃ j_ : Int, (Int.tmod (wrap64 ((Int.tmod x15_3 8) + x17_4)) 8) = j_ := ⟨_, rfl⟩
         replace H : (if 0 ≤ (ji44) then (if (ji44) < (x9_4.length : Int) then (if 0 ≤ x17_4 then (if x17_4 < (y291.length : Int) then (if 0 ≤ (rd y291 x17_4) then (if (rd y291 x17_4) < (l0_1.length : Int) then (if 0 ≤ (wrap64 ((wrap64 (8 * (Int.tmod (wrap64 ((wrap64 (Int.tdiv x15_3 8)) + (rd x9_4 (ji44)))) 8))) + (ji44))) then (if (wrap64 ((wrap64 (8 * (Int.tmod (wrap64 ((wrap64 (Int.tdiv x15_3 8)) + (rd x9_4 (ji44)))) 8))) + (ji44))) < (x11_2.length : Int) then (if 0 ≤ (rd x11_2 (wrap64 ((wrap64 (8 * (Int.tmod (wrap64 ((wrap64 (Int.tdiv x15_3 8)) + (rd x9_4 (ji44)))) 8))) + (ji44)))) then (if (rd x11_2 (wrap64 ((wrap64 (8 * (Int.tmod (wrap64 ((wrap64 (Int.tdiv x15_3 8)) + (rd x9_4 (ji44)))) 8))) + (ji44)))) < ((rd_L5 l0_1 (rd y291 x17_4)).length : Int) then (steepleref10_round.l2 k4 x9_4 y291 x11_2 x14_3 x15_3 (Go.bits .xor .i64 x16_4 (rd (rd_L5 l0_1 (rd y291 x17_4)) (rd x11_2 (wrap64 ((wrap64 (8 * (Int.tmod (wrap64 ((wrap64 (Int.tdiv x15_3 8)) + (rd x9_4 (ji44)))) 8))) + (ji44)))))) (wrap64 (x17_4 + 1)) l0_0 l0_1) else (none)) else (none)) else (none)) else (none)) else (none)) else (none)) else (none)) else (none)) else (none)) else (none)) = some r := by first | (rw [hji44] at H; exact H) | (simp only [hji44] at H ⊢; exact H)
         by_cases c45 : 0 ≤ (ji44)
         rotate_left
         ·rw [if_neg c45] at H
          exact absurd H (by simp)
         rw [if_pos c45] at H
         have c45b0 : decide (0 ≤ (ji44)) = true := decide_eq_true c45
         clear c45
         by_cases c46 : (ji44) < (x9_4.length : Int)
         rotate_left
         ·rw [if_neg c46] at H
          exact absurd H (by simp)
         rw [if_pos c46] at H
         have c46b0 : decide ((ji44) < (x9_4.length : Int)) = true := decide_eq_true c46
         clear c46
         by_cases c47 : 0 ≤ x17_4
         rotate_left
         ·rw [if_neg c47] at H
          exact absurd H (by simp)
         rw [if_pos c47] at H
         have c47b0 : decide (0 ≤ x17_4) = true := decide_eq_true c47
         clear c47
         by_cases c48 : x17_4 < (y291.length : Int)
         rotate_left
         ·rw [if_neg c48] at H
          exact absurd H (by simp)
         rw [if_pos c48] at H
         have c48b0 : decide (x17_4 < (y291.length : Int)) = true := decide_eq_true c48
         clear c48
         by_cases c49 : 0 ≤ (rd y291 x17_4)
         rotate_left
         ·rw [if_neg c49] at H
          exact absurd H (by simp)
         rw [if_pos c49] at H
         have c49b0 : decide (0 ≤ (rd y291 x17_4)) = true := decide_eq_true c49
         clear c49
         by_cases c50 : (rd y291 x17_4) < (l0_1.length : Int)
         rotate_left
         ·rw [if_neg c50] at H
          exact absurd H (by simp)
         rw [if_pos c50] at H
         have c50b0 : decide ((rd y291 x17_4) < (l0_1.length : Int)) = true := decide_eq_true c50
         clear c50
         obtain ⟨ji51, hji51⟩ : ∃ j_ : Int, (wrap64 ((wrap64 (8 * (Int.tmod (wrap64 ((wrap64 (Int.tdiv x15_3 8)) + (rd x9_4 (ji44)))) 8))) + (ji44))) = j_ := ⟨_, rfl⟩
         replace H : (if 0 ≤ (ji51) then (if (ji51) < (x11_2.length : Int) then (if 0 ≤ (rd x11_2 (ji51)) then (if (rd x11_2 (ji51)) < ((rd_L5 l0_1 (rd y291 x17_4)).length : Int) then (steepleref10_round.l2 k4 x9_4 y291 x11_2 x14_3 x15_3 (Go.bits .xor .i64 x16_4 (rd (rd_L5 l0_1 (rd y291 x17_4)) (rd x11_2 (ji51)))) (wrap64 (x17_4 + 1)) l0_0 l0_1) else (none)) else (none)) else (none)) else (none)) = some r := by first | (rw [hji51] at H; exact H) | (simp only [hji51] at H ⊢; exact H)
         have hji51w : (IntKind.i64.wrap ((wrap64 (8 * (Int.tmod (wrap64 ((wrap64 (Int.tdiv x15_3 8)) + (rd x9_4 (ji44)))) 8))) + (ji44))) = ji51 := (i64_w _).trans hji51
         by_cases c52 : 0 ≤ (ji51)
         rotate_left
         ·rw [if_neg c52] at H
          exact absurd H (by simp)
         rw [if_pos c52] at H
         have c52b0 : decide (0 ≤ (ji51)) = true := decide_eq_true c52
         clear c52
         by_cases c53 : (ji51) < (x11_2.length : Int)
         rotate_left
         ·rw [if_neg c53] at H
          exact absurd H (by simp)
         rw [if_pos c53] at H
         have c53b0 : decide ((ji51) < (x11_2.length : Int)) = true := decide_eq_true c53
         clear c53
         by_cases c54 : 0 ≤ (rd x11_2 (ji51))
         rotate_left
         ·rw [if_neg c54] at H
          exact absurd H (by simp)
         rw [if_pos c54] at H
         have c54b0 : decide (0 ≤ (rd x11_2 (ji51))) = true := decide_eq_true c54
         clear c54
         by_cases c55 : (rd x11_2 (ji51)) < ((rd_L5 l0_1 (rd y291 x17_4)).length : Int)
         rotate_left
         ·rw [if_neg c55] at H
          exact absurd H (by simp)
         rw [if_pos c55] at H
         have c55b0 : decide ((rd x11_2 (ji51)) < ((rd_L5 l0_1 (rd y291 x17_4)).length : Int)) = true := decide_eq_true c55
         clear c55
         have H' := Aside0.mk H
         clear H
         obtain ⟨Ao56, co56, eo56⟩ := Kd.R_slice HO_9.out
         subst eo56
         have p314 : 0 ≤ ((ji44) : Int) := of_decide_eq_true (by first | (with_reducible assumption) | assumption)
         have q314 : (ji44) < (x9_4.length : Int) := of_decide_eq_true (by first | (with_reducible assumption) | assumption)
         (try (obtain ⟨Ap_, cp_, ep_⟩ := Kd.R_slice HO_9.out; subst ep_))
         obtain ⟨ad314, e314, hx314_0⟩ := Kd.at_int (Kd.R_reads' HO_9.out).2.2 (ji44) p314 q314
         cases e314
         replace p314 := eq_true p314
         replace q314 := eq_true q314
         obtain ⟨hcz57_0, hcz57_1⟩ := zc2 BK287
         obtain ⟨hfz57_0, hfz57_1⟩ := zf2 BK287
         obtain ⟨Ao58, co58, eo58⟩ := Kd.R_slice HO_10.out
         subst eo58
         have p315 : 0 ≤ (x17_4 : Int) := of_decide_eq_true (by first | (with_reducible assumption) | assumption)
         have q315 : x17_4 < (y291.length : Int) := of_decide_eq_true (by first | (with_reducible assumption) | assumption)
         (try (obtain ⟨Ap_, cp_, ep_⟩ := Kd.R_slice HO_10.out; subst ep_))
         obtain ⟨ad315, e315, hx315_0⟩ := Kd.at_int (Kd.R_reads' HO_10.out).2.2 x17_4 p315 q315
         cases e315
         replace p315 := eq_true p315
         replace q315 := eq_true q315
         have p316 : 0 ≤ ((rd y291 x17_4) : Int) := of_decide_eq_true (by first | (with_reducible assumption) | assumption)
         have q316 : (rd y291 x17_4) < (l0_1.length : Int) := of_decide_eq_true (by first | (with_reducible assumption) | assumption)
         obtain ⟨ad316, A316_0, c316_0, e316, hx316_0, hl316_0, hi316_0⟩ := at_L5 HR0_1.out (rd y291 x17_4) p316 q316
         cases e316
         replace hx316_0 := (HB.out.cell (World.block_lt_of_cell? w _ hx316_0)).trans hx316_0
         have HR316_0 := Aside0.mk hi316_0
         have HC316_0 := Aside0.mk hl316_0
         clear hi316_0 hl316_0
         replace p316 := eq_true p316
         replace q316 := eq_true q316
         obtain ⟨Ao59, co59, eo59⟩ := Kd.R_slice HO_11.out
         subst eo59
         have p317 : 0 ≤ ((ji51) : Int) := of_decide_eq_true (by first | (with_reducible assumption) | assumption)
         have q317 : (ji51) < (x11_2.length : Int) := of_decide_eq_true (by first | (with_reducible assumption) | assumption)
         (try (obtain ⟨Ap_, cp_, ep_⟩ := Kd.R_slice HO_11.out; subst ep_))
         obtain ⟨ad317, e317, hx317_0⟩ := Kd.at_int (Kd.R_reads' HO_11.out).2.2 (ji51) p317 q317
         cases e317
         replace p317 := eq_true p317
         replace q317 := eq_true q317
         have p318 : 0 ≤ ((rd x11_2 (ji51)) : Int) := of_decide_eq_true (by first | (with_reducible assumption) | assumption)
         have q318 : (rd x11_2 (ji51)) < ((rd_L5 l0_1 (rd y291 x17_4)).length : Int) := of_decide_eq_true (by first | (with_reducible assumption) | assumption)
         obtain ⟨ad318, e318, hx318_0⟩ := Kd.at_int HR316_0.out (rd x11_2 (ji51)) p318 q318
         cases e318
         replace hx318_0 := (HB.out.cell (World.block_lt_of_cell? w _ hx318_0)).trans hx318_0
         replace p318 := eq_true p318
         replace q318 := eq_true q318
         go_wp2
         repeat (go_quiet (fail); try go_wp2)
         go_roundg k4
         case measure => have := HJ4.out; have := HK2.out; have := HK3.out; have := HK4.out; omega
         case rel => exact ⟨(Go.bits .xor .i64 x16_4 (rd (rd_L5 l0_1 (rd y291 x17_4)) (rd x11_2 (ji51)))), (wrap64 (x17_4 + 1)), (by first | rfl | (simp; done) | (simp only [← hji51] <;> (first | rfl | simp)) | (simp [*]; done)), (by first | rfl | (simp; done) | (simp [*]; done)), H', ⟨by have := HJ4.out; have := HK2.out; have := HK3.out; have := HK4.out; omega⟩, ⟨kr HO_9.out⟩, ⟨kr HO_10.out⟩, ⟨kr HO_11.out⟩, ⟨kr HO_14.out⟩, ⟨bk BK287.out⟩, ⟨bq HB.out⟩⟩
end Go.Proofs.Ytmibjgjgfombaaa.P
