/- Written by a program of this session: functions that the law reaches, as Lean functions, and that the code comes to their answers. Conditions: those that each theorem names. -/
import Derived.Test.YtmibjgjgfombaaaPx0
import Derived.Test.YtmibjgjgfombaaaPx1
import Derived.Test.YtmibjgjgfombaaaPx5
import Derived.Test.YtmibjgjgfombaaaPx6
import Derived.Test.YtmibjgjgfombaaaPx6a
namespace Go.Proofs.Ytmibjgjgfombaaa.P
open Go.RowKit Go.Proofs.YtmibjgjgfombaaaX Go.Proofs.YtmibjgjgfombaaaW.PrintWords Go.Proofs.YtmibjgjgfombaaaW.PrintLast Go.Proofs.YtmibjgjgfombaaaW.PrintMore
attribute [local go_sem] max2_int min2_int max_two min_two max_three min_three max_four min_four   -- for this text's walks alone
set_option linter.unusedVariables false
set_option linter.unusedSimpArgs false

/-! ### steeplelaw12_MerkleRows: function 4 -/
mutual
def steeplelaw12_MerkleRows.j0 : Nat → List (List ByteArray) → Int → Bool → Option (Bool)
 | 0, _, _, _ => none
 | k + 1, x0, x1, x17 => if x17 = true then ((steeplelaw12_awake.f k).bind fun t559 => (some t559)) else (steeplelaw12_MerkleRows.l0 k x0 x1 (decide ((x0.length : Int) > 0)) 0 0)
def steeplelaw12_MerkleRows.l0 : Nat → List (List ByteArray) → Int → Bool → Int → Int → Option (Bool)
 | 0, _, _, _, _, _ => none
 | k + 1, x0, x1, x5, x6, x7 => if x7 < (x0.length : Int) then (if 0 ≤ x7 then ((steeplelaw01_Few.f k (rd_L1 x0 x7) 20 40).bind fun t561 => (if t561 = true then (if x7 = 0 then (if 0 < (x0.length : Int) then (if x5 = true then (if ((rd_L1 x0 x7).length : Int) = ((rd_L1 x0 0).length : Int) then (if x7 < (wrap64 ((x0.length : Int) - 1)) then (if (((rd_L1 x0 0).length : Int) % 2) = 0 then (steeplelaw12_MerkleRows.l0 k x0 x1 true (wrap64 (((rd_L1 x0 0).length : Int) / 2)) (wrap64 (x7 + 1))) else (if ((rd_L1 x0 0).length : Int) = 1 then (steeplelaw12_MerkleRows.l0 k x0 x1 (x7 == (wrap64 ((x0.length : Int) - 1))) (wrap64 (((rd_L1 x0 0).length : Int) / 2)) (wrap64 (x7 + 1))) else (steeplelaw12_MerkleRows.l0 k x0 x1 false (wrap64 (((rd_L1 x0 0).length : Int) / 2)) (wrap64 (x7 + 1))))) else (if ((rd_L1 x0 0).length : Int) = 1 then (if (((rd_L1 x0 0).length : Int) % 2) = 0 then (steeplelaw12_MerkleRows.l0 k x0 x1 true (wrap64 (((rd_L1 x0 0).length : Int) / 2)) (wrap64 (x7 + 1))) else (steeplelaw12_MerkleRows.l0 k x0 x1 (x7 == (wrap64 ((x0.length : Int) - 1))) (wrap64 (((rd_L1 x0 0).length : Int) / 2)) (wrap64 (x7 + 1)))) else (steeplelaw12_MerkleRows.l0 k x0 x1 false (wrap64 (((rd_L1 x0 0).length : Int) / 2)) (wrap64 (x7 + 1))))) else (steeplelaw12_MerkleRows.l0 k x0 x1 false (wrap64 (((rd_L1 x0 0).length : Int) / 2)) (wrap64 (x7 + 1)))) else (steeplelaw12_MerkleRows.l0 k x0 x1 false (wrap64 (((rd_L1 x0 0).length : Int) / 2)) (wrap64 (x7 + 1)))) else (none)) else (if x5 = true then (if ((rd_L1 x0 x7).length : Int) = x6 then (if x7 < (wrap64 ((x0.length : Int) - 1)) then (if (Int.tmod x6 2) = 0 then (steeplelaw12_MerkleRows.l0 k x0 x1 true (wrap64 (Int.tdiv x6 2)) (wrap64 (x7 + 1))) else (if x6 = 1 then (steeplelaw12_MerkleRows.l0 k x0 x1 (x7 == (wrap64 ((x0.length : Int) - 1))) (wrap64 (Int.tdiv x6 2)) (wrap64 (x7 + 1))) else (steeplelaw12_MerkleRows.l0 k x0 x1 false (wrap64 (Int.tdiv x6 2)) (wrap64 (x7 + 1))))) else (if x6 = 1 then (if (Int.tmod x6 2) = 0 then (steeplelaw12_MerkleRows.l0 k x0 x1 true (wrap64 (Int.tdiv x6 2)) (wrap64 (x7 + 1))) else (steeplelaw12_MerkleRows.l0 k x0 x1 (x7 == (wrap64 ((x0.length : Int) - 1))) (wrap64 (Int.tdiv x6 2)) (wrap64 (x7 + 1)))) else (steeplelaw12_MerkleRows.l0 k x0 x1 false (wrap64 (Int.tdiv x6 2)) (wrap64 (x7 + 1))))) else (steeplelaw12_MerkleRows.l0 k x0 x1 false (wrap64 (Int.tdiv x6 2)) (wrap64 (x7 + 1)))) else (steeplelaw12_MerkleRows.l0 k x0 x1 false (wrap64 (Int.tdiv x6 2)) (wrap64 (x7 + 1))))) else (some true))) else (none)) else ((merkle_Path.f k x0 x1).bind fun bt565 => (if (x0.length : Int) = 0 then (steeplelaw12_MerkleRows.j2 k x0 x1 x5 bt565.1 bt565.2 true) else (if x1 < 0 then (steeplelaw12_MerkleRows.j2 k x0 x1 x5 bt565.1 bt565.2 true) else (if 0 < (x0.length : Int) then (steeplelaw12_MerkleRows.j2 k x0 x1 x5 bt565.1 bt565.2 (decide (x1 ≥ ((rd_L1 x0 0).length : Int)))) else (none)))))
def steeplelaw12_MerkleRows.j2 : Nat → List (List ByteArray) → Int → Bool → List ByteArray → Int → Bool → Option (Bool)
 | 0, _, _, _, _, _, _ => none
 | k + 1, x0, x1, x5, x8, x9, x99 => if x99 = true then (if x9 = 4 then (some ((x8.length : Int) == 0)) else (none)) else (if x5 = true then (if x9 = 0 then (if (x8.length : Int) = (wrap64 ((x0.length : Int) - 1)) then (steeplelaw12_MerkleRows.l1 k x0 x1 x8 0) else (none)) else (none)) else (if x9 = 6 then (some ((x8.length : Int) == 0)) else (none)))
def steeplelaw12_MerkleRows.l1 : Nat → List (List ByteArray) → Int → List ByteArray → Int → Option (Bool)
 | 0, _, _, _, _ => none
 | k + 1, x0, x1, x8, x10 => if x10 < (x8.length : Int) then (if 0 ≤ x10 then (if x10 < (x0.length : Int) then (if 0 ≤ (Go.bits .xor .i64 x1 1) then (if (Go.bits .xor .i64 x1 1) < ((rd_L1 x0 x10).length : Int) then (if (rdOf ByteArray.empty x8 x10).toList = (rdOf ByteArray.empty (rd_L1 x0 x10) (Go.bits .xor .i64 x1 1)).toList then (steeplelaw12_MerkleRows.l1 k x0 (wrap64 (Int.tdiv x1 2)) x8 (wrap64 (x10 + 1))) else (none)) else (none)) else (none)) else (none)) else (none)) else (some true)
end
def steeplelaw12_MerkleRows.f (k : Nat) (l0 : List (List ByteArray)) (a1 : Int) : Option (Bool) := if (l0.length : Int) > 8 then (steeplelaw12_MerkleRows.j0 k l0 a1 true) else ((steeplelaw12_awake.f k).bind fun t558 => (steeplelaw12_MerkleRows.j0 k l0 a1 (!t558)))
theorem steeplelaw12_MerkleRows.mono_l : ∀ k, (∀ y0 y1 y2, LeO (steeplelaw12_MerkleRows.j0 k y0 y1 y2) (steeplelaw12_MerkleRows.j0 (k + 1) y0 y1 y2)) ∧ (∀ y0 y1 y2 y3 y4, LeO (steeplelaw12_MerkleRows.l0 k y0 y1 y2 y3 y4) (steeplelaw12_MerkleRows.l0 (k + 1) y0 y1 y2 y3 y4)) ∧ (∀ y0 y1 y2 y3 y4 y5, LeO (steeplelaw12_MerkleRows.j2 k y0 y1 y2 y3 y4 y5) (steeplelaw12_MerkleRows.j2 (k + 1) y0 y1 y2 y3 y4 y5)) ∧ (∀ y0 y1 y2 y3, LeO (steeplelaw12_MerkleRows.l1 k y0 y1 y2 y3) (steeplelaw12_MerkleRows.l1 (k + 1) y0 y1 y2 y3))
 | 0 => ⟨fun _ _ _ r h => by simp [steeplelaw12_MerkleRows.j0] at h, fun _ _ _ _ _ r h => by simp [steeplelaw12_MerkleRows.l0] at h, fun _ _ _ _ _ _ r h => by simp [steeplelaw12_MerkleRows.j2] at h, fun _ _ _ _ r h => by simp [steeplelaw12_MerkleRows.l1] at h⟩
 | k + 1 => by
  obtain ⟨ih0, ih1, ih2, ih3⟩ := steeplelaw12_MerkleRows.mono_l k
  refine ⟨?_, ?_, ?_, ?_⟩
  ·intro y0 y1 y2
   unfold steeplelaw12_MerkleRows.j0
   repeat' first
   | (with_reducible exact ih0 _ _ _)
   | (with_reducible exact ih1 _ _ _ _ _)
   | (with_reducible exact ih2 _ _ _ _ _ _)
   | (with_reducible exact ih3 _ _ _ _)
   | (with_reducible exact merkle_Path.mono _ _ _)
   | (with_reducible exact steeplelaw01_Few.mono _ _ _ _)
   | (with_reducible exact steeplelaw12_awake.mono _)
   | (with_reducible exact LeO.refl _)
   | (with_reducible exact LeO.none _)
   | (with_reducible refine LeO.ite ?_ ?_)
   | (with_reducible refine LeO.bind ?_ (fun _ => ?_))
   | exact ih0 _ _ _
   | exact ih1 _ _ _ _ _
   | exact ih2 _ _ _ _ _ _
   | exact ih3 _ _ _ _
   | exact merkle_Path.mono _ _ _
   | exact steeplelaw01_Few.mono _ _ _ _
   | exact steeplelaw12_awake.mono _
   | exact LeO.none _
   | refine LeO.ite ?_ ?_
   | refine LeO.bind ?_ (fun _ => ?_)
  ·intro y0 y1 y2 y3 y4
   unfold steeplelaw12_MerkleRows.l0
   repeat' first
   | (with_reducible exact ih0 _ _ _)
   | (with_reducible exact ih1 _ _ _ _ _)
   | (with_reducible exact ih2 _ _ _ _ _ _)
   | (with_reducible exact ih3 _ _ _ _)
   | (with_reducible exact merkle_Path.mono _ _ _)
   | (with_reducible exact steeplelaw01_Few.mono _ _ _ _)
   | (with_reducible exact steeplelaw12_awake.mono _)
   | (with_reducible exact LeO.refl _)
   | (with_reducible exact LeO.none _)
   | (with_reducible refine LeO.ite ?_ ?_)
   | (with_reducible refine LeO.bind ?_ (fun _ => ?_))
   | exact ih0 _ _ _
   | exact ih1 _ _ _ _ _
   | exact ih2 _ _ _ _ _ _
   | exact ih3 _ _ _ _
   | exact merkle_Path.mono _ _ _
   | exact steeplelaw01_Few.mono _ _ _ _
   | exact steeplelaw12_awake.mono _
   | exact LeO.none _
   | refine LeO.ite ?_ ?_
   | refine LeO.bind ?_ (fun _ => ?_)
  ·intro y0 y1 y2 y3 y4 y5
   unfold steeplelaw12_MerkleRows.j2
   repeat' first
   | (with_reducible exact ih0 _ _ _)
   | (with_reducible exact ih1 _ _ _ _ _)
   | (with_reducible exact ih2 _ _ _ _ _ _)
   | (with_reducible exact ih3 _ _ _ _)
   | (with_reducible exact merkle_Path.mono _ _ _)
   | (with_reducible exact steeplelaw01_Few.mono _ _ _ _)
   | (with_reducible exact steeplelaw12_awake.mono _)
   | (with_reducible exact LeO.refl _)
   | (with_reducible exact LeO.none _)
   | (with_reducible refine LeO.ite ?_ ?_)
   | (with_reducible refine LeO.bind ?_ (fun _ => ?_))
   | exact ih0 _ _ _
   | exact ih1 _ _ _ _ _
   | exact ih2 _ _ _ _ _ _
   | exact ih3 _ _ _ _
   | exact merkle_Path.mono _ _ _
   | exact steeplelaw01_Few.mono _ _ _ _
   | exact steeplelaw12_awake.mono _
   | exact LeO.none _
   | refine LeO.ite ?_ ?_
   | refine LeO.bind ?_ (fun _ => ?_)
  ·intro y0 y1 y2 y3
   unfold steeplelaw12_MerkleRows.l1
   repeat' first
   | (with_reducible exact ih0 _ _ _)
   | (with_reducible exact ih1 _ _ _ _ _)
   | (with_reducible exact ih2 _ _ _ _ _ _)
   | (with_reducible exact ih3 _ _ _ _)
   | (with_reducible exact merkle_Path.mono _ _ _)
   | (with_reducible exact steeplelaw01_Few.mono _ _ _ _)
   | (with_reducible exact steeplelaw12_awake.mono _)
   | (with_reducible exact LeO.refl _)
   | (with_reducible exact LeO.none _)
   | (with_reducible refine LeO.ite ?_ ?_)
   | (with_reducible refine LeO.bind ?_ (fun _ => ?_))
   | exact ih0 _ _ _
   | exact ih1 _ _ _ _ _
   | exact ih2 _ _ _ _ _ _
   | exact ih3 _ _ _ _
   | exact merkle_Path.mono _ _ _
   | exact steeplelaw01_Few.mono _ _ _ _
   | exact steeplelaw12_awake.mono _
   | exact LeO.none _
   | refine LeO.ite ?_ ?_
   | refine LeO.bind ?_ (fun _ => ?_)
theorem steeplelaw12_MerkleRows.mono : ∀ a0 a1 k, LeO (steeplelaw12_MerkleRows.f k a0 a1) (steeplelaw12_MerkleRows.f (k + 1) a0 a1) := by
 intro a0 a1 k
 obtain ⟨ih0, ih1, ih2, ih3⟩ := steeplelaw12_MerkleRows.mono_l k
 unfold steeplelaw12_MerkleRows.f
 repeat' first
   | (with_reducible exact ih0 _ _ _)
   | (with_reducible exact ih1 _ _ _ _ _)
   | (with_reducible exact ih2 _ _ _ _ _ _)
   | (with_reducible exact ih3 _ _ _ _)
   | (with_reducible exact merkle_Path.mono _ _ _)
   | (with_reducible exact steeplelaw01_Few.mono _ _ _ _)
   | (with_reducible exact steeplelaw12_awake.mono _)
   | (with_reducible exact LeO.refl _)
   | (with_reducible exact LeO.none _)
   | (with_reducible refine LeO.ite ?_ ?_)
   | (with_reducible refine LeO.bind ?_ (fun _ => ?_))
   | exact ih0 _ _ _
   | exact ih1 _ _ _ _ _
   | exact ih2 _ _ _ _ _ _
   | exact ih3 _ _ _ _
   | exact merkle_Path.mono _ _ _
   | exact steeplelaw01_Few.mono _ _ _ _
   | exact steeplelaw12_awake.mono _
   | exact LeO.none _
   | refine LeO.ite ?_ ?_
   | refine LeO.bind ?_ (fun _ => ?_)
set_option maxHeartbeats 8000000 in
set_option maxRecDepth 100000 in
theorem steeplelaw12_MerkleRows.calls (k : Nat) (A0 : Option Addr) (c0 : Nat) (l0 : List (List ByteArray)) (a1 : Int) (r : Bool) (w : World) (hr0 : Kd.C (Kd.slice 9 Kd.string) w A0 l0.length l0) (hc0 : l0.length ≤ c0) (h : steeplelaw12_MerkleRows.f k l0 a1 = some r) :
  Calls Try.prog 4 #[.slice A0 l0.length c0, .int .i64 a1] w fun e w' => e = .returned (.bool r) ∧ Below w.heap.size w w' := by
 have HR0 := Aside0.mk hr0
 have HC0 := Aside0.mk hc0
 clear hr0 hc0
 have HB := Aside0.mk (Below.refl w.heap.size w)
 have H : (if (l0.length : Int) > 8 then (steeplelaw12_MerkleRows.j0 k l0 a1 true) else ((steeplelaw12_awake.f k).bind fun t558 => (steeplelaw12_MerkleRows.j0 k l0 a1 (!t558)))) = some r := h
 clear h
 have HC3 := Aside0.mk H
 clear H
 go_enter Try.func4, Try.ntmps4
 go_upto_region 1 with (fail)
 repeat (go_quiet (fail); go_upto_region 1 with (fail))
 go_cut [17] (fun v17 wc => ∃ (kq : Nat) (x17_2 : Bool), v17 = .bool x17_2 ∧ Aside0 (steeplelaw12_MerkleRows.j0 kq l0 a1 x17_2 = some r) ∧ Aside0 (kq ≤ k) ∧ Aside0 (Below w.heap.size w wc))
 case first =>
  have H := HC3.out
  clear HC3
  by_cases c4 : (l0.length : Int) > 8
  ·rw [if_pos c4] at H
   have c4b0 : decide (8 < (l0.length : Int)) = true := decide_eq_true c4
   have c4b1 : decide (8 < l0.length) = true := decide_eq_true (by omega)
   clear c4
   (first | rw [c4b0] | (simp only [i64_w, i32_w]; rw [c4b0]) | skip)
   have H' := Aside0.mk H
   clear H
   go_wp2
   repeat (go_quiet (fail); try go_wp2)
   go_meet
   case rel => exact ⟨_, (true), (by first | rfl | (simp; done) | (simp [*]; done)), H', ⟨by first | omega | exact Nat.le_refl _⟩, ⟨bq HB.out⟩⟩
  ·rw [if_neg c4] at H
   have c4b0 : decide (8 < (l0.length : Int)) = false := decide_eq_false c4
   have c4b1 : decide (8 < l0.length) = false := decide_eq_false (by omega)
   clear c4
   (first | rw [c4b0] | (simp only [i64_w, i32_w]; rw [c4b0]) | skip)
   replace H := Option.bind_eq_some_iff.mp H
   obtain ⟨t558, A50, H⟩ := H
   replace H : (steeplelaw12_MerkleRows.j0 k l0 a1 (!t558)) = some r := H
   have A5 := Aside0.mk A50
   clear A50
   have H' := Aside0.mk H
   clear H
   go_wp2_with (first | (go_at_call 10; (with_reducible refine (steeplelaw12_awake.calls k  t558 _ A5.out).mono ?_); rintro e w6 ⟨rfl, hb⟩; replace HB := bh HB hb; (try clear hb); (try clear hb2); (try clear hk); (try clear hi)))
   repeat (go_quiet (first | (go_at_call 10; (with_reducible refine (steeplelaw12_awake.calls k  t558 _ A5.out).mono ?_); rintro e w6 ⟨rfl, hb⟩; replace HB := bh HB hb; (try clear hb); (try clear hb2); (try clear hk); (try clear hi))); try go_wp2_with (first | (go_at_call 10; (with_reducible refine (steeplelaw12_awake.calls k  t558 _ A5.out).mono ?_); rintro e w6 ⟨rfl, hb⟩; replace HB := bh HB hb; (try clear hb); (try clear hb2); (try clear hk); (try clear hi))))
   go_meet
   case rel => exact ⟨_, (!t558), (by first | rfl | (simp; done) | (simp [*]; done)), H', ⟨by first | omega | exact Nat.le_refl _⟩, ⟨bq HB.out⟩⟩
 case rest =>
  clear HC3
  try clear p2
  try clear c4
  try clear c4b0
  try clear c4b1
  obtain ⟨kq, x17_2, rfl, HA, HJ2, HB⟩ := hcut
  cases kq with
  | zero => exact absurd HA.out (by simp [steeplelaw12_MerkleRows.j0])
  | succ kj2 =>
   have H := HA.out
   clear HA
   simp only [steeplelaw12_MerkleRows.j0] at H
   by_cases c7 : x17_2 = true
   ·subst c7
    have H1 : ((steeplelaw12_awake.f kj2).bind fun t559 => (some t559)) = some r := by rw [if_pos rfl] at H; exact H
    clear H
    have H := H1
    clear H1
    replace H := Option.bind_eq_some_iff.mp H
    obtain ⟨t559, A80, H⟩ := H
    replace H : (some t559) = some r := H
    have A8 := Aside0.mk A80
    clear A80
    obtain rfl := Option.some.inj H
    go_wp2_with (first | (go_at_call 10; (with_reducible refine (steeplelaw12_awake.calls kj2  t559 _ A8.out).mono ?_); rintro e w9 ⟨rfl, hb⟩; replace HB := bh HB hb; (try clear hb); (try clear hb2); (try clear hk); (try clear hi)))
    repeat (go_quiet (first | (go_at_call 10; (with_reducible refine (steeplelaw12_awake.calls kj2  t559 _ A8.out).mono ?_); rintro e w9 ⟨rfl, hb⟩; replace HB := bh HB hb; (try clear hb); (try clear hb2); (try clear hk); (try clear hi))); try go_wp2_with (first | (go_at_call 10; (with_reducible refine (steeplelaw12_awake.calls kj2  t559 _ A8.out).mono ?_); rintro e w9 ⟨rfl, hb⟩; replace HB := bh HB hb; (try clear hb); (try clear hb2); (try clear hk); (try clear hi))))
    go_ret
    exact ⟨by first | rfl | (simp [errW_none, errW_some] <;> rfl) | (simp [*, errW_none, errW_some] <;> rfl), bq HB.out⟩
   ·replace c7 := Bool.eq_false_iff.mpr c7
    subst c7
    have H1 : (steeplelaw12_MerkleRows.l0 kj2 l0 a1 (decide ((l0.length : Int) > 0)) 0 0) = some r := by rw [if_neg (show ¬ (false = true) by decide)] at H; exact H
    clear H
    have H := H1
    clear H1
    have H' := Aside0.mk H
    clear H
    go_wp2
    repeat (go_quiet (fail); try go_wp2)
    obtain ⟨b5_, hb5_⟩ : ∃ b, b = decide (0 < l0.length) := ⟨_, rfl⟩
    rw [← hb5_]
    have eb5_ : decide ((l0.length : Int) > 0) = b5_ := by rw [hb5_]; exact decide_eq_decide.2 (by omega)
    rw [eb5_] at H'
    clear hb5_ eb5_
    go_loopg [5, 6, 7] kj2 (fun kq v5 v6 v7 w' => ∃ (x5_2 : Bool) (x6_2 : Int) (x7_2 : Int), v5 = .bool x5_2 ∧ v6 = .int .i64 x6_2 ∧ v7 = .int .i64 x7_2 ∧ Aside0 (steeplelaw12_MerkleRows.l0 kq l0 a1 x5_2 x6_2 x7_2 = some r) ∧ Aside0 (kq ≤ kj2) ∧ Aside0 (Below w.heap.size w w'))
    case atStart => exact ⟨b5_, (0), (0), (by first | rfl | (simp; done) | (simp [*]; done)), (by first | rfl | (simp; done) | (simp [*]; done)), (by first | rfl | (simp; done) | (simp [*]; done)), H', ⟨Nat.le_refl _⟩, ⟨bq HB.out⟩⟩
    case round =>
     clear H'
     try clear p2
     try clear c4
     try clear c4b0
     try clear c4b1
     try clear c7
     try clear p2
     obtain ⟨x5_2, x6_2, x7_2, rfl, rfl, rfl, HA, HK2, HB⟩ := hrel
     cases gk with
     | zero => exact absurd HA.out (by simp [steeplelaw12_MerkleRows.l0])
     | succ k2 =>
      have H := HA.out
      clear HA
      simp only [steeplelaw12_MerkleRows.l0] at H
      by_cases c10 : x7_2 < (l0.length : Int)
      ·rw [if_pos c10] at H
       have c10b0 : decide (x7_2 < (l0.length : Int)) = true := decide_eq_true c10
       clear c10
       by_cases c11 : 0 ≤ x7_2
       ·rw [if_pos c11] at H
        have c11b0 : decide (0 ≤ x7_2) = true := decide_eq_true c11
        clear c11
        replace H := Option.bind_eq_some_iff.mp H
        obtain ⟨t561, A120, H⟩ := H
        replace H : (if t561 = true then (if x7_2 = 0 then (if 0 < (l0.length : Int) then (if x5_2 = true then (if ((rd_L1 l0 x7_2).length : Int) = ((rd_L1 l0 0).length : Int) then (if x7_2 < (wrap64 ((l0.length : Int) - 1)) then (if (((rd_L1 l0 0).length : Int) % 2) = 0 then (steeplelaw12_MerkleRows.l0 k2 l0 a1 true (wrap64 (((rd_L1 l0 0).length : Int) / 2)) (wrap64 (x7_2 + 1))) else (if ((rd_L1 l0 0).length : Int) = 1 then (steeplelaw12_MerkleRows.l0 k2 l0 a1 (x7_2 == (wrap64 ((l0.length : Int) - 1))) (wrap64 (((rd_L1 l0 0).length : Int) / 2)) (wrap64 (x7_2 + 1))) else (steeplelaw12_MerkleRows.l0 k2 l0 a1 false (wrap64 (((rd_L1 l0 0).length : Int) / 2)) (wrap64 (x7_2 + 1))))) else (if ((rd_L1 l0 0).length : Int) = 1 then (if (((rd_L1 l0 0).length : Int) % 2) = 0 then (steeplelaw12_MerkleRows.l0 k2 l0 a1 true (wrap64 (((rd_L1 l0 0).length : Int) / 2)) (wrap64 (x7_2 + 1))) else (steeplelaw12_MerkleRows.l0 k2 l0 a1 (x7_2 == (wrap64 ((l0.length : Int) - 1))) (wrap64 (((rd_L1 l0 0).length : Int) / 2)) (wrap64 (x7_2 + 1)))) else (steeplelaw12_MerkleRows.l0 k2 l0 a1 false (wrap64 (((rd_L1 l0 0).length : Int) / 2)) (wrap64 (x7_2 + 1))))) else (steeplelaw12_MerkleRows.l0 k2 l0 a1 false (wrap64 (((rd_L1 l0 0).length : Int) / 2)) (wrap64 (x7_2 + 1)))) else (steeplelaw12_MerkleRows.l0 k2 l0 a1 false (wrap64 (((rd_L1 l0 0).length : Int) / 2)) (wrap64 (x7_2 + 1)))) else (none)) else (if x5_2 = true then (if ((rd_L1 l0 x7_2).length : Int) = x6_2 then (if x7_2 < (wrap64 ((l0.length : Int) - 1)) then (if (Int.tmod x6_2 2) = 0 then (steeplelaw12_MerkleRows.l0 k2 l0 a1 true (wrap64 (Int.tdiv x6_2 2)) (wrap64 (x7_2 + 1))) else (if x6_2 = 1 then (steeplelaw12_MerkleRows.l0 k2 l0 a1 (x7_2 == (wrap64 ((l0.length : Int) - 1))) (wrap64 (Int.tdiv x6_2 2)) (wrap64 (x7_2 + 1))) else (steeplelaw12_MerkleRows.l0 k2 l0 a1 false (wrap64 (Int.tdiv x6_2 2)) (wrap64 (x7_2 + 1))))) else (if x6_2 = 1 then (if (Int.tmod x6_2 2) = 0 then (steeplelaw12_MerkleRows.l0 k2 l0 a1 true (wrap64 (Int.tdiv x6_2 2)) (wrap64 (x7_2 + 1))) else (steeplelaw12_MerkleRows.l0 k2 l0 a1 (x7_2 == (wrap64 ((l0.length : Int) - 1))) (wrap64 (Int.tdiv x6_2 2)) (wrap64 (x7_2 + 1)))) else (steeplelaw12_MerkleRows.l0 k2 l0 a1 false (wrap64 (Int.tdiv x6_2 2)) (wrap64 (x7_2 + 1))))) else (steeplelaw12_MerkleRows.l0 k2 l0 a1 false (wrap64 (Int.tdiv x6_2 2)) (wrap64 (x7_2 + 1)))) else (steeplelaw12_MerkleRows.l0 k2 l0 a1 false (wrap64 (Int.tdiv x6_2 2)) (wrap64 (x7_2 + 1))))) else (some true)) = some r := H
        have A12 := Aside0.mk A120
        clear A120
        by_cases c13 : t561 = true
        ·subst c13
         have H1 : (if x7_2 = 0 then (if 0 < (l0.length : Int) then (if x5_2 = true then (if ((rd_L1 l0 x7_2).length : Int) = ((rd_L1 l0 0).length : Int) then (if x7_2 < (wrap64 ((l0.length : Int) - 1)) then (if (((rd_L1 l0 0).length : Int) % 2) = 0 then (steeplelaw12_MerkleRows.l0 k2 l0 a1 true (wrap64 (((rd_L1 l0 0).length : Int) / 2)) (wrap64 (x7_2 + 1))) else (if ((rd_L1 l0 0).length : Int) = 1 then (steeplelaw12_MerkleRows.l0 k2 l0 a1 (x7_2 == (wrap64 ((l0.length : Int) - 1))) (wrap64 (((rd_L1 l0 0).length : Int) / 2)) (wrap64 (x7_2 + 1))) else (steeplelaw12_MerkleRows.l0 k2 l0 a1 false (wrap64 (((rd_L1 l0 0).length : Int) / 2)) (wrap64 (x7_2 + 1))))) else (if ((rd_L1 l0 0).length : Int) = 1 then (if (((rd_L1 l0 0).length : Int) % 2) = 0 then (steeplelaw12_MerkleRows.l0 k2 l0 a1 true (wrap64 (((rd_L1 l0 0).length : Int) / 2)) (wrap64 (x7_2 + 1))) else (steeplelaw12_MerkleRows.l0 k2 l0 a1 (x7_2 == (wrap64 ((l0.length : Int) - 1))) (wrap64 (((rd_L1 l0 0).length : Int) / 2)) (wrap64 (x7_2 + 1)))) else (steeplelaw12_MerkleRows.l0 k2 l0 a1 false (wrap64 (((rd_L1 l0 0).length : Int) / 2)) (wrap64 (x7_2 + 1))))) else (steeplelaw12_MerkleRows.l0 k2 l0 a1 false (wrap64 (((rd_L1 l0 0).length : Int) / 2)) (wrap64 (x7_2 + 1)))) else (steeplelaw12_MerkleRows.l0 k2 l0 a1 false (wrap64 (((rd_L1 l0 0).length : Int) / 2)) (wrap64 (x7_2 + 1)))) else (none)) else (if x5_2 = true then (if ((rd_L1 l0 x7_2).length : Int) = x6_2 then (if x7_2 < (wrap64 ((l0.length : Int) - 1)) then (if (Int.tmod x6_2 2) = 0 then (steeplelaw12_MerkleRows.l0 k2 l0 a1 true (wrap64 (Int.tdiv x6_2 2)) (wrap64 (x7_2 + 1))) else (if x6_2 = 1 then (steeplelaw12_MerkleRows.l0 k2 l0 a1 (x7_2 == (wrap64 ((l0.length : Int) - 1))) (wrap64 (Int.tdiv x6_2 2)) (wrap64 (x7_2 + 1))) else (steeplelaw12_MerkleRows.l0 k2 l0 a1 false (wrap64 (Int.tdiv x6_2 2)) (wrap64 (x7_2 + 1))))) else (if x6_2 = 1 then (if (Int.tmod x6_2 2) = 0 then (steeplelaw12_MerkleRows.l0 k2 l0 a1 true (wrap64 (Int.tdiv x6_2 2)) (wrap64 (x7_2 + 1))) else (steeplelaw12_MerkleRows.l0 k2 l0 a1 (x7_2 == (wrap64 ((l0.length : Int) - 1))) (wrap64 (Int.tdiv x6_2 2)) (wrap64 (x7_2 + 1)))) else (steeplelaw12_MerkleRows.l0 k2 l0 a1 false (wrap64 (Int.tdiv x6_2 2)) (wrap64 (x7_2 + 1))))) else (steeplelaw12_MerkleRows.l0 k2 l0 a1 false (wrap64 (Int.tdiv x6_2 2)) (wrap64 (x7_2 + 1)))) else (steeplelaw12_MerkleRows.l0 k2 l0 a1 false (wrap64 (Int.tdiv x6_2 2)) (wrap64 (x7_2 + 1))))) = some r := by rw [if_pos rfl] at H; exact H
         clear H
         have H := H1
         clear H1
         by_cases c14 : x7_2 = 0
         ·rw [if_pos c14] at H
          have c14b0 : (x7_2 == 0) = true := beq_iff_eq.mpr c14
          have c14b1 : (x7_2 != 0) = false := bne_eq_false_iff_eq.mpr c14
          clear c14
          by_cases c15 : 0 < (l0.length : Int)
          ·rw [if_pos c15] at H
           have c15b0 : decide (0 < (l0.length : Int)) = true := decide_eq_true c15
           have c15b1 : decide (0 < l0.length) = true := decide_eq_true (by omega)
           clear c15
           by_cases c16 : x5_2 = true
           ·subst c16
            have H1 : (if ((rd_L1 l0 x7_2).length : Int) = ((rd_L1 l0 0).length : Int) then (if x7_2 < (wrap64 ((l0.length : Int) - 1)) then (if (((rd_L1 l0 0).length : Int) % 2) = 0 then (steeplelaw12_MerkleRows.l0 k2 l0 a1 true (wrap64 (((rd_L1 l0 0).length : Int) / 2)) (wrap64 (x7_2 + 1))) else (if ((rd_L1 l0 0).length : Int) = 1 then (steeplelaw12_MerkleRows.l0 k2 l0 a1 (x7_2 == (wrap64 ((l0.length : Int) - 1))) (wrap64 (((rd_L1 l0 0).length : Int) / 2)) (wrap64 (x7_2 + 1))) else (steeplelaw12_MerkleRows.l0 k2 l0 a1 false (wrap64 (((rd_L1 l0 0).length : Int) / 2)) (wrap64 (x7_2 + 1))))) else (if ((rd_L1 l0 0).length : Int) = 1 then (if (((rd_L1 l0 0).length : Int) % 2) = 0 then (steeplelaw12_MerkleRows.l0 k2 l0 a1 true (wrap64 (((rd_L1 l0 0).length : Int) / 2)) (wrap64 (x7_2 + 1))) else (steeplelaw12_MerkleRows.l0 k2 l0 a1 (x7_2 == (wrap64 ((l0.length : Int) - 1))) (wrap64 (((rd_L1 l0 0).length : Int) / 2)) (wrap64 (x7_2 + 1)))) else (steeplelaw12_MerkleRows.l0 k2 l0 a1 false (wrap64 (((rd_L1 l0 0).length : Int) / 2)) (wrap64 (x7_2 + 1))))) else (steeplelaw12_MerkleRows.l0 k2 l0 a1 false (wrap64 (((rd_L1 l0 0).length : Int) / 2)) (wrap64 (x7_2 + 1)))) = some r := by rw [if_pos rfl] at H; exact H
            clear H
            have H := H1
            clear H1
            by_cases c17 : ((rd_L1 l0 x7_2).length : Int) = ((rd_L1 l0 0).length : Int)
            ·rw [if_pos c17] at H
             have c17b0 : (((rd_L1 l0 x7_2).length : Int) == ((rd_L1 l0 0).length : Int)) = true := beq_iff_eq.mpr c17
             have c17b1 : (((rd_L1 l0 x7_2).length : Int) != ((rd_L1 l0 0).length : Int)) = false := bne_eq_false_iff_eq.mpr c17
             have c17b2 : ((rd_L1 l0 x7_2).length == (rd_L1 l0 0).length) = true := by first | simpa using c17 | (simp at c17 ⊢; omega)
             clear c17
             by_cases c18 : x7_2 < (wrap64 ((l0.length : Int) - 1))
             ·rw [if_pos c18] at H
              have c18b0 : decide (x7_2 < (wrap64 ((l0.length : Int) - 1))) = true := decide_eq_true c18
              clear c18
              by_cases c19 : (((rd_L1 l0 0).length : Int) % 2) = 0
              ·rw [if_pos c19] at H
               have c19b0 : ((((rd_L1 l0 0).length : Int) % 2) == 0) = true := beq_iff_eq.mpr c19
               have c19b1 : ((((rd_L1 l0 0).length : Int) % 2) != 0) = false := bne_eq_false_iff_eq.mpr c19
               clear c19
               have H' := Aside0.mk H
               clear H
               have p560 : 0 ≤ (x7_2 : Int) := of_decide_eq_true (by first | (with_reducible assumption) | assumption)
               have q560 : x7_2 < (l0.length : Int) := of_decide_eq_true (by first | (with_reducible assumption) | assumption)
               obtain ⟨ad560, A560_0, c560_0, e560, hx560_0, hl560_0, hi560_0⟩ := at_L1 HR0.out x7_2 p560 q560
               cases e560
               replace hx560_0 := (HB.out.cell (World.block_lt_of_cell? w _ hx560_0)).trans hx560_0
               have HR560_0 := Aside0.mk hi560_0
               have HC560_0 := Aside0.mk hl560_0
               clear hi560_0 hl560_0
               replace p560 := eq_true p560
               replace q560 := eq_true q560
               go_wp2_with (first | (go_at_call 9; (with_reducible refine (steeplelaw01_Few.calls k2 _ _ (rd_L1 l0 x7_2) 20 40 true _ ?side1 ?side2 A12.out).mono ?_); (case side1 => repeat (first | exact (Kd.C_below HR560_0.out HB.out) | (with_reducible refine Kd.C_alloc ?_ _) | (with_reducible refine Kd.C_drewN ?_ _) | (with_reducible refine Kd.C_drew ?_))); (case side2 => exact HC560_0.out); rintro e w' ⟨rfl, ⟨nd, rfl⟩⟩; (try first | exact ⟨rfl, _, World.drewN_drewN _ _ _⟩ | exact ⟨rfl, _, Eq.trans (World.drewN_drewN _ _ _) (congrArg (World.drewN _) (Nat.add_assoc _ _ _))⟩); have p562 : 0 ≤ (0 : Int) := (by omega); have q562 : 0 < (l0.length : Int) := of_decide_eq_true (by first | (with_reducible assumption) | assumption); obtain ⟨ad562, A562_0, c562_0, e562, hx562_0, hl562_0, hi562_0⟩ := at_L1 HR0.out 0 p562 q562; obtain rfl : ad560 = ad562 := (by injection e562); have qi562 : (0 < l0.length) = True := eq_true (by omega); (try rw [show ((0 : Int)).toNat = 0 from rfl] at hx562_0); (try rw [Addr.add_zero'] at hx562_0); replace hx562_0 := (HB.out.cell (World.block_lt_of_cell? w _ hx562_0)).trans hx562_0; have HR562_0 := Aside0.mk hi562_0; have HC562_0 := Aside0.mk hl562_0; clear hi562_0 hl562_0; replace p562 := eq_true p562; replace q562 := eq_true q562; have p563 : 0 ≤ (x7_2 : Int) := of_decide_eq_true (by first | (with_reducible assumption) | assumption); have q563 : x7_2 < (l0.length : Int) := of_decide_eq_true (by first | (with_reducible assumption) | assumption); obtain ⟨ad563, A563_0, c563_0, e563, hx563_0, hl563_0, hi563_0⟩ := at_L1 HR0.out x7_2 p563 q563; obtain rfl : ad560 = ad563 := (by injection e563); replace hx563_0 := (HB.out.cell (World.block_lt_of_cell? w _ hx563_0)).trans hx563_0; have HR563_0 := Aside0.mk hi563_0; have HC563_0 := Aside0.mk hl563_0; clear hi563_0 hl563_0; replace p563 := eq_true p563; replace q563 := eq_true q563; have ea_ := Option.some.inj (hx560_0.symm.trans hx563_0); injection ea_ with ea_ en_ ec_; subst ea_; subst ec_; clear en_))
               repeat (go_quiet (first | (go_at_call 9; (with_reducible refine (steeplelaw01_Few.calls k2 _ _ (rd_L1 l0 x7_2) 20 40 true _ ?side1 ?side2 A12.out).mono ?_); (case side1 => repeat (first | exact (Kd.C_below HR560_0.out HB.out) | (with_reducible refine Kd.C_alloc ?_ _) | (with_reducible refine Kd.C_drewN ?_ _) | (with_reducible refine Kd.C_drew ?_))); (case side2 => exact HC560_0.out); rintro e w' ⟨rfl, ⟨nd, rfl⟩⟩; (try first | exact ⟨rfl, _, World.drewN_drewN _ _ _⟩ | exact ⟨rfl, _, Eq.trans (World.drewN_drewN _ _ _) (congrArg (World.drewN _) (Nat.add_assoc _ _ _))⟩); have p562 : 0 ≤ (0 : Int) := (by omega); have q562 : 0 < (l0.length : Int) := of_decide_eq_true (by first | (with_reducible assumption) | assumption); obtain ⟨ad562, A562_0, c562_0, e562, hx562_0, hl562_0, hi562_0⟩ := at_L1 HR0.out 0 p562 q562; obtain rfl : ad560 = ad562 := (by injection e562); have qi562 : (0 < l0.length) = True := eq_true (by omega); (try rw [show ((0 : Int)).toNat = 0 from rfl] at hx562_0); (try rw [Addr.add_zero'] at hx562_0); replace hx562_0 := (HB.out.cell (World.block_lt_of_cell? w _ hx562_0)).trans hx562_0; have HR562_0 := Aside0.mk hi562_0; have HC562_0 := Aside0.mk hl562_0; clear hi562_0 hl562_0; replace p562 := eq_true p562; replace q562 := eq_true q562; have p563 : 0 ≤ (x7_2 : Int) := of_decide_eq_true (by first | (with_reducible assumption) | assumption); have q563 : x7_2 < (l0.length : Int) := of_decide_eq_true (by first | (with_reducible assumption) | assumption); obtain ⟨ad563, A563_0, c563_0, e563, hx563_0, hl563_0, hi563_0⟩ := at_L1 HR0.out x7_2 p563 q563; obtain rfl : ad560 = ad563 := (by injection e563); replace hx563_0 := (HB.out.cell (World.block_lt_of_cell? w _ hx563_0)).trans hx563_0; have HR563_0 := Aside0.mk hi563_0; have HC563_0 := Aside0.mk hl563_0; clear hi563_0 hl563_0; replace p563 := eq_true p563; replace q563 := eq_true q563; have ea_ := Option.some.inj (hx560_0.symm.trans hx563_0); injection ea_ with ea_ en_ ec_; subst ea_; subst ec_; clear en_)); try go_wp2_with (first | (go_at_call 9; (with_reducible refine (steeplelaw01_Few.calls k2 _ _ (rd_L1 l0 x7_2) 20 40 true _ ?side1 ?side2 A12.out).mono ?_); (case side1 => repeat (first | exact (Kd.C_below HR560_0.out HB.out) | (with_reducible refine Kd.C_alloc ?_ _) | (with_reducible refine Kd.C_drewN ?_ _) | (with_reducible refine Kd.C_drew ?_))); (case side2 => exact HC560_0.out); rintro e w' ⟨rfl, ⟨nd, rfl⟩⟩; (try first | exact ⟨rfl, _, World.drewN_drewN _ _ _⟩ | exact ⟨rfl, _, Eq.trans (World.drewN_drewN _ _ _) (congrArg (World.drewN _) (Nat.add_assoc _ _ _))⟩); have p562 : 0 ≤ (0 : Int) := (by omega); have q562 : 0 < (l0.length : Int) := of_decide_eq_true (by first | (with_reducible assumption) | assumption); obtain ⟨ad562, A562_0, c562_0, e562, hx562_0, hl562_0, hi562_0⟩ := at_L1 HR0.out 0 p562 q562; obtain rfl : ad560 = ad562 := (by injection e562); have qi562 : (0 < l0.length) = True := eq_true (by omega); (try rw [show ((0 : Int)).toNat = 0 from rfl] at hx562_0); (try rw [Addr.add_zero'] at hx562_0); replace hx562_0 := (HB.out.cell (World.block_lt_of_cell? w _ hx562_0)).trans hx562_0; have HR562_0 := Aside0.mk hi562_0; have HC562_0 := Aside0.mk hl562_0; clear hi562_0 hl562_0; replace p562 := eq_true p562; replace q562 := eq_true q562; have p563 : 0 ≤ (x7_2 : Int) := of_decide_eq_true (by first | (with_reducible assumption) | assumption); have q563 : x7_2 < (l0.length : Int) := of_decide_eq_true (by first | (with_reducible assumption) | assumption); obtain ⟨ad563, A563_0, c563_0, e563, hx563_0, hl563_0, hi563_0⟩ := at_L1 HR0.out x7_2 p563 q563; obtain rfl : ad560 = ad563 := (by injection e563); replace hx563_0 := (HB.out.cell (World.block_lt_of_cell? w _ hx563_0)).trans hx563_0; have HR563_0 := Aside0.mk hi563_0; have HC563_0 := Aside0.mk hl563_0; clear hi563_0 hl563_0; replace p563 := eq_true p563; replace q563 := eq_true q563; have ea_ := Option.some.inj (hx560_0.symm.trans hx563_0); injection ea_ with ea_ en_ ec_; subst ea_; subst ec_; clear en_)))
               go_roundg k2
               case measure => have := HJ2.out; have := HK2.out; omega
               case rel => exact ⟨(true), (wrap64 (((rd_L1 l0 0).length : Int) / 2)), (wrap64 (x7_2 + 1)), (by first | rfl | (simp; done) | (simp [*]; done)), (by first | rfl | (simp; done) | (simp [*]; done)), (by first | rfl | (simp; done) | (simp [*]; done)), H', ⟨by have := HJ2.out; have := HK2.out; omega⟩, ⟨bq HB.out⟩⟩
              ·rw [if_neg c19] at H
               have c19b0 : ((((rd_L1 l0 0).length : Int) % 2) == 0) = false := beq_eq_false_iff_ne.mpr c19
               have c19b1 : ((((rd_L1 l0 0).length : Int) % 2) != 0) = true := bne_iff_ne.mpr c19
               by_cases c20 : ((rd_L1 l0 0).length : Int) = 1
               ·rw [if_pos c20] at H
                have c20b0 : (((rd_L1 l0 0).length : Int) == 1) = true := beq_iff_eq.mpr c20
                have c20b1 : (((rd_L1 l0 0).length : Int) != 1) = false := bne_eq_false_iff_eq.mpr c20
                clear c20
                have H' := Aside0.mk H
                clear H
                have p560 : 0 ≤ (x7_2 : Int) := of_decide_eq_true (by first | (with_reducible assumption) | assumption)
                have q560 : x7_2 < (l0.length : Int) := of_decide_eq_true (by first | (with_reducible assumption) | assumption)
                obtain ⟨ad560, A560_0, c560_0, e560, hx560_0, hl560_0, hi560_0⟩ := at_L1 HR0.out x7_2 p560 q560
                cases e560
                replace hx560_0 := (HB.out.cell (World.block_lt_of_cell? w _ hx560_0)).trans hx560_0
                have HR560_0 := Aside0.mk hi560_0
                have HC560_0 := Aside0.mk hl560_0
                clear hi560_0 hl560_0
                replace p560 := eq_true p560
                replace q560 := eq_true q560
                go_wp2_with (first | (go_at_call 9; (with_reducible refine (steeplelaw01_Few.calls k2 _ _ (rd_L1 l0 x7_2) 20 40 true _ ?side1 ?side2 A12.out).mono ?_); (case side1 => repeat (first | exact (Kd.C_below HR560_0.out HB.out) | (with_reducible refine Kd.C_alloc ?_ _) | (with_reducible refine Kd.C_drewN ?_ _) | (with_reducible refine Kd.C_drew ?_))); (case side2 => exact HC560_0.out); rintro e w' ⟨rfl, ⟨nd, rfl⟩⟩; (try first | exact ⟨rfl, _, World.drewN_drewN _ _ _⟩ | exact ⟨rfl, _, Eq.trans (World.drewN_drewN _ _ _) (congrArg (World.drewN _) (Nat.add_assoc _ _ _))⟩); have p562 : 0 ≤ (0 : Int) := (by omega); have q562 : 0 < (l0.length : Int) := of_decide_eq_true (by first | (with_reducible assumption) | assumption); obtain ⟨ad562, A562_0, c562_0, e562, hx562_0, hl562_0, hi562_0⟩ := at_L1 HR0.out 0 p562 q562; obtain rfl : ad560 = ad562 := (by injection e562); have qi562 : (0 < l0.length) = True := eq_true (by omega); (try rw [show ((0 : Int)).toNat = 0 from rfl] at hx562_0); (try rw [Addr.add_zero'] at hx562_0); replace hx562_0 := (HB.out.cell (World.block_lt_of_cell? w _ hx562_0)).trans hx562_0; have HR562_0 := Aside0.mk hi562_0; have HC562_0 := Aside0.mk hl562_0; clear hi562_0 hl562_0; replace p562 := eq_true p562; replace q562 := eq_true q562; have p563 : 0 ≤ (x7_2 : Int) := of_decide_eq_true (by first | (with_reducible assumption) | assumption); have q563 : x7_2 < (l0.length : Int) := of_decide_eq_true (by first | (with_reducible assumption) | assumption); obtain ⟨ad563, A563_0, c563_0, e563, hx563_0, hl563_0, hi563_0⟩ := at_L1 HR0.out x7_2 p563 q563; obtain rfl : ad560 = ad563 := (by injection e563); replace hx563_0 := (HB.out.cell (World.block_lt_of_cell? w _ hx563_0)).trans hx563_0; have HR563_0 := Aside0.mk hi563_0; have HC563_0 := Aside0.mk hl563_0; clear hi563_0 hl563_0; replace p563 := eq_true p563; replace q563 := eq_true q563; have ea_ := Option.some.inj (hx560_0.symm.trans hx563_0); injection ea_ with ea_ en_ ec_; subst ea_; subst ec_; clear en_))
                repeat (go_quiet (first | (go_at_call 9; (with_reducible refine (steeplelaw01_Few.calls k2 _ _ (rd_L1 l0 x7_2) 20 40 true _ ?side1 ?side2 A12.out).mono ?_); (case side1 => repeat (first | exact (Kd.C_below HR560_0.out HB.out) | (with_reducible refine Kd.C_alloc ?_ _) | (with_reducible refine Kd.C_drewN ?_ _) | (with_reducible refine Kd.C_drew ?_))); (case side2 => exact HC560_0.out); rintro e w' ⟨rfl, ⟨nd, rfl⟩⟩; (try first | exact ⟨rfl, _, World.drewN_drewN _ _ _⟩ | exact ⟨rfl, _, Eq.trans (World.drewN_drewN _ _ _) (congrArg (World.drewN _) (Nat.add_assoc _ _ _))⟩); have p562 : 0 ≤ (0 : Int) := (by omega); have q562 : 0 < (l0.length : Int) := of_decide_eq_true (by first | (with_reducible assumption) | assumption); obtain ⟨ad562, A562_0, c562_0, e562, hx562_0, hl562_0, hi562_0⟩ := at_L1 HR0.out 0 p562 q562; obtain rfl : ad560 = ad562 := (by injection e562); have qi562 : (0 < l0.length) = True := eq_true (by omega); (try rw [show ((0 : Int)).toNat = 0 from rfl] at hx562_0); (try rw [Addr.add_zero'] at hx562_0); replace hx562_0 := (HB.out.cell (World.block_lt_of_cell? w _ hx562_0)).trans hx562_0; have HR562_0 := Aside0.mk hi562_0; have HC562_0 := Aside0.mk hl562_0; clear hi562_0 hl562_0; replace p562 := eq_true p562; replace q562 := eq_true q562; have p563 : 0 ≤ (x7_2 : Int) := of_decide_eq_true (by first | (with_reducible assumption) | assumption); have q563 : x7_2 < (l0.length : Int) := of_decide_eq_true (by first | (with_reducible assumption) | assumption); obtain ⟨ad563, A563_0, c563_0, e563, hx563_0, hl563_0, hi563_0⟩ := at_L1 HR0.out x7_2 p563 q563; obtain rfl : ad560 = ad563 := (by injection e563); replace hx563_0 := (HB.out.cell (World.block_lt_of_cell? w _ hx563_0)).trans hx563_0; have HR563_0 := Aside0.mk hi563_0; have HC563_0 := Aside0.mk hl563_0; clear hi563_0 hl563_0; replace p563 := eq_true p563; replace q563 := eq_true q563; have ea_ := Option.some.inj (hx560_0.symm.trans hx563_0); injection ea_ with ea_ en_ ec_; subst ea_; subst ec_; clear en_)); try go_wp2_with (first | (go_at_call 9; (with_reducible refine (steeplelaw01_Few.calls k2 _ _ (rd_L1 l0 x7_2) 20 40 true _ ?side1 ?side2 A12.out).mono ?_); (case side1 => repeat (first | exact (Kd.C_below HR560_0.out HB.out) | (with_reducible refine Kd.C_alloc ?_ _) | (with_reducible refine Kd.C_drewN ?_ _) | (with_reducible refine Kd.C_drew ?_))); (case side2 => exact HC560_0.out); rintro e w' ⟨rfl, ⟨nd, rfl⟩⟩; (try first | exact ⟨rfl, _, World.drewN_drewN _ _ _⟩ | exact ⟨rfl, _, Eq.trans (World.drewN_drewN _ _ _) (congrArg (World.drewN _) (Nat.add_assoc _ _ _))⟩); have p562 : 0 ≤ (0 : Int) := (by omega); have q562 : 0 < (l0.length : Int) := of_decide_eq_true (by first | (with_reducible assumption) | assumption); obtain ⟨ad562, A562_0, c562_0, e562, hx562_0, hl562_0, hi562_0⟩ := at_L1 HR0.out 0 p562 q562; obtain rfl : ad560 = ad562 := (by injection e562); have qi562 : (0 < l0.length) = True := eq_true (by omega); (try rw [show ((0 : Int)).toNat = 0 from rfl] at hx562_0); (try rw [Addr.add_zero'] at hx562_0); replace hx562_0 := (HB.out.cell (World.block_lt_of_cell? w _ hx562_0)).trans hx562_0; have HR562_0 := Aside0.mk hi562_0; have HC562_0 := Aside0.mk hl562_0; clear hi562_0 hl562_0; replace p562 := eq_true p562; replace q562 := eq_true q562; have p563 : 0 ≤ (x7_2 : Int) := of_decide_eq_true (by first | (with_reducible assumption) | assumption); have q563 : x7_2 < (l0.length : Int) := of_decide_eq_true (by first | (with_reducible assumption) | assumption); obtain ⟨ad563, A563_0, c563_0, e563, hx563_0, hl563_0, hi563_0⟩ := at_L1 HR0.out x7_2 p563 q563; obtain rfl : ad560 = ad563 := (by injection e563); replace hx563_0 := (HB.out.cell (World.block_lt_of_cell? w _ hx563_0)).trans hx563_0; have HR563_0 := Aside0.mk hi563_0; have HC563_0 := Aside0.mk hl563_0; clear hi563_0 hl563_0; replace p563 := eq_true p563; replace q563 := eq_true q563; have ea_ := Option.some.inj (hx560_0.symm.trans hx563_0); injection ea_ with ea_ en_ ec_; subst ea_; subst ec_; clear en_)))
                go_roundg k2
                case measure => have := HJ2.out; have := HK2.out; omega
                case rel => exact ⟨((x7_2 == (wrap64 ((l0.length : Int) - 1)))), (wrap64 (((rd_L1 l0 0).length : Int) / 2)), (wrap64 (x7_2 + 1)), (by first | rfl | (simp; done) | (simp [*]; done)), (by first | rfl | (simp; done) | (simp [*]; done)), (by first | rfl | (simp; done) | (simp [*]; done)), H', ⟨by have := HJ2.out; have := HK2.out; omega⟩, ⟨bq HB.out⟩⟩
               ·rw [if_neg c20] at H
                have c20b0 : (((rd_L1 l0 0).length : Int) == 1) = false := beq_eq_false_iff_ne.mpr c20
                have c20b1 : (((rd_L1 l0 0).length : Int) != 1) = true := bne_iff_ne.mpr c20
                have H' := Aside0.mk H
                clear H
                have p560 : 0 ≤ (x7_2 : Int) := of_decide_eq_true (by first | (with_reducible assumption) | assumption)
                have q560 : x7_2 < (l0.length : Int) := of_decide_eq_true (by first | (with_reducible assumption) | assumption)
                obtain ⟨ad560, A560_0, c560_0, e560, hx560_0, hl560_0, hi560_0⟩ := at_L1 HR0.out x7_2 p560 q560
                cases e560
                replace hx560_0 := (HB.out.cell (World.block_lt_of_cell? w _ hx560_0)).trans hx560_0
                have HR560_0 := Aside0.mk hi560_0
                have HC560_0 := Aside0.mk hl560_0
                clear hi560_0 hl560_0
                replace p560 := eq_true p560
                replace q560 := eq_true q560
                go_wp2_with (first | (go_at_call 9; (with_reducible refine (steeplelaw01_Few.calls k2 _ _ (rd_L1 l0 x7_2) 20 40 true _ ?side1 ?side2 A12.out).mono ?_); (case side1 => repeat (first | exact (Kd.C_below HR560_0.out HB.out) | (with_reducible refine Kd.C_alloc ?_ _) | (with_reducible refine Kd.C_drewN ?_ _) | (with_reducible refine Kd.C_drew ?_))); (case side2 => exact HC560_0.out); rintro e w' ⟨rfl, ⟨nd, rfl⟩⟩; (try first | exact ⟨rfl, _, World.drewN_drewN _ _ _⟩ | exact ⟨rfl, _, Eq.trans (World.drewN_drewN _ _ _) (congrArg (World.drewN _) (Nat.add_assoc _ _ _))⟩); have p562 : 0 ≤ (0 : Int) := (by omega); have q562 : 0 < (l0.length : Int) := of_decide_eq_true (by first | (with_reducible assumption) | assumption); obtain ⟨ad562, A562_0, c562_0, e562, hx562_0, hl562_0, hi562_0⟩ := at_L1 HR0.out 0 p562 q562; obtain rfl : ad560 = ad562 := (by injection e562); have qi562 : (0 < l0.length) = True := eq_true (by omega); (try rw [show ((0 : Int)).toNat = 0 from rfl] at hx562_0); (try rw [Addr.add_zero'] at hx562_0); replace hx562_0 := (HB.out.cell (World.block_lt_of_cell? w _ hx562_0)).trans hx562_0; have HR562_0 := Aside0.mk hi562_0; have HC562_0 := Aside0.mk hl562_0; clear hi562_0 hl562_0; replace p562 := eq_true p562; replace q562 := eq_true q562; have p563 : 0 ≤ (x7_2 : Int) := of_decide_eq_true (by first | (with_reducible assumption) | assumption); have q563 : x7_2 < (l0.length : Int) := of_decide_eq_true (by first | (with_reducible assumption) | assumption); obtain ⟨ad563, A563_0, c563_0, e563, hx563_0, hl563_0, hi563_0⟩ := at_L1 HR0.out x7_2 p563 q563; obtain rfl : ad560 = ad563 := (by injection e563); replace hx563_0 := (HB.out.cell (World.block_lt_of_cell? w _ hx563_0)).trans hx563_0; have HR563_0 := Aside0.mk hi563_0; have HC563_0 := Aside0.mk hl563_0; clear hi563_0 hl563_0; replace p563 := eq_true p563; replace q563 := eq_true q563; have ea_ := Option.some.inj (hx560_0.symm.trans hx563_0); injection ea_ with ea_ en_ ec_; subst ea_; subst ec_; clear en_))
                repeat (go_quiet (first | (go_at_call 9; (with_reducible refine (steeplelaw01_Few.calls k2 _ _ (rd_L1 l0 x7_2) 20 40 true _ ?side1 ?side2 A12.out).mono ?_); (case side1 => repeat (first | exact (Kd.C_below HR560_0.out HB.out) | (with_reducible refine Kd.C_alloc ?_ _) | (with_reducible refine Kd.C_drewN ?_ _) | (with_reducible refine Kd.C_drew ?_))); (case side2 => exact HC560_0.out); rintro e w' ⟨rfl, ⟨nd, rfl⟩⟩; (try first | exact ⟨rfl, _, World.drewN_drewN _ _ _⟩ | exact ⟨rfl, _, Eq.trans (World.drewN_drewN _ _ _) (congrArg (World.drewN _) (Nat.add_assoc _ _ _))⟩); have p562 : 0 ≤ (0 : Int) := (by omega); have q562 : 0 < (l0.length : Int) := of_decide_eq_true (by first | (with_reducible assumption) | assumption); obtain ⟨ad562, A562_0, c562_0, e562, hx562_0, hl562_0, hi562_0⟩ := at_L1 HR0.out 0 p562 q562; obtain rfl : ad560 = ad562 := (by injection e562); have qi562 : (0 < l0.length) = True := eq_true (by omega); (try rw [show ((0 : Int)).toNat = 0 from rfl] at hx562_0); (try rw [Addr.add_zero'] at hx562_0); replace hx562_0 := (HB.out.cell (World.block_lt_of_cell? w _ hx562_0)).trans hx562_0; have HR562_0 := Aside0.mk hi562_0; have HC562_0 := Aside0.mk hl562_0; clear hi562_0 hl562_0; replace p562 := eq_true p562; replace q562 := eq_true q562; have p563 : 0 ≤ (x7_2 : Int) := of_decide_eq_true (by first | (with_reducible assumption) | assumption); have q563 : x7_2 < (l0.length : Int) := of_decide_eq_true (by first | (with_reducible assumption) | assumption); obtain ⟨ad563, A563_0, c563_0, e563, hx563_0, hl563_0, hi563_0⟩ := at_L1 HR0.out x7_2 p563 q563; obtain rfl : ad560 = ad563 := (by injection e563); replace hx563_0 := (HB.out.cell (World.block_lt_of_cell? w _ hx563_0)).trans hx563_0; have HR563_0 := Aside0.mk hi563_0; have HC563_0 := Aside0.mk hl563_0; clear hi563_0 hl563_0; replace p563 := eq_true p563; replace q563 := eq_true q563; have ea_ := Option.some.inj (hx560_0.symm.trans hx563_0); injection ea_ with ea_ en_ ec_; subst ea_; subst ec_; clear en_)); try go_wp2_with (first | (go_at_call 9; (with_reducible refine (steeplelaw01_Few.calls k2 _ _ (rd_L1 l0 x7_2) 20 40 true _ ?side1 ?side2 A12.out).mono ?_); (case side1 => repeat (first | exact (Kd.C_below HR560_0.out HB.out) | (with_reducible refine Kd.C_alloc ?_ _) | (with_reducible refine Kd.C_drewN ?_ _) | (with_reducible refine Kd.C_drew ?_))); (case side2 => exact HC560_0.out); rintro e w' ⟨rfl, ⟨nd, rfl⟩⟩; (try first | exact ⟨rfl, _, World.drewN_drewN _ _ _⟩ | exact ⟨rfl, _, Eq.trans (World.drewN_drewN _ _ _) (congrArg (World.drewN _) (Nat.add_assoc _ _ _))⟩); have p562 : 0 ≤ (0 : Int) := (by omega); have q562 : 0 < (l0.length : Int) := of_decide_eq_true (by first | (with_reducible assumption) | assumption); obtain ⟨ad562, A562_0, c562_0, e562, hx562_0, hl562_0, hi562_0⟩ := at_L1 HR0.out 0 p562 q562; obtain rfl : ad560 = ad562 := (by injection e562); have qi562 : (0 < l0.length) = True := eq_true (by omega); (try rw [show ((0 : Int)).toNat = 0 from rfl] at hx562_0); (try rw [Addr.add_zero'] at hx562_0); replace hx562_0 := (HB.out.cell (World.block_lt_of_cell? w _ hx562_0)).trans hx562_0; have HR562_0 := Aside0.mk hi562_0; have HC562_0 := Aside0.mk hl562_0; clear hi562_0 hl562_0; replace p562 := eq_true p562; replace q562 := eq_true q562; have p563 : 0 ≤ (x7_2 : Int) := of_decide_eq_true (by first | (with_reducible assumption) | assumption); have q563 : x7_2 < (l0.length : Int) := of_decide_eq_true (by first | (with_reducible assumption) | assumption); obtain ⟨ad563, A563_0, c563_0, e563, hx563_0, hl563_0, hi563_0⟩ := at_L1 HR0.out x7_2 p563 q563; obtain rfl : ad560 = ad563 := (by injection e563); replace hx563_0 := (HB.out.cell (World.block_lt_of_cell? w _ hx563_0)).trans hx563_0; have HR563_0 := Aside0.mk hi563_0; have HC563_0 := Aside0.mk hl563_0; clear hi563_0 hl563_0; replace p563 := eq_true p563; replace q563 := eq_true q563; have ea_ := Option.some.inj (hx560_0.symm.trans hx563_0); injection ea_ with ea_ en_ ec_; subst ea_; subst ec_; clear en_)))
                go_roundg k2
                case measure => have := HJ2.out; have := HK2.out; omega
                case rel => exact ⟨(false), (wrap64 (((rd_L1 l0 0).length : Int) / 2)), (wrap64 (x7_2 + 1)), (by first | rfl | (simp; done) | (simp [*]; done)), (by first | rfl | (simp; done) | (simp [*]; done)), (by first | rfl | (simp; done) | (simp [*]; done)), H', ⟨by have := HJ2.out; have := HK2.out; omega⟩, ⟨bq HB.out⟩⟩
             ·rw [if_neg c18] at H
              have c18b0 : decide (x7_2 < (wrap64 ((l0.length : Int) - 1))) = false := decide_eq_false c18
              clear c18
              by_cases c21 : ((rd_L1 l0 0).length : Int) = 1
              ·rw [if_pos c21] at H
               have c21b0 : (((rd_L1 l0 0).length : Int) == 1) = true := beq_iff_eq.mpr c21
               have c21b1 : (((rd_L1 l0 0).length : Int) != 1) = false := bne_eq_false_iff_eq.mpr c21
               clear c21
               by_cases c22 : (((rd_L1 l0 0).length : Int) % 2) = 0
               ·rw [if_pos c22] at H
                have c22b0 : ((((rd_L1 l0 0).length : Int) % 2) == 0) = true := beq_iff_eq.mpr c22
                have c22b1 : ((((rd_L1 l0 0).length : Int) % 2) != 0) = false := bne_eq_false_iff_eq.mpr c22
                clear c22
                have H' := Aside0.mk H
                clear H
                have p560 : 0 ≤ (x7_2 : Int) := of_decide_eq_true (by first | (with_reducible assumption) | assumption)
                have q560 : x7_2 < (l0.length : Int) := of_decide_eq_true (by first | (with_reducible assumption) | assumption)
                obtain ⟨ad560, A560_0, c560_0, e560, hx560_0, hl560_0, hi560_0⟩ := at_L1 HR0.out x7_2 p560 q560
                cases e560
                replace hx560_0 := (HB.out.cell (World.block_lt_of_cell? w _ hx560_0)).trans hx560_0
                have HR560_0 := Aside0.mk hi560_0
                have HC560_0 := Aside0.mk hl560_0
                clear hi560_0 hl560_0
                replace p560 := eq_true p560
                replace q560 := eq_true q560
                go_wp2_with (first | (go_at_call 9; (with_reducible refine (steeplelaw01_Few.calls k2 _ _ (rd_L1 l0 x7_2) 20 40 true _ ?side1 ?side2 A12.out).mono ?_); (case side1 => repeat (first | exact (Kd.C_below HR560_0.out HB.out) | (with_reducible refine Kd.C_alloc ?_ _) | (with_reducible refine Kd.C_drewN ?_ _) | (with_reducible refine Kd.C_drew ?_))); (case side2 => exact HC560_0.out); rintro e w' ⟨rfl, ⟨nd, rfl⟩⟩; (try first | exact ⟨rfl, _, World.drewN_drewN _ _ _⟩ | exact ⟨rfl, _, Eq.trans (World.drewN_drewN _ _ _) (congrArg (World.drewN _) (Nat.add_assoc _ _ _))⟩); have p562 : 0 ≤ (0 : Int) := (by omega); have q562 : 0 < (l0.length : Int) := of_decide_eq_true (by first | (with_reducible assumption) | assumption); obtain ⟨ad562, A562_0, c562_0, e562, hx562_0, hl562_0, hi562_0⟩ := at_L1 HR0.out 0 p562 q562; obtain rfl : ad560 = ad562 := (by injection e562); have qi562 : (0 < l0.length) = True := eq_true (by omega); (try rw [show ((0 : Int)).toNat = 0 from rfl] at hx562_0); (try rw [Addr.add_zero'] at hx562_0); replace hx562_0 := (HB.out.cell (World.block_lt_of_cell? w _ hx562_0)).trans hx562_0; have HR562_0 := Aside0.mk hi562_0; have HC562_0 := Aside0.mk hl562_0; clear hi562_0 hl562_0; replace p562 := eq_true p562; replace q562 := eq_true q562; have p563 : 0 ≤ (x7_2 : Int) := of_decide_eq_true (by first | (with_reducible assumption) | assumption); have q563 : x7_2 < (l0.length : Int) := of_decide_eq_true (by first | (with_reducible assumption) | assumption); obtain ⟨ad563, A563_0, c563_0, e563, hx563_0, hl563_0, hi563_0⟩ := at_L1 HR0.out x7_2 p563 q563; obtain rfl : ad560 = ad563 := (by injection e563); replace hx563_0 := (HB.out.cell (World.block_lt_of_cell? w _ hx563_0)).trans hx563_0; have HR563_0 := Aside0.mk hi563_0; have HC563_0 := Aside0.mk hl563_0; clear hi563_0 hl563_0; replace p563 := eq_true p563; replace q563 := eq_true q563; have ea_ := Option.some.inj (hx560_0.symm.trans hx563_0); injection ea_ with ea_ en_ ec_; subst ea_; subst ec_; clear en_))
                repeat (go_quiet (first | (go_at_call 9; (with_reducible refine (steeplelaw01_Few.calls k2 _ _ (rd_L1 l0 x7_2) 20 40 true _ ?side1 ?side2 A12.out).mono ?_); (case side1 => repeat (first | exact (Kd.C_below HR560_0.out HB.out) | (with_reducible refine Kd.C_alloc ?_ _) | (with_reducible refine Kd.C_drewN ?_ _) | (with_reducible refine Kd.C_drew ?_))); (case side2 => exact HC560_0.out); rintro e w' ⟨rfl, ⟨nd, rfl⟩⟩; (try first | exact ⟨rfl, _, World.drewN_drewN _ _ _⟩ | exact ⟨rfl, _, Eq.trans (World.drewN_drewN _ _ _) (congrArg (World.drewN _) (Nat.add_assoc _ _ _))⟩); have p562 : 0 ≤ (0 : Int) := (by omega); have q562 : 0 < (l0.length : Int) := of_decide_eq_true (by first | (with_reducible assumption) | assumption); obtain ⟨ad562, A562_0, c562_0, e562, hx562_0, hl562_0, hi562_0⟩ := at_L1 HR0.out 0 p562 q562; obtain rfl : ad560 = ad562 := (by injection e562); have qi562 : (0 < l0.length) = True := eq_true (by omega); (try rw [show ((0 : Int)).toNat = 0 from rfl] at hx562_0); (try rw [Addr.add_zero'] at hx562_0); replace hx562_0 := (HB.out.cell (World.block_lt_of_cell? w _ hx562_0)).trans hx562_0; have HR562_0 := Aside0.mk hi562_0; have HC562_0 := Aside0.mk hl562_0; clear hi562_0 hl562_0; replace p562 := eq_true p562; replace q562 := eq_true q562; have p563 : 0 ≤ (x7_2 : Int) := of_decide_eq_true (by first | (with_reducible assumption) | assumption); have q563 : x7_2 < (l0.length : Int) := of_decide_eq_true (by first | (with_reducible assumption) | assumption); obtain ⟨ad563, A563_0, c563_0, e563, hx563_0, hl563_0, hi563_0⟩ := at_L1 HR0.out x7_2 p563 q563; obtain rfl : ad560 = ad563 := (by injection e563); replace hx563_0 := (HB.out.cell (World.block_lt_of_cell? w _ hx563_0)).trans hx563_0; have HR563_0 := Aside0.mk hi563_0; have HC563_0 := Aside0.mk hl563_0; clear hi563_0 hl563_0; replace p563 := eq_true p563; replace q563 := eq_true q563; have ea_ := Option.some.inj (hx560_0.symm.trans hx563_0); injection ea_ with ea_ en_ ec_; subst ea_; subst ec_; clear en_)); try go_wp2_with (first | (go_at_call 9; (with_reducible refine (steeplelaw01_Few.calls k2 _ _ (rd_L1 l0 x7_2) 20 40 true _ ?side1 ?side2 A12.out).mono ?_); (case side1 => repeat (first | exact (Kd.C_below HR560_0.out HB.out) | (with_reducible refine Kd.C_alloc ?_ _) | (with_reducible refine Kd.C_drewN ?_ _) | (with_reducible refine Kd.C_drew ?_))); (case side2 => exact HC560_0.out); rintro e w' ⟨rfl, ⟨nd, rfl⟩⟩; (try first | exact ⟨rfl, _, World.drewN_drewN _ _ _⟩ | exact ⟨rfl, _, Eq.trans (World.drewN_drewN _ _ _) (congrArg (World.drewN _) (Nat.add_assoc _ _ _))⟩); have p562 : 0 ≤ (0 : Int) := (by omega); have q562 : 0 < (l0.length : Int) := of_decide_eq_true (by first | (with_reducible assumption) | assumption); obtain ⟨ad562, A562_0, c562_0, e562, hx562_0, hl562_0, hi562_0⟩ := at_L1 HR0.out 0 p562 q562; obtain rfl : ad560 = ad562 := (by injection e562); have qi562 : (0 < l0.length) = True := eq_true (by omega); (try rw [show ((0 : Int)).toNat = 0 from rfl] at hx562_0); (try rw [Addr.add_zero'] at hx562_0); replace hx562_0 := (HB.out.cell (World.block_lt_of_cell? w _ hx562_0)).trans hx562_0; have HR562_0 := Aside0.mk hi562_0; have HC562_0 := Aside0.mk hl562_0; clear hi562_0 hl562_0; replace p562 := eq_true p562; replace q562 := eq_true q562; have p563 : 0 ≤ (x7_2 : Int) := of_decide_eq_true (by first | (with_reducible assumption) | assumption); have q563 : x7_2 < (l0.length : Int) := of_decide_eq_true (by first | (with_reducible assumption) | assumption); obtain ⟨ad563, A563_0, c563_0, e563, hx563_0, hl563_0, hi563_0⟩ := at_L1 HR0.out x7_2 p563 q563; obtain rfl : ad560 = ad563 := (by injection e563); replace hx563_0 := (HB.out.cell (World.block_lt_of_cell? w _ hx563_0)).trans hx563_0; have HR563_0 := Aside0.mk hi563_0; have HC563_0 := Aside0.mk hl563_0; clear hi563_0 hl563_0; replace p563 := eq_true p563; replace q563 := eq_true q563; have ea_ := Option.some.inj (hx560_0.symm.trans hx563_0); injection ea_ with ea_ en_ ec_; subst ea_; subst ec_; clear en_)))
                go_roundg k2
                case measure => have := HJ2.out; have := HK2.out; omega
                case rel => exact ⟨(true), (wrap64 (((rd_L1 l0 0).length : Int) / 2)), (wrap64 (x7_2 + 1)), (by first | rfl | (simp; done) | (simp [*]; done)), (by first | rfl | (simp; done) | (simp [*]; done)), (by first | rfl | (simp; done) | (simp [*]; done)), H', ⟨by have := HJ2.out; have := HK2.out; omega⟩, ⟨bq HB.out⟩⟩
               ·rw [if_neg c22] at H
                have c22b0 : ((((rd_L1 l0 0).length : Int) % 2) == 0) = false := beq_eq_false_iff_ne.mpr c22
                have c22b1 : ((((rd_L1 l0 0).length : Int) % 2) != 0) = true := bne_iff_ne.mpr c22
                have H' := Aside0.mk H
                clear H
                have p560 : 0 ≤ (x7_2 : Int) := of_decide_eq_true (by first | (with_reducible assumption) | assumption)
                have q560 : x7_2 < (l0.length : Int) := of_decide_eq_true (by first | (with_reducible assumption) | assumption)
                obtain ⟨ad560, A560_0, c560_0, e560, hx560_0, hl560_0, hi560_0⟩ := at_L1 HR0.out x7_2 p560 q560
                cases e560
                replace hx560_0 := (HB.out.cell (World.block_lt_of_cell? w _ hx560_0)).trans hx560_0
                have HR560_0 := Aside0.mk hi560_0
                have HC560_0 := Aside0.mk hl560_0
                clear hi560_0 hl560_0
                replace p560 := eq_true p560
                replace q560 := eq_true q560
                go_wp2_with (first | (go_at_call 9; (with_reducible refine (steeplelaw01_Few.calls k2 _ _ (rd_L1 l0 x7_2) 20 40 true _ ?side1 ?side2 A12.out).mono ?_); (case side1 => repeat (first | exact (Kd.C_below HR560_0.out HB.out) | (with_reducible refine Kd.C_alloc ?_ _) | (with_reducible refine Kd.C_drewN ?_ _) | (with_reducible refine Kd.C_drew ?_))); (case side2 => exact HC560_0.out); rintro e w' ⟨rfl, ⟨nd, rfl⟩⟩; (try first | exact ⟨rfl, _, World.drewN_drewN _ _ _⟩ | exact ⟨rfl, _, Eq.trans (World.drewN_drewN _ _ _) (congrArg (World.drewN _) (Nat.add_assoc _ _ _))⟩); have p562 : 0 ≤ (0 : Int) := (by omega); have q562 : 0 < (l0.length : Int) := of_decide_eq_true (by first | (with_reducible assumption) | assumption); obtain ⟨ad562, A562_0, c562_0, e562, hx562_0, hl562_0, hi562_0⟩ := at_L1 HR0.out 0 p562 q562; obtain rfl : ad560 = ad562 := (by injection e562); have qi562 : (0 < l0.length) = True := eq_true (by omega); (try rw [show ((0 : Int)).toNat = 0 from rfl] at hx562_0); (try rw [Addr.add_zero'] at hx562_0); replace hx562_0 := (HB.out.cell (World.block_lt_of_cell? w _ hx562_0)).trans hx562_0; have HR562_0 := Aside0.mk hi562_0; have HC562_0 := Aside0.mk hl562_0; clear hi562_0 hl562_0; replace p562 := eq_true p562; replace q562 := eq_true q562; have p563 : 0 ≤ (x7_2 : Int) := of_decide_eq_true (by first | (with_reducible assumption) | assumption); have q563 : x7_2 < (l0.length : Int) := of_decide_eq_true (by first | (with_reducible assumption) | assumption); obtain ⟨ad563, A563_0, c563_0, e563, hx563_0, hl563_0, hi563_0⟩ := at_L1 HR0.out x7_2 p563 q563; obtain rfl : ad560 = ad563 := (by injection e563); replace hx563_0 := (HB.out.cell (World.block_lt_of_cell? w _ hx563_0)).trans hx563_0; have HR563_0 := Aside0.mk hi563_0; have HC563_0 := Aside0.mk hl563_0; clear hi563_0 hl563_0; replace p563 := eq_true p563; replace q563 := eq_true q563; have ea_ := Option.some.inj (hx560_0.symm.trans hx563_0); injection ea_ with ea_ en_ ec_; subst ea_; subst ec_; clear en_))
                repeat (go_quiet (first | (go_at_call 9; (with_reducible refine (steeplelaw01_Few.calls k2 _ _ (rd_L1 l0 x7_2) 20 40 true _ ?side1 ?side2 A12.out).mono ?_); (case side1 => repeat (first | exact (Kd.C_below HR560_0.out HB.out) | (with_reducible refine Kd.C_alloc ?_ _) | (with_reducible refine Kd.C_drewN ?_ _) | (with_reducible refine Kd.C_drew ?_))); (case side2 => exact HC560_0.out); rintro e w' ⟨rfl, ⟨nd, rfl⟩⟩; (try first | exact ⟨rfl, _, World.drewN_drewN _ _ _⟩ | exact ⟨rfl, _, Eq.trans (World.drewN_drewN _ _ _) (congrArg (World.drewN _) (Nat.add_assoc _ _ _))⟩); have p562 : 0 ≤ (0 : Int) := (by omega); have q562 : 0 < (l0.length : Int) := of_decide_eq_true (by first | (with_reducible assumption) | assumption); obtain ⟨ad562, A562_0, c562_0, e562, hx562_0, hl562_0, hi562_0⟩ := at_L1 HR0.out 0 p562 q562; obtain rfl : ad560 = ad562 := (by injection e562); have qi562 : (0 < l0.length) = True := eq_true (by omega); (try rw [show ((0 : Int)).toNat = 0 from rfl] at hx562_0); (try rw [Addr.add_zero'] at hx562_0); replace hx562_0 := (HB.out.cell (World.block_lt_of_cell? w _ hx562_0)).trans hx562_0; have HR562_0 := Aside0.mk hi562_0; have HC562_0 := Aside0.mk hl562_0; clear hi562_0 hl562_0; replace p562 := eq_true p562; replace q562 := eq_true q562; have p563 : 0 ≤ (x7_2 : Int) := of_decide_eq_true (by first | (with_reducible assumption) | assumption); have q563 : x7_2 < (l0.length : Int) := of_decide_eq_true (by first | (with_reducible assumption) | assumption); obtain ⟨ad563, A563_0, c563_0, e563, hx563_0, hl563_0, hi563_0⟩ := at_L1 HR0.out x7_2 p563 q563; obtain rfl : ad560 = ad563 := (by injection e563); replace hx563_0 := (HB.out.cell (World.block_lt_of_cell? w _ hx563_0)).trans hx563_0; have HR563_0 := Aside0.mk hi563_0; have HC563_0 := Aside0.mk hl563_0; clear hi563_0 hl563_0; replace p563 := eq_true p563; replace q563 := eq_true q563; have ea_ := Option.some.inj (hx560_0.symm.trans hx563_0); injection ea_ with ea_ en_ ec_; subst ea_; subst ec_; clear en_)); try go_wp2_with (first | (go_at_call 9; (with_reducible refine (steeplelaw01_Few.calls k2 _ _ (rd_L1 l0 x7_2) 20 40 true _ ?side1 ?side2 A12.out).mono ?_); (case side1 => repeat (first | exact (Kd.C_below HR560_0.out HB.out) | (with_reducible refine Kd.C_alloc ?_ _) | (with_reducible refine Kd.C_drewN ?_ _) | (with_reducible refine Kd.C_drew ?_))); (case side2 => exact HC560_0.out); rintro e w' ⟨rfl, ⟨nd, rfl⟩⟩; (try first | exact ⟨rfl, _, World.drewN_drewN _ _ _⟩ | exact ⟨rfl, _, Eq.trans (World.drewN_drewN _ _ _) (congrArg (World.drewN _) (Nat.add_assoc _ _ _))⟩); have p562 : 0 ≤ (0 : Int) := (by omega); have q562 : 0 < (l0.length : Int) := of_decide_eq_true (by first | (with_reducible assumption) | assumption); obtain ⟨ad562, A562_0, c562_0, e562, hx562_0, hl562_0, hi562_0⟩ := at_L1 HR0.out 0 p562 q562; obtain rfl : ad560 = ad562 := (by injection e562); have qi562 : (0 < l0.length) = True := eq_true (by omega); (try rw [show ((0 : Int)).toNat = 0 from rfl] at hx562_0); (try rw [Addr.add_zero'] at hx562_0); replace hx562_0 := (HB.out.cell (World.block_lt_of_cell? w _ hx562_0)).trans hx562_0; have HR562_0 := Aside0.mk hi562_0; have HC562_0 := Aside0.mk hl562_0; clear hi562_0 hl562_0; replace p562 := eq_true p562; replace q562 := eq_true q562; have p563 : 0 ≤ (x7_2 : Int) := of_decide_eq_true (by first | (with_reducible assumption) | assumption); have q563 : x7_2 < (l0.length : Int) := of_decide_eq_true (by first | (with_reducible assumption) | assumption); obtain ⟨ad563, A563_0, c563_0, e563, hx563_0, hl563_0, hi563_0⟩ := at_L1 HR0.out x7_2 p563 q563; obtain rfl : ad560 = ad563 := (by injection e563); replace hx563_0 := (HB.out.cell (World.block_lt_of_cell? w _ hx563_0)).trans hx563_0; have HR563_0 := Aside0.mk hi563_0; have HC563_0 := Aside0.mk hl563_0; clear hi563_0 hl563_0; replace p563 := eq_true p563; replace q563 := eq_true q563; have ea_ := Option.some.inj (hx560_0.symm.trans hx563_0); injection ea_ with ea_ en_ ec_; subst ea_; subst ec_; clear en_)))
                go_roundg k2
                case measure => have := HJ2.out; have := HK2.out; omega
                case rel => exact ⟨((x7_2 == (wrap64 ((l0.length : Int) - 1)))), (wrap64 (((rd_L1 l0 0).length : Int) / 2)), (wrap64 (x7_2 + 1)), (by first | rfl | (simp; done) | (simp [*]; done)), (by first | rfl | (simp; done) | (simp [*]; done)), (by first | rfl | (simp; done) | (simp [*]; done)), H', ⟨by have := HJ2.out; have := HK2.out; omega⟩, ⟨bq HB.out⟩⟩
              ·rw [if_neg c21] at H
               have c21b0 : (((rd_L1 l0 0).length : Int) == 1) = false := beq_eq_false_iff_ne.mpr c21
               have c21b1 : (((rd_L1 l0 0).length : Int) != 1) = true := bne_iff_ne.mpr c21
               have H' := Aside0.mk H
               clear H
               have p560 : 0 ≤ (x7_2 : Int) := of_decide_eq_true (by first | (with_reducible assumption) | assumption)
               have q560 : x7_2 < (l0.length : Int) := of_decide_eq_true (by first | (with_reducible assumption) | assumption)
               obtain ⟨ad560, A560_0, c560_0, e560, hx560_0, hl560_0, hi560_0⟩ := at_L1 HR0.out x7_2 p560 q560
               cases e560
               replace hx560_0 := (HB.out.cell (World.block_lt_of_cell? w _ hx560_0)).trans hx560_0
               have HR560_0 := Aside0.mk hi560_0
               have HC560_0 := Aside0.mk hl560_0
               clear hi560_0 hl560_0
               replace p560 := eq_true p560
               replace q560 := eq_true q560
               go_wp2_with (first | (go_at_call 9; (with_reducible refine (steeplelaw01_Few.calls k2 _ _ (rd_L1 l0 x7_2) 20 40 true _ ?side1 ?side2 A12.out).mono ?_); (case side1 => repeat (first | exact (Kd.C_below HR560_0.out HB.out) | (with_reducible refine Kd.C_alloc ?_ _) | (with_reducible refine Kd.C_drewN ?_ _) | (with_reducible refine Kd.C_drew ?_))); (case side2 => exact HC560_0.out); rintro e w' ⟨rfl, ⟨nd, rfl⟩⟩; (try first | exact ⟨rfl, _, World.drewN_drewN _ _ _⟩ | exact ⟨rfl, _, Eq.trans (World.drewN_drewN _ _ _) (congrArg (World.drewN _) (Nat.add_assoc _ _ _))⟩); have p562 : 0 ≤ (0 : Int) := (by omega); have q562 : 0 < (l0.length : Int) := of_decide_eq_true (by first | (with_reducible assumption) | assumption); obtain ⟨ad562, A562_0, c562_0, e562, hx562_0, hl562_0, hi562_0⟩ := at_L1 HR0.out 0 p562 q562; obtain rfl : ad560 = ad562 := (by injection e562); have qi562 : (0 < l0.length) = True := eq_true (by omega); (try rw [show ((0 : Int)).toNat = 0 from rfl] at hx562_0); (try rw [Addr.add_zero'] at hx562_0); replace hx562_0 := (HB.out.cell (World.block_lt_of_cell? w _ hx562_0)).trans hx562_0; have HR562_0 := Aside0.mk hi562_0; have HC562_0 := Aside0.mk hl562_0; clear hi562_0 hl562_0; replace p562 := eq_true p562; replace q562 := eq_true q562; have p563 : 0 ≤ (x7_2 : Int) := of_decide_eq_true (by first | (with_reducible assumption) | assumption); have q563 : x7_2 < (l0.length : Int) := of_decide_eq_true (by first | (with_reducible assumption) | assumption); obtain ⟨ad563, A563_0, c563_0, e563, hx563_0, hl563_0, hi563_0⟩ := at_L1 HR0.out x7_2 p563 q563; obtain rfl : ad560 = ad563 := (by injection e563); replace hx563_0 := (HB.out.cell (World.block_lt_of_cell? w _ hx563_0)).trans hx563_0; have HR563_0 := Aside0.mk hi563_0; have HC563_0 := Aside0.mk hl563_0; clear hi563_0 hl563_0; replace p563 := eq_true p563; replace q563 := eq_true q563; have ea_ := Option.some.inj (hx560_0.symm.trans hx563_0); injection ea_ with ea_ en_ ec_; subst ea_; subst ec_; clear en_))
               repeat (go_quiet (first | (go_at_call 9; (with_reducible refine (steeplelaw01_Few.calls k2 _ _ (rd_L1 l0 x7_2) 20 40 true _ ?side1 ?side2 A12.out).mono ?_); (case side1 => repeat (first | exact (Kd.C_below HR560_0.out HB.out) | (with_reducible refine Kd.C_alloc ?_ _) | (with_reducible refine Kd.C_drewN ?_ _) | (with_reducible refine Kd.C_drew ?_))); (case side2 => exact HC560_0.out); rintro e w' ⟨rfl, ⟨nd, rfl⟩⟩; (try first | exact ⟨rfl, _, World.drewN_drewN _ _ _⟩ | exact ⟨rfl, _, Eq.trans (World.drewN_drewN _ _ _) (congrArg (World.drewN _) (Nat.add_assoc _ _ _))⟩); have p562 : 0 ≤ (0 : Int) := (by omega); have q562 : 0 < (l0.length : Int) := of_decide_eq_true (by first | (with_reducible assumption) | assumption); obtain ⟨ad562, A562_0, c562_0, e562, hx562_0, hl562_0, hi562_0⟩ := at_L1 HR0.out 0 p562 q562; obtain rfl : ad560 = ad562 := (by injection e562); have qi562 : (0 < l0.length) = True := eq_true (by omega); (try rw [show ((0 : Int)).toNat = 0 from rfl] at hx562_0); (try rw [Addr.add_zero'] at hx562_0); replace hx562_0 := (HB.out.cell (World.block_lt_of_cell? w _ hx562_0)).trans hx562_0; have HR562_0 := Aside0.mk hi562_0; have HC562_0 := Aside0.mk hl562_0; clear hi562_0 hl562_0; replace p562 := eq_true p562; replace q562 := eq_true q562; have p563 : 0 ≤ (x7_2 : Int) := of_decide_eq_true (by first | (with_reducible assumption) | assumption); have q563 : x7_2 < (l0.length : Int) := of_decide_eq_true (by first | (with_reducible assumption) | assumption); obtain ⟨ad563, A563_0, c563_0, e563, hx563_0, hl563_0, hi563_0⟩ := at_L1 HR0.out x7_2 p563 q563; obtain rfl : ad560 = ad563 := (by injection e563); replace hx563_0 := (HB.out.cell (World.block_lt_of_cell? w _ hx563_0)).trans hx563_0; have HR563_0 := Aside0.mk hi563_0; have HC563_0 := Aside0.mk hl563_0; clear hi563_0 hl563_0; replace p563 := eq_true p563; replace q563 := eq_true q563; have ea_ := Option.some.inj (hx560_0.symm.trans hx563_0); injection ea_ with ea_ en_ ec_; subst ea_; subst ec_; clear en_)); try go_wp2_with (first | (go_at_call 9; (with_reducible refine (steeplelaw01_Few.calls k2 _ _ (rd_L1 l0 x7_2) 20 40 true _ ?side1 ?side2 A12.out).mono ?_); (case side1 => repeat (first | exact (Kd.C_below HR560_0.out HB.out) | (with_reducible refine Kd.C_alloc ?_ _) | (with_reducible refine Kd.C_drewN ?_ _) | (with_reducible refine Kd.C_drew ?_))); (case side2 => exact HC560_0.out); rintro e w' ⟨rfl, ⟨nd, rfl⟩⟩; (try first | exact ⟨rfl, _, World.drewN_drewN _ _ _⟩ | exact ⟨rfl, _, Eq.trans (World.drewN_drewN _ _ _) (congrArg (World.drewN _) (Nat.add_assoc _ _ _))⟩); have p562 : 0 ≤ (0 : Int) := (by omega); have q562 : 0 < (l0.length : Int) := of_decide_eq_true (by first | (with_reducible assumption) | assumption); obtain ⟨ad562, A562_0, c562_0, e562, hx562_0, hl562_0, hi562_0⟩ := at_L1 HR0.out 0 p562 q562; obtain rfl : ad560 = ad562 := (by injection e562); have qi562 : (0 < l0.length) = True := eq_true (by omega); (try rw [show ((0 : Int)).toNat = 0 from rfl] at hx562_0); (try rw [Addr.add_zero'] at hx562_0); replace hx562_0 := (HB.out.cell (World.block_lt_of_cell? w _ hx562_0)).trans hx562_0; have HR562_0 := Aside0.mk hi562_0; have HC562_0 := Aside0.mk hl562_0; clear hi562_0 hl562_0; replace p562 := eq_true p562; replace q562 := eq_true q562; have p563 : 0 ≤ (x7_2 : Int) := of_decide_eq_true (by first | (with_reducible assumption) | assumption); have q563 : x7_2 < (l0.length : Int) := of_decide_eq_true (by first | (with_reducible assumption) | assumption); obtain ⟨ad563, A563_0, c563_0, e563, hx563_0, hl563_0, hi563_0⟩ := at_L1 HR0.out x7_2 p563 q563; obtain rfl : ad560 = ad563 := (by injection e563); replace hx563_0 := (HB.out.cell (World.block_lt_of_cell? w _ hx563_0)).trans hx563_0; have HR563_0 := Aside0.mk hi563_0; have HC563_0 := Aside0.mk hl563_0; clear hi563_0 hl563_0; replace p563 := eq_true p563; replace q563 := eq_true q563; have ea_ := Option.some.inj (hx560_0.symm.trans hx563_0); injection ea_ with ea_ en_ ec_; subst ea_; subst ec_; clear en_)))
               go_roundg k2
               case measure => have := HJ2.out; have := HK2.out; omega
               case rel => exact ⟨(false), (wrap64 (((rd_L1 l0 0).length : Int) / 2)), (wrap64 (x7_2 + 1)), (by first | rfl | (simp; done) | (simp [*]; done)), (by first | rfl | (simp; done) | (simp [*]; done)), (by first | rfl | (simp; done) | (simp [*]; done)), H', ⟨by have := HJ2.out; have := HK2.out; omega⟩, ⟨bq HB.out⟩⟩
            ·rw [if_neg c17] at H
             have c17b0 : (((rd_L1 l0 x7_2).length : Int) == ((rd_L1 l0 0).length : Int)) = false := beq_eq_false_iff_ne.mpr c17
             have c17b1 : (((rd_L1 l0 x7_2).length : Int) != ((rd_L1 l0 0).length : Int)) = true := bne_iff_ne.mpr c17
             have c17b2 : ((rd_L1 l0 x7_2).length == (rd_L1 l0 0).length) = false := by first | simpa using c17 | (simp at c17 ⊢; omega)
             have H' := Aside0.mk H
             clear H
             have p560 : 0 ≤ (x7_2 : Int) := of_decide_eq_true (by first | (with_reducible assumption) | assumption)
             have q560 : x7_2 < (l0.length : Int) := of_decide_eq_true (by first | (with_reducible assumption) | assumption)
             obtain ⟨ad560, A560_0, c560_0, e560, hx560_0, hl560_0, hi560_0⟩ := at_L1 HR0.out x7_2 p560 q560
             cases e560
             replace hx560_0 := (HB.out.cell (World.block_lt_of_cell? w _ hx560_0)).trans hx560_0
             have HR560_0 := Aside0.mk hi560_0
             have HC560_0 := Aside0.mk hl560_0
             clear hi560_0 hl560_0
             replace p560 := eq_true p560
             replace q560 := eq_true q560
             go_wp2_with (first | (go_at_call 9; (with_reducible refine (steeplelaw01_Few.calls k2 _ _ (rd_L1 l0 x7_2) 20 40 true _ ?side1 ?side2 A12.out).mono ?_); (case side1 => repeat (first | exact (Kd.C_below HR560_0.out HB.out) | (with_reducible refine Kd.C_alloc ?_ _) | (with_reducible refine Kd.C_drewN ?_ _) | (with_reducible refine Kd.C_drew ?_))); (case side2 => exact HC560_0.out); rintro e w' ⟨rfl, ⟨nd, rfl⟩⟩; (try first | exact ⟨rfl, _, World.drewN_drewN _ _ _⟩ | exact ⟨rfl, _, Eq.trans (World.drewN_drewN _ _ _) (congrArg (World.drewN _) (Nat.add_assoc _ _ _))⟩); have p562 : 0 ≤ (0 : Int) := (by omega); have q562 : 0 < (l0.length : Int) := of_decide_eq_true (by first | (with_reducible assumption) | assumption); obtain ⟨ad562, A562_0, c562_0, e562, hx562_0, hl562_0, hi562_0⟩ := at_L1 HR0.out 0 p562 q562; obtain rfl : ad560 = ad562 := (by injection e562); have qi562 : (0 < l0.length) = True := eq_true (by omega); (try rw [show ((0 : Int)).toNat = 0 from rfl] at hx562_0); (try rw [Addr.add_zero'] at hx562_0); replace hx562_0 := (HB.out.cell (World.block_lt_of_cell? w _ hx562_0)).trans hx562_0; have HR562_0 := Aside0.mk hi562_0; have HC562_0 := Aside0.mk hl562_0; clear hi562_0 hl562_0; replace p562 := eq_true p562; replace q562 := eq_true q562; have p563 : 0 ≤ (x7_2 : Int) := of_decide_eq_true (by first | (with_reducible assumption) | assumption); have q563 : x7_2 < (l0.length : Int) := of_decide_eq_true (by first | (with_reducible assumption) | assumption); obtain ⟨ad563, A563_0, c563_0, e563, hx563_0, hl563_0, hi563_0⟩ := at_L1 HR0.out x7_2 p563 q563; obtain rfl : ad560 = ad563 := (by injection e563); replace hx563_0 := (HB.out.cell (World.block_lt_of_cell? w _ hx563_0)).trans hx563_0; have HR563_0 := Aside0.mk hi563_0; have HC563_0 := Aside0.mk hl563_0; clear hi563_0 hl563_0; replace p563 := eq_true p563; replace q563 := eq_true q563; have ea_ := Option.some.inj (hx560_0.symm.trans hx563_0); injection ea_ with ea_ en_ ec_; subst ea_; subst ec_; clear en_))
             repeat (go_quiet (first | (go_at_call 9; (with_reducible refine (steeplelaw01_Few.calls k2 _ _ (rd_L1 l0 x7_2) 20 40 true _ ?side1 ?side2 A12.out).mono ?_); (case side1 => repeat (first | exact (Kd.C_below HR560_0.out HB.out) | (with_reducible refine Kd.C_alloc ?_ _) | (with_reducible refine Kd.C_drewN ?_ _) | (with_reducible refine Kd.C_drew ?_))); (case side2 => exact HC560_0.out); rintro e w' ⟨rfl, ⟨nd, rfl⟩⟩; (try first | exact ⟨rfl, _, World.drewN_drewN _ _ _⟩ | exact ⟨rfl, _, Eq.trans (World.drewN_drewN _ _ _) (congrArg (World.drewN _) (Nat.add_assoc _ _ _))⟩); have p562 : 0 ≤ (0 : Int) := (by omega); have q562 : 0 < (l0.length : Int) := of_decide_eq_true (by first | (with_reducible assumption) | assumption); obtain ⟨ad562, A562_0, c562_0, e562, hx562_0, hl562_0, hi562_0⟩ := at_L1 HR0.out 0 p562 q562; obtain rfl : ad560 = ad562 := (by injection e562); have qi562 : (0 < l0.length) = True := eq_true (by omega); (try rw [show ((0 : Int)).toNat = 0 from rfl] at hx562_0); (try rw [Addr.add_zero'] at hx562_0); replace hx562_0 := (HB.out.cell (World.block_lt_of_cell? w _ hx562_0)).trans hx562_0; have HR562_0 := Aside0.mk hi562_0; have HC562_0 := Aside0.mk hl562_0; clear hi562_0 hl562_0; replace p562 := eq_true p562; replace q562 := eq_true q562; have p563 : 0 ≤ (x7_2 : Int) := of_decide_eq_true (by first | (with_reducible assumption) | assumption); have q563 : x7_2 < (l0.length : Int) := of_decide_eq_true (by first | (with_reducible assumption) | assumption); obtain ⟨ad563, A563_0, c563_0, e563, hx563_0, hl563_0, hi563_0⟩ := at_L1 HR0.out x7_2 p563 q563; obtain rfl : ad560 = ad563 := (by injection e563); replace hx563_0 := (HB.out.cell (World.block_lt_of_cell? w _ hx563_0)).trans hx563_0; have HR563_0 := Aside0.mk hi563_0; have HC563_0 := Aside0.mk hl563_0; clear hi563_0 hl563_0; replace p563 := eq_true p563; replace q563 := eq_true q563; have ea_ := Option.some.inj (hx560_0.symm.trans hx563_0); injection ea_ with ea_ en_ ec_; subst ea_; subst ec_; clear en_)); try go_wp2_with (first | (go_at_call 9; (with_reducible refine (steeplelaw01_Few.calls k2 _ _ (rd_L1 l0 x7_2) 20 40 true _ ?side1 ?side2 A12.out).mono ?_); (case side1 => repeat (first | exact (Kd.C_below HR560_0.out HB.out) | (with_reducible refine Kd.C_alloc ?_ _) | (with_reducible refine Kd.C_drewN ?_ _) | (with_reducible refine Kd.C_drew ?_))); (case side2 => exact HC560_0.out); rintro e w' ⟨rfl, ⟨nd, rfl⟩⟩; (try first | exact ⟨rfl, _, World.drewN_drewN _ _ _⟩ | exact ⟨rfl, _, Eq.trans (World.drewN_drewN _ _ _) (congrArg (World.drewN _) (Nat.add_assoc _ _ _))⟩); have p562 : 0 ≤ (0 : Int) := (by omega); have q562 : 0 < (l0.length : Int) := of_decide_eq_true (by first | (with_reducible assumption) | assumption); obtain ⟨ad562, A562_0, c562_0, e562, hx562_0, hl562_0, hi562_0⟩ := at_L1 HR0.out 0 p562 q562; obtain rfl : ad560 = ad562 := (by injection e562); have qi562 : (0 < l0.length) = True := eq_true (by omega); (try rw [show ((0 : Int)).toNat = 0 from rfl] at hx562_0); (try rw [Addr.add_zero'] at hx562_0); replace hx562_0 := (HB.out.cell (World.block_lt_of_cell? w _ hx562_0)).trans hx562_0; have HR562_0 := Aside0.mk hi562_0; have HC562_0 := Aside0.mk hl562_0; clear hi562_0 hl562_0; replace p562 := eq_true p562; replace q562 := eq_true q562; have p563 : 0 ≤ (x7_2 : Int) := of_decide_eq_true (by first | (with_reducible assumption) | assumption); have q563 : x7_2 < (l0.length : Int) := of_decide_eq_true (by first | (with_reducible assumption) | assumption); obtain ⟨ad563, A563_0, c563_0, e563, hx563_0, hl563_0, hi563_0⟩ := at_L1 HR0.out x7_2 p563 q563; obtain rfl : ad560 = ad563 := (by injection e563); replace hx563_0 := (HB.out.cell (World.block_lt_of_cell? w _ hx563_0)).trans hx563_0; have HR563_0 := Aside0.mk hi563_0; have HC563_0 := Aside0.mk hl563_0; clear hi563_0 hl563_0; replace p563 := eq_true p563; replace q563 := eq_true q563; have ea_ := Option.some.inj (hx560_0.symm.trans hx563_0); injection ea_ with ea_ en_ ec_; subst ea_; subst ec_; clear en_)))
             go_roundg k2
             case measure => have := HJ2.out; have := HK2.out; omega
             case rel => exact ⟨(false), (wrap64 (((rd_L1 l0 0).length : Int) / 2)), (wrap64 (x7_2 + 1)), (by first | rfl | (simp; done) | (simp [*]; done)), (by first | rfl | (simp; done) | (simp [*]; done)), (by first | rfl | (simp; done) | (simp [*]; done)), H', ⟨by have := HJ2.out; have := HK2.out; omega⟩, ⟨bq HB.out⟩⟩
           ·replace c16 := Bool.eq_false_iff.mpr c16
            subst c16
            have H1 : (steeplelaw12_MerkleRows.l0 k2 l0 a1 false (wrap64 (((rd_L1 l0 0).length : Int) / 2)) (wrap64 (x7_2 + 1))) = some r := by rw [if_neg (show ¬ (false = true) by decide)] at H; exact H
            clear H
            have H := H1
            clear H1
            have H' := Aside0.mk H
            clear H
            have p560 : 0 ≤ (x7_2 : Int) := of_decide_eq_true (by first | (with_reducible assumption) | assumption)
            have q560 : x7_2 < (l0.length : Int) := of_decide_eq_true (by first | (with_reducible assumption) | assumption)
            obtain ⟨ad560, A560_0, c560_0, e560, hx560_0, hl560_0, hi560_0⟩ := at_L1 HR0.out x7_2 p560 q560
            cases e560
            replace hx560_0 := (HB.out.cell (World.block_lt_of_cell? w _ hx560_0)).trans hx560_0
            have HR560_0 := Aside0.mk hi560_0
            have HC560_0 := Aside0.mk hl560_0
            clear hi560_0 hl560_0
            replace p560 := eq_true p560
            replace q560 := eq_true q560
            go_wp2_with (first | (go_at_call 9; (with_reducible refine (steeplelaw01_Few.calls k2 _ _ (rd_L1 l0 x7_2) 20 40 true _ ?side1 ?side2 A12.out).mono ?_); (case side1 => repeat (first | exact (Kd.C_below HR560_0.out HB.out) | (with_reducible refine Kd.C_alloc ?_ _) | (with_reducible refine Kd.C_drewN ?_ _) | (with_reducible refine Kd.C_drew ?_))); (case side2 => exact HC560_0.out); rintro e w' ⟨rfl, ⟨nd, rfl⟩⟩; (try first | exact ⟨rfl, _, World.drewN_drewN _ _ _⟩ | exact ⟨rfl, _, Eq.trans (World.drewN_drewN _ _ _) (congrArg (World.drewN _) (Nat.add_assoc _ _ _))⟩); have p562 : 0 ≤ (0 : Int) := (by omega); have q562 : 0 < (l0.length : Int) := of_decide_eq_true (by first | (with_reducible assumption) | assumption); obtain ⟨ad562, A562_0, c562_0, e562, hx562_0, hl562_0, hi562_0⟩ := at_L1 HR0.out 0 p562 q562; obtain rfl : ad560 = ad562 := (by injection e562); have qi562 : (0 < l0.length) = True := eq_true (by omega); (try rw [show ((0 : Int)).toNat = 0 from rfl] at hx562_0); (try rw [Addr.add_zero'] at hx562_0); replace hx562_0 := (HB.out.cell (World.block_lt_of_cell? w _ hx562_0)).trans hx562_0; have HR562_0 := Aside0.mk hi562_0; have HC562_0 := Aside0.mk hl562_0; clear hi562_0 hl562_0; replace p562 := eq_true p562; replace q562 := eq_true q562))
            repeat (go_quiet (first | (go_at_call 9; (with_reducible refine (steeplelaw01_Few.calls k2 _ _ (rd_L1 l0 x7_2) 20 40 true _ ?side1 ?side2 A12.out).mono ?_); (case side1 => repeat (first | exact (Kd.C_below HR560_0.out HB.out) | (with_reducible refine Kd.C_alloc ?_ _) | (with_reducible refine Kd.C_drewN ?_ _) | (with_reducible refine Kd.C_drew ?_))); (case side2 => exact HC560_0.out); rintro e w' ⟨rfl, ⟨nd, rfl⟩⟩; (try first | exact ⟨rfl, _, World.drewN_drewN _ _ _⟩ | exact ⟨rfl, _, Eq.trans (World.drewN_drewN _ _ _) (congrArg (World.drewN _) (Nat.add_assoc _ _ _))⟩); have p562 : 0 ≤ (0 : Int) := (by omega); have q562 : 0 < (l0.length : Int) := of_decide_eq_true (by first | (with_reducible assumption) | assumption); obtain ⟨ad562, A562_0, c562_0, e562, hx562_0, hl562_0, hi562_0⟩ := at_L1 HR0.out 0 p562 q562; obtain rfl : ad560 = ad562 := (by injection e562); have qi562 : (0 < l0.length) = True := eq_true (by omega); (try rw [show ((0 : Int)).toNat = 0 from rfl] at hx562_0); (try rw [Addr.add_zero'] at hx562_0); replace hx562_0 := (HB.out.cell (World.block_lt_of_cell? w _ hx562_0)).trans hx562_0; have HR562_0 := Aside0.mk hi562_0; have HC562_0 := Aside0.mk hl562_0; clear hi562_0 hl562_0; replace p562 := eq_true p562; replace q562 := eq_true q562)); try go_wp2_with (first | (go_at_call 9; (with_reducible refine (steeplelaw01_Few.calls k2 _ _ (rd_L1 l0 x7_2) 20 40 true _ ?side1 ?side2 A12.out).mono ?_); (case side1 => repeat (first | exact (Kd.C_below HR560_0.out HB.out) | (with_reducible refine Kd.C_alloc ?_ _) | (with_reducible refine Kd.C_drewN ?_ _) | (with_reducible refine Kd.C_drew ?_))); (case side2 => exact HC560_0.out); rintro e w' ⟨rfl, ⟨nd, rfl⟩⟩; (try first | exact ⟨rfl, _, World.drewN_drewN _ _ _⟩ | exact ⟨rfl, _, Eq.trans (World.drewN_drewN _ _ _) (congrArg (World.drewN _) (Nat.add_assoc _ _ _))⟩); have p562 : 0 ≤ (0 : Int) := (by omega); have q562 : 0 < (l0.length : Int) := of_decide_eq_true (by first | (with_reducible assumption) | assumption); obtain ⟨ad562, A562_0, c562_0, e562, hx562_0, hl562_0, hi562_0⟩ := at_L1 HR0.out 0 p562 q562; obtain rfl : ad560 = ad562 := (by injection e562); have qi562 : (0 < l0.length) = True := eq_true (by omega); (try rw [show ((0 : Int)).toNat = 0 from rfl] at hx562_0); (try rw [Addr.add_zero'] at hx562_0); replace hx562_0 := (HB.out.cell (World.block_lt_of_cell? w _ hx562_0)).trans hx562_0; have HR562_0 := Aside0.mk hi562_0; have HC562_0 := Aside0.mk hl562_0; clear hi562_0 hl562_0; replace p562 := eq_true p562; replace q562 := eq_true q562)))
            go_roundg k2
            case measure => have := HJ2.out; have := HK2.out; omega
            case rel => exact ⟨(false), (wrap64 (((rd_L1 l0 0).length : Int) / 2)), (wrap64 (x7_2 + 1)), (by first | rfl | (simp; done) | (simp [*]; done)), (by first | rfl | (simp; done) | (simp [*]; done)), (by first | rfl | (simp; done) | (simp [*]; done)), H', ⟨by have := HJ2.out; have := HK2.out; omega⟩, ⟨bq HB.out⟩⟩
          ·rw [if_neg c15] at H
           exact absurd H (by simp)
         ·rw [if_neg c14] at H
          have c14b0 : (x7_2 == 0) = false := beq_eq_false_iff_ne.mpr c14
          have c14b1 : (x7_2 != 0) = true := bne_iff_ne.mpr c14
          by_cases c23 : x5_2 = true
          ·subst c23
           have H1 : (if ((rd_L1 l0 x7_2).length : Int) = x6_2 then (if x7_2 < (wrap64 ((l0.length : Int) - 1)) then (if (Int.tmod x6_2 2) = 0 then (steeplelaw12_MerkleRows.l0 k2 l0 a1 true (wrap64 (Int.tdiv x6_2 2)) (wrap64 (x7_2 + 1))) else (if x6_2 = 1 then (steeplelaw12_MerkleRows.l0 k2 l0 a1 (x7_2 == (wrap64 ((l0.length : Int) - 1))) (wrap64 (Int.tdiv x6_2 2)) (wrap64 (x7_2 + 1))) else (steeplelaw12_MerkleRows.l0 k2 l0 a1 false (wrap64 (Int.tdiv x6_2 2)) (wrap64 (x7_2 + 1))))) else (if x6_2 = 1 then (if (Int.tmod x6_2 2) = 0 then (steeplelaw12_MerkleRows.l0 k2 l0 a1 true (wrap64 (Int.tdiv x6_2 2)) (wrap64 (x7_2 + 1))) else (steeplelaw12_MerkleRows.l0 k2 l0 a1 (x7_2 == (wrap64 ((l0.length : Int) - 1))) (wrap64 (Int.tdiv x6_2 2)) (wrap64 (x7_2 + 1)))) else (steeplelaw12_MerkleRows.l0 k2 l0 a1 false (wrap64 (Int.tdiv x6_2 2)) (wrap64 (x7_2 + 1))))) else (steeplelaw12_MerkleRows.l0 k2 l0 a1 false (wrap64 (Int.tdiv x6_2 2)) (wrap64 (x7_2 + 1)))) = some r := by rw [if_pos rfl] at H; exact H
           clear H
           have H := H1
           clear H1
           by_cases c24 : ((rd_L1 l0 x7_2).length : Int) = x6_2
           ·rw [if_pos c24] at H
            have c24b0 : (((rd_L1 l0 x7_2).length : Int) == x6_2) = true := beq_iff_eq.mpr c24
            have c24b1 : (((rd_L1 l0 x7_2).length : Int) != x6_2) = false := bne_eq_false_iff_eq.mpr c24
            clear c24
            by_cases c25 : x7_2 < (wrap64 ((l0.length : Int) - 1))
            ·rw [if_pos c25] at H
             have c25b0 : decide (x7_2 < (wrap64 ((l0.length : Int) - 1))) = true := decide_eq_true c25
             clear c25
             by_cases c26 : (Int.tmod x6_2 2) = 0
             ·rw [if_pos c26] at H
              have c26b0 : ((Int.tmod x6_2 2) == 0) = true := beq_iff_eq.mpr c26
              have c26b1 : ((Int.tmod x6_2 2) != 0) = false := bne_eq_false_iff_eq.mpr c26
              clear c26
              have H' := Aside0.mk H
              clear H
              have p560 : 0 ≤ (x7_2 : Int) := of_decide_eq_true (by first | (with_reducible assumption) | assumption)
              have q560 : x7_2 < (l0.length : Int) := of_decide_eq_true (by first | (with_reducible assumption) | assumption)
              obtain ⟨ad560, A560_0, c560_0, e560, hx560_0, hl560_0, hi560_0⟩ := at_L1 HR0.out x7_2 p560 q560
              cases e560
              replace hx560_0 := (HB.out.cell (World.block_lt_of_cell? w _ hx560_0)).trans hx560_0
              have HR560_0 := Aside0.mk hi560_0
              have HC560_0 := Aside0.mk hl560_0
              clear hi560_0 hl560_0
              replace p560 := eq_true p560
              replace q560 := eq_true q560
              go_wp2_with (first | (go_at_call 9; (with_reducible refine (steeplelaw01_Few.calls k2 _ _ (rd_L1 l0 x7_2) 20 40 true _ ?side1 ?side2 A12.out).mono ?_); (case side1 => repeat (first | exact (Kd.C_below HR560_0.out HB.out) | (with_reducible refine Kd.C_alloc ?_ _) | (with_reducible refine Kd.C_drewN ?_ _) | (with_reducible refine Kd.C_drew ?_))); (case side2 => exact HC560_0.out); rintro e w' ⟨rfl, ⟨nd, rfl⟩⟩; (try first | exact ⟨rfl, _, World.drewN_drewN _ _ _⟩ | exact ⟨rfl, _, Eq.trans (World.drewN_drewN _ _ _) (congrArg (World.drewN _) (Nat.add_assoc _ _ _))⟩); have p564 : 0 ≤ (x7_2 : Int) := of_decide_eq_true (by first | (with_reducible assumption) | assumption); have q564 : x7_2 < (l0.length : Int) := of_decide_eq_true (by first | (with_reducible assumption) | assumption); obtain ⟨ad564, A564_0, c564_0, e564, hx564_0, hl564_0, hi564_0⟩ := at_L1 HR0.out x7_2 p564 q564; obtain rfl : ad560 = ad564 := (by injection e564); replace hx564_0 := (HB.out.cell (World.block_lt_of_cell? w _ hx564_0)).trans hx564_0; have HR564_0 := Aside0.mk hi564_0; have HC564_0 := Aside0.mk hl564_0; clear hi564_0 hl564_0; replace p564 := eq_true p564; replace q564 := eq_true q564; have ea_ := Option.some.inj (hx560_0.symm.trans hx564_0); injection ea_ with ea_ en_ ec_; subst ea_; subst ec_; clear en_))
              repeat (go_quiet (first | (go_at_call 9; (with_reducible refine (steeplelaw01_Few.calls k2 _ _ (rd_L1 l0 x7_2) 20 40 true _ ?side1 ?side2 A12.out).mono ?_); (case side1 => repeat (first | exact (Kd.C_below HR560_0.out HB.out) | (with_reducible refine Kd.C_alloc ?_ _) | (with_reducible refine Kd.C_drewN ?_ _) | (with_reducible refine Kd.C_drew ?_))); (case side2 => exact HC560_0.out); rintro e w' ⟨rfl, ⟨nd, rfl⟩⟩; (try first | exact ⟨rfl, _, World.drewN_drewN _ _ _⟩ | exact ⟨rfl, _, Eq.trans (World.drewN_drewN _ _ _) (congrArg (World.drewN _) (Nat.add_assoc _ _ _))⟩); have p564 : 0 ≤ (x7_2 : Int) := of_decide_eq_true (by first | (with_reducible assumption) | assumption); have q564 : x7_2 < (l0.length : Int) := of_decide_eq_true (by first | (with_reducible assumption) | assumption); obtain ⟨ad564, A564_0, c564_0, e564, hx564_0, hl564_0, hi564_0⟩ := at_L1 HR0.out x7_2 p564 q564; obtain rfl : ad560 = ad564 := (by injection e564); replace hx564_0 := (HB.out.cell (World.block_lt_of_cell? w _ hx564_0)).trans hx564_0; have HR564_0 := Aside0.mk hi564_0; have HC564_0 := Aside0.mk hl564_0; clear hi564_0 hl564_0; replace p564 := eq_true p564; replace q564 := eq_true q564; have ea_ := Option.some.inj (hx560_0.symm.trans hx564_0); injection ea_ with ea_ en_ ec_; subst ea_; subst ec_; clear en_)); try go_wp2_with (first | (go_at_call 9; (with_reducible refine (steeplelaw01_Few.calls k2 _ _ (rd_L1 l0 x7_2) 20 40 true _ ?side1 ?side2 A12.out).mono ?_); (case side1 => repeat (first | exact (Kd.C_below HR560_0.out HB.out) | (with_reducible refine Kd.C_alloc ?_ _) | (with_reducible refine Kd.C_drewN ?_ _) | (with_reducible refine Kd.C_drew ?_))); (case side2 => exact HC560_0.out); rintro e w' ⟨rfl, ⟨nd, rfl⟩⟩; (try first | exact ⟨rfl, _, World.drewN_drewN _ _ _⟩ | exact ⟨rfl, _, Eq.trans (World.drewN_drewN _ _ _) (congrArg (World.drewN _) (Nat.add_assoc _ _ _))⟩); have p564 : 0 ≤ (x7_2 : Int) := of_decide_eq_true (by first | (with_reducible assumption) | assumption); have q564 : x7_2 < (l0.length : Int) := of_decide_eq_true (by first | (with_reducible assumption) | assumption); obtain ⟨ad564, A564_0, c564_0, e564, hx564_0, hl564_0, hi564_0⟩ := at_L1 HR0.out x7_2 p564 q564; obtain rfl : ad560 = ad564 := (by injection e564); replace hx564_0 := (HB.out.cell (World.block_lt_of_cell? w _ hx564_0)).trans hx564_0; have HR564_0 := Aside0.mk hi564_0; have HC564_0 := Aside0.mk hl564_0; clear hi564_0 hl564_0; replace p564 := eq_true p564; replace q564 := eq_true q564; have ea_ := Option.some.inj (hx560_0.symm.trans hx564_0); injection ea_ with ea_ en_ ec_; subst ea_; subst ec_; clear en_)))
              go_roundg k2
              case measure => have := HJ2.out; have := HK2.out; omega
              case rel => exact ⟨(true), (wrap64 (Int.tdiv x6_2 2)), (wrap64 (x7_2 + 1)), (by first | rfl | (simp; done) | (simp [*]; done)), (by first | rfl | (simp; done) | (simp [*]; done)), (by first | rfl | (simp; done) | (simp [*]; done)), H', ⟨by have := HJ2.out; have := HK2.out; omega⟩, ⟨bq HB.out⟩⟩
             ·rw [if_neg c26] at H
              have c26b0 : ((Int.tmod x6_2 2) == 0) = false := beq_eq_false_iff_ne.mpr c26
              have c26b1 : ((Int.tmod x6_2 2) != 0) = true := bne_iff_ne.mpr c26
              by_cases c27 : x6_2 = 1
              ·rw [if_pos c27] at H
               have c27b0 : (x6_2 == 1) = true := beq_iff_eq.mpr c27
               have c27b1 : (x6_2 != 1) = false := bne_eq_false_iff_eq.mpr c27
               clear c27
               have H' := Aside0.mk H
               clear H
               have p560 : 0 ≤ (x7_2 : Int) := of_decide_eq_true (by first | (with_reducible assumption) | assumption)
               have q560 : x7_2 < (l0.length : Int) := of_decide_eq_true (by first | (with_reducible assumption) | assumption)
               obtain ⟨ad560, A560_0, c560_0, e560, hx560_0, hl560_0, hi560_0⟩ := at_L1 HR0.out x7_2 p560 q560
               cases e560
               replace hx560_0 := (HB.out.cell (World.block_lt_of_cell? w _ hx560_0)).trans hx560_0
               have HR560_0 := Aside0.mk hi560_0
               have HC560_0 := Aside0.mk hl560_0
               clear hi560_0 hl560_0
               replace p560 := eq_true p560
               replace q560 := eq_true q560
               go_wp2_with (first | (go_at_call 9; (with_reducible refine (steeplelaw01_Few.calls k2 _ _ (rd_L1 l0 x7_2) 20 40 true _ ?side1 ?side2 A12.out).mono ?_); (case side1 => repeat (first | exact (Kd.C_below HR560_0.out HB.out) | (with_reducible refine Kd.C_alloc ?_ _) | (with_reducible refine Kd.C_drewN ?_ _) | (with_reducible refine Kd.C_drew ?_))); (case side2 => exact HC560_0.out); rintro e w' ⟨rfl, ⟨nd, rfl⟩⟩; (try first | exact ⟨rfl, _, World.drewN_drewN _ _ _⟩ | exact ⟨rfl, _, Eq.trans (World.drewN_drewN _ _ _) (congrArg (World.drewN _) (Nat.add_assoc _ _ _))⟩); have p564 : 0 ≤ (x7_2 : Int) := of_decide_eq_true (by first | (with_reducible assumption) | assumption); have q564 : x7_2 < (l0.length : Int) := of_decide_eq_true (by first | (with_reducible assumption) | assumption); obtain ⟨ad564, A564_0, c564_0, e564, hx564_0, hl564_0, hi564_0⟩ := at_L1 HR0.out x7_2 p564 q564; obtain rfl : ad560 = ad564 := (by injection e564); replace hx564_0 := (HB.out.cell (World.block_lt_of_cell? w _ hx564_0)).trans hx564_0; have HR564_0 := Aside0.mk hi564_0; have HC564_0 := Aside0.mk hl564_0; clear hi564_0 hl564_0; replace p564 := eq_true p564; replace q564 := eq_true q564; have ea_ := Option.some.inj (hx560_0.symm.trans hx564_0); injection ea_ with ea_ en_ ec_; subst ea_; subst ec_; clear en_))
               repeat (go_quiet (first | (go_at_call 9; (with_reducible refine (steeplelaw01_Few.calls k2 _ _ (rd_L1 l0 x7_2) 20 40 true _ ?side1 ?side2 A12.out).mono ?_); (case side1 => repeat (first | exact (Kd.C_below HR560_0.out HB.out) | (with_reducible refine Kd.C_alloc ?_ _) | (with_reducible refine Kd.C_drewN ?_ _) | (with_reducible refine Kd.C_drew ?_))); (case side2 => exact HC560_0.out); rintro e w' ⟨rfl, ⟨nd, rfl⟩⟩; (try first | exact ⟨rfl, _, World.drewN_drewN _ _ _⟩ | exact ⟨rfl, _, Eq.trans (World.drewN_drewN _ _ _) (congrArg (World.drewN _) (Nat.add_assoc _ _ _))⟩); have p564 : 0 ≤ (x7_2 : Int) := of_decide_eq_true (by first | (with_reducible assumption) | assumption); have q564 : x7_2 < (l0.length : Int) := of_decide_eq_true (by first | (with_reducible assumption) | assumption); obtain ⟨ad564, A564_0, c564_0, e564, hx564_0, hl564_0, hi564_0⟩ := at_L1 HR0.out x7_2 p564 q564; obtain rfl : ad560 = ad564 := (by injection e564); replace hx564_0 := (HB.out.cell (World.block_lt_of_cell? w _ hx564_0)).trans hx564_0; have HR564_0 := Aside0.mk hi564_0; have HC564_0 := Aside0.mk hl564_0; clear hi564_0 hl564_0; replace p564 := eq_true p564; replace q564 := eq_true q564; have ea_ := Option.some.inj (hx560_0.symm.trans hx564_0); injection ea_ with ea_ en_ ec_; subst ea_; subst ec_; clear en_)); try go_wp2_with (first | (go_at_call 9; (with_reducible refine (steeplelaw01_Few.calls k2 _ _ (rd_L1 l0 x7_2) 20 40 true _ ?side1 ?side2 A12.out).mono ?_); (case side1 => repeat (first | exact (Kd.C_below HR560_0.out HB.out) | (with_reducible refine Kd.C_alloc ?_ _) | (with_reducible refine Kd.C_drewN ?_ _) | (with_reducible refine Kd.C_drew ?_))); (case side2 => exact HC560_0.out); rintro e w' ⟨rfl, ⟨nd, rfl⟩⟩; (try first | exact ⟨rfl, _, World.drewN_drewN _ _ _⟩ | exact ⟨rfl, _, Eq.trans (World.drewN_drewN _ _ _) (congrArg (World.drewN _) (Nat.add_assoc _ _ _))⟩); have p564 : 0 ≤ (x7_2 : Int) := of_decide_eq_true (by first | (with_reducible assumption) | assumption); have q564 : x7_2 < (l0.length : Int) := of_decide_eq_true (by first | (with_reducible assumption) | assumption); obtain ⟨ad564, A564_0, c564_0, e564, hx564_0, hl564_0, hi564_0⟩ := at_L1 HR0.out x7_2 p564 q564; obtain rfl : ad560 = ad564 := (by injection e564); replace hx564_0 := (HB.out.cell (World.block_lt_of_cell? w _ hx564_0)).trans hx564_0; have HR564_0 := Aside0.mk hi564_0; have HC564_0 := Aside0.mk hl564_0; clear hi564_0 hl564_0; replace p564 := eq_true p564; replace q564 := eq_true q564; have ea_ := Option.some.inj (hx560_0.symm.trans hx564_0); injection ea_ with ea_ en_ ec_; subst ea_; subst ec_; clear en_)))
               go_roundg k2
               case measure => have := HJ2.out; have := HK2.out; omega
               case rel => exact ⟨((x7_2 == (wrap64 ((l0.length : Int) - 1)))), (wrap64 (Int.tdiv x6_2 2)), (wrap64 (x7_2 + 1)), (by first | rfl | (simp; done) | (simp [*]; done)), (by first | rfl | (simp; done) | (simp [*]; done)), (by first | rfl | (simp; done) | (simp [*]; done)), H', ⟨by have := HJ2.out; have := HK2.out; omega⟩, ⟨bq HB.out⟩⟩
              ·rw [if_neg c27] at H
               have c27b0 : (x6_2 == 1) = false := beq_eq_false_iff_ne.mpr c27
               have c27b1 : (x6_2 != 1) = true := bne_iff_ne.mpr c27
               have H' := Aside0.mk H
               clear H
               have p560 : 0 ≤ (x7_2 : Int) := of_decide_eq_true (by first | (with_reducible assumption) | assumption)
               have q560 : x7_2 < (l0.length : Int) := of_decide_eq_true (by first | (with_reducible assumption) | assumption)
               obtain ⟨ad560, A560_0, c560_0, e560, hx560_0, hl560_0, hi560_0⟩ := at_L1 HR0.out x7_2 p560 q560
               cases e560
               replace hx560_0 := (HB.out.cell (World.block_lt_of_cell? w _ hx560_0)).trans hx560_0
               have HR560_0 := Aside0.mk hi560_0
               have HC560_0 := Aside0.mk hl560_0
               clear hi560_0 hl560_0
               replace p560 := eq_true p560
               replace q560 := eq_true q560
               go_wp2_with (first | (go_at_call 9; (with_reducible refine (steeplelaw01_Few.calls k2 _ _ (rd_L1 l0 x7_2) 20 40 true _ ?side1 ?side2 A12.out).mono ?_); (case side1 => repeat (first | exact (Kd.C_below HR560_0.out HB.out) | (with_reducible refine Kd.C_alloc ?_ _) | (with_reducible refine Kd.C_drewN ?_ _) | (with_reducible refine Kd.C_drew ?_))); (case side2 => exact HC560_0.out); rintro e w' ⟨rfl, ⟨nd, rfl⟩⟩; (try first | exact ⟨rfl, _, World.drewN_drewN _ _ _⟩ | exact ⟨rfl, _, Eq.trans (World.drewN_drewN _ _ _) (congrArg (World.drewN _) (Nat.add_assoc _ _ _))⟩); have p564 : 0 ≤ (x7_2 : Int) := of_decide_eq_true (by first | (with_reducible assumption) | assumption); have q564 : x7_2 < (l0.length : Int) := of_decide_eq_true (by first | (with_reducible assumption) | assumption); obtain ⟨ad564, A564_0, c564_0, e564, hx564_0, hl564_0, hi564_0⟩ := at_L1 HR0.out x7_2 p564 q564; obtain rfl : ad560 = ad564 := (by injection e564); replace hx564_0 := (HB.out.cell (World.block_lt_of_cell? w _ hx564_0)).trans hx564_0; have HR564_0 := Aside0.mk hi564_0; have HC564_0 := Aside0.mk hl564_0; clear hi564_0 hl564_0; replace p564 := eq_true p564; replace q564 := eq_true q564; have ea_ := Option.some.inj (hx560_0.symm.trans hx564_0); injection ea_ with ea_ en_ ec_; subst ea_; subst ec_; clear en_))
               repeat (go_quiet (first | (go_at_call 9; (with_reducible refine (steeplelaw01_Few.calls k2 _ _ (rd_L1 l0 x7_2) 20 40 true _ ?side1 ?side2 A12.out).mono ?_); (case side1 => repeat (first | exact (Kd.C_below HR560_0.out HB.out) | (with_reducible refine Kd.C_alloc ?_ _) | (with_reducible refine Kd.C_drewN ?_ _) | (with_reducible refine Kd.C_drew ?_))); (case side2 => exact HC560_0.out); rintro e w' ⟨rfl, ⟨nd, rfl⟩⟩; (try first | exact ⟨rfl, _, World.drewN_drewN _ _ _⟩ | exact ⟨rfl, _, Eq.trans (World.drewN_drewN _ _ _) (congrArg (World.drewN _) (Nat.add_assoc _ _ _))⟩); have p564 : 0 ≤ (x7_2 : Int) := of_decide_eq_true (by first | (with_reducible assumption) | assumption); have q564 : x7_2 < (l0.length : Int) := of_decide_eq_true (by first | (with_reducible assumption) | assumption); obtain ⟨ad564, A564_0, c564_0, e564, hx564_0, hl564_0, hi564_0⟩ := at_L1 HR0.out x7_2 p564 q564; obtain rfl : ad560 = ad564 := (by injection e564); replace hx564_0 := (HB.out.cell (World.block_lt_of_cell? w _ hx564_0)).trans hx564_0; have HR564_0 := Aside0.mk hi564_0; have HC564_0 := Aside0.mk hl564_0; clear hi564_0 hl564_0; replace p564 := eq_true p564; replace q564 := eq_true q564; have ea_ := Option.some.inj (hx560_0.symm.trans hx564_0); injection ea_ with ea_ en_ ec_; subst ea_; subst ec_; clear en_)); try go_wp2_with (first | (go_at_call 9; (with_reducible refine (steeplelaw01_Few.calls k2 _ _ (rd_L1 l0 x7_2) 20 40 true _ ?side1 ?side2 A12.out).mono ?_); (case side1 => repeat (first | exact (Kd.C_below HR560_0.out HB.out) | (with_reducible refine Kd.C_alloc ?_ _) | (with_reducible refine Kd.C_drewN ?_ _) | (with_reducible refine Kd.C_drew ?_))); (case side2 => exact HC560_0.out); rintro e w' ⟨rfl, ⟨nd, rfl⟩⟩; (try first | exact ⟨rfl, _, World.drewN_drewN _ _ _⟩ | exact ⟨rfl, _, Eq.trans (World.drewN_drewN _ _ _) (congrArg (World.drewN _) (Nat.add_assoc _ _ _))⟩); have p564 : 0 ≤ (x7_2 : Int) := of_decide_eq_true (by first | (with_reducible assumption) | assumption); have q564 : x7_2 < (l0.length : Int) := of_decide_eq_true (by first | (with_reducible assumption) | assumption); obtain ⟨ad564, A564_0, c564_0, e564, hx564_0, hl564_0, hi564_0⟩ := at_L1 HR0.out x7_2 p564 q564; obtain rfl : ad560 = ad564 := (by injection e564); replace hx564_0 := (HB.out.cell (World.block_lt_of_cell? w _ hx564_0)).trans hx564_0; have HR564_0 := Aside0.mk hi564_0; have HC564_0 := Aside0.mk hl564_0; clear hi564_0 hl564_0; replace p564 := eq_true p564; replace q564 := eq_true q564; have ea_ := Option.some.inj (hx560_0.symm.trans hx564_0); injection ea_ with ea_ en_ ec_; subst ea_; subst ec_; clear en_)))
               go_roundg k2
               case measure => have := HJ2.out; have := HK2.out; omega
               case rel => exact ⟨(false), (wrap64 (Int.tdiv x6_2 2)), (wrap64 (x7_2 + 1)), (by first | rfl | (simp; done) | (simp [*]; done)), (by first | rfl | (simp; done) | (simp [*]; done)), (by first | rfl | (simp; done) | (simp [*]; done)), H', ⟨by have := HJ2.out; have := HK2.out; omega⟩, ⟨bq HB.out⟩⟩
            ·rw [if_neg c25] at H
             have c25b0 : decide (x7_2 < (wrap64 ((l0.length : Int) - 1))) = false := decide_eq_false c25
             clear c25
             by_cases c28 : x6_2 = 1
             ·rw [if_pos c28] at H
              have c28b0 : (x6_2 == 1) = true := beq_iff_eq.mpr c28
              have c28b1 : (x6_2 != 1) = false := bne_eq_false_iff_eq.mpr c28
              clear c28
              by_cases c29 : (Int.tmod x6_2 2) = 0
              ·rw [if_pos c29] at H
               have c29b0 : ((Int.tmod x6_2 2) == 0) = true := beq_iff_eq.mpr c29
               have c29b1 : ((Int.tmod x6_2 2) != 0) = false := bne_eq_false_iff_eq.mpr c29
               clear c29
               have H' := Aside0.mk H
               clear H
               have p560 : 0 ≤ (x7_2 : Int) := of_decide_eq_true (by first | (with_reducible assumption) | assumption)
               have q560 : x7_2 < (l0.length : Int) := of_decide_eq_true (by first | (with_reducible assumption) | assumption)
               obtain ⟨ad560, A560_0, c560_0, e560, hx560_0, hl560_0, hi560_0⟩ := at_L1 HR0.out x7_2 p560 q560
               cases e560
               replace hx560_0 := (HB.out.cell (World.block_lt_of_cell? w _ hx560_0)).trans hx560_0
               have HR560_0 := Aside0.mk hi560_0
               have HC560_0 := Aside0.mk hl560_0
               clear hi560_0 hl560_0
               replace p560 := eq_true p560
               replace q560 := eq_true q560
               go_wp2_with (first | (go_at_call 9; (with_reducible refine (steeplelaw01_Few.calls k2 _ _ (rd_L1 l0 x7_2) 20 40 true _ ?side1 ?side2 A12.out).mono ?_); (case side1 => repeat (first | exact (Kd.C_below HR560_0.out HB.out) | (with_reducible refine Kd.C_alloc ?_ _) | (with_reducible refine Kd.C_drewN ?_ _) | (with_reducible refine Kd.C_drew ?_))); (case side2 => exact HC560_0.out); rintro e w' ⟨rfl, ⟨nd, rfl⟩⟩; (try first | exact ⟨rfl, _, World.drewN_drewN _ _ _⟩ | exact ⟨rfl, _, Eq.trans (World.drewN_drewN _ _ _) (congrArg (World.drewN _) (Nat.add_assoc _ _ _))⟩); have p564 : 0 ≤ (x7_2 : Int) := of_decide_eq_true (by first | (with_reducible assumption) | assumption); have q564 : x7_2 < (l0.length : Int) := of_decide_eq_true (by first | (with_reducible assumption) | assumption); obtain ⟨ad564, A564_0, c564_0, e564, hx564_0, hl564_0, hi564_0⟩ := at_L1 HR0.out x7_2 p564 q564; obtain rfl : ad560 = ad564 := (by injection e564); replace hx564_0 := (HB.out.cell (World.block_lt_of_cell? w _ hx564_0)).trans hx564_0; have HR564_0 := Aside0.mk hi564_0; have HC564_0 := Aside0.mk hl564_0; clear hi564_0 hl564_0; replace p564 := eq_true p564; replace q564 := eq_true q564; have ea_ := Option.some.inj (hx560_0.symm.trans hx564_0); injection ea_ with ea_ en_ ec_; subst ea_; subst ec_; clear en_))
               repeat (go_quiet (first | (go_at_call 9; (with_reducible refine (steeplelaw01_Few.calls k2 _ _ (rd_L1 l0 x7_2) 20 40 true _ ?side1 ?side2 A12.out).mono ?_); (case side1 => repeat (first | exact (Kd.C_below HR560_0.out HB.out) | (with_reducible refine Kd.C_alloc ?_ _) | (with_reducible refine Kd.C_drewN ?_ _) | (with_reducible refine Kd.C_drew ?_))); (case side2 => exact HC560_0.out); rintro e w' ⟨rfl, ⟨nd, rfl⟩⟩; (try first | exact ⟨rfl, _, World.drewN_drewN _ _ _⟩ | exact ⟨rfl, _, Eq.trans (World.drewN_drewN _ _ _) (congrArg (World.drewN _) (Nat.add_assoc _ _ _))⟩); have p564 : 0 ≤ (x7_2 : Int) := of_decide_eq_true (by first | (with_reducible assumption) | assumption); have q564 : x7_2 < (l0.length : Int) := of_decide_eq_true (by first | (with_reducible assumption) | assumption); obtain ⟨ad564, A564_0, c564_0, e564, hx564_0, hl564_0, hi564_0⟩ := at_L1 HR0.out x7_2 p564 q564; obtain rfl : ad560 = ad564 := (by injection e564); replace hx564_0 := (HB.out.cell (World.block_lt_of_cell? w _ hx564_0)).trans hx564_0; have HR564_0 := Aside0.mk hi564_0; have HC564_0 := Aside0.mk hl564_0; clear hi564_0 hl564_0; replace p564 := eq_true p564; replace q564 := eq_true q564; have ea_ := Option.some.inj (hx560_0.symm.trans hx564_0); injection ea_ with ea_ en_ ec_; subst ea_; subst ec_; clear en_)); try go_wp2_with (first | (go_at_call 9; (with_reducible refine (steeplelaw01_Few.calls k2 _ _ (rd_L1 l0 x7_2) 20 40 true _ ?side1 ?side2 A12.out).mono ?_); (case side1 => repeat (first | exact (Kd.C_below HR560_0.out HB.out) | (with_reducible refine Kd.C_alloc ?_ _) | (with_reducible refine Kd.C_drewN ?_ _) | (with_reducible refine Kd.C_drew ?_))); (case side2 => exact HC560_0.out); rintro e w' ⟨rfl, ⟨nd, rfl⟩⟩; (try first | exact ⟨rfl, _, World.drewN_drewN _ _ _⟩ | exact ⟨rfl, _, Eq.trans (World.drewN_drewN _ _ _) (congrArg (World.drewN _) (Nat.add_assoc _ _ _))⟩); have p564 : 0 ≤ (x7_2 : Int) := of_decide_eq_true (by first | (with_reducible assumption) | assumption); have q564 : x7_2 < (l0.length : Int) := of_decide_eq_true (by first | (with_reducible assumption) | assumption); obtain ⟨ad564, A564_0, c564_0, e564, hx564_0, hl564_0, hi564_0⟩ := at_L1 HR0.out x7_2 p564 q564; obtain rfl : ad560 = ad564 := (by injection e564); replace hx564_0 := (HB.out.cell (World.block_lt_of_cell? w _ hx564_0)).trans hx564_0; have HR564_0 := Aside0.mk hi564_0; have HC564_0 := Aside0.mk hl564_0; clear hi564_0 hl564_0; replace p564 := eq_true p564; replace q564 := eq_true q564; have ea_ := Option.some.inj (hx560_0.symm.trans hx564_0); injection ea_ with ea_ en_ ec_; subst ea_; subst ec_; clear en_)))
               go_roundg k2
               case measure => have := HJ2.out; have := HK2.out; omega
               case rel => exact ⟨(true), (wrap64 (Int.tdiv x6_2 2)), (wrap64 (x7_2 + 1)), (by first | rfl | (simp; done) | (simp [*]; done)), (by first | rfl | (simp; done) | (simp [*]; done)), (by first | rfl | (simp; done) | (simp [*]; done)), H', ⟨by have := HJ2.out; have := HK2.out; omega⟩, ⟨bq HB.out⟩⟩
              ·rw [if_neg c29] at H
               have c29b0 : ((Int.tmod x6_2 2) == 0) = false := beq_eq_false_iff_ne.mpr c29
               have c29b1 : ((Int.tmod x6_2 2) != 0) = true := bne_iff_ne.mpr c29
               have H' := Aside0.mk H
               clear H
               have p560 : 0 ≤ (x7_2 : Int) := of_decide_eq_true (by first | (with_reducible assumption) | assumption)
               have q560 : x7_2 < (l0.length : Int) := of_decide_eq_true (by first | (with_reducible assumption) | assumption)
               obtain ⟨ad560, A560_0, c560_0, e560, hx560_0, hl560_0, hi560_0⟩ := at_L1 HR0.out x7_2 p560 q560
               cases e560
               replace hx560_0 := (HB.out.cell (World.block_lt_of_cell? w _ hx560_0)).trans hx560_0
               have HR560_0 := Aside0.mk hi560_0
               have HC560_0 := Aside0.mk hl560_0
               clear hi560_0 hl560_0
               replace p560 := eq_true p560
               replace q560 := eq_true q560
               go_wp2_with (first | (go_at_call 9; (with_reducible refine (steeplelaw01_Few.calls k2 _ _ (rd_L1 l0 x7_2) 20 40 true _ ?side1 ?side2 A12.out).mono ?_); (case side1 => repeat (first | exact (Kd.C_below HR560_0.out HB.out) | (with_reducible refine Kd.C_alloc ?_ _) | (with_reducible refine Kd.C_drewN ?_ _) | (with_reducible refine Kd.C_drew ?_))); (case side2 => exact HC560_0.out); rintro e w' ⟨rfl, ⟨nd, rfl⟩⟩; (try first | exact ⟨rfl, _, World.drewN_drewN _ _ _⟩ | exact ⟨rfl, _, Eq.trans (World.drewN_drewN _ _ _) (congrArg (World.drewN _) (Nat.add_assoc _ _ _))⟩); have p564 : 0 ≤ (x7_2 : Int) := of_decide_eq_true (by first | (with_reducible assumption) | assumption); have q564 : x7_2 < (l0.length : Int) := of_decide_eq_true (by first | (with_reducible assumption) | assumption); obtain ⟨ad564, A564_0, c564_0, e564, hx564_0, hl564_0, hi564_0⟩ := at_L1 HR0.out x7_2 p564 q564; obtain rfl : ad560 = ad564 := (by injection e564); replace hx564_0 := (HB.out.cell (World.block_lt_of_cell? w _ hx564_0)).trans hx564_0; have HR564_0 := Aside0.mk hi564_0; have HC564_0 := Aside0.mk hl564_0; clear hi564_0 hl564_0; replace p564 := eq_true p564; replace q564 := eq_true q564; have ea_ := Option.some.inj (hx560_0.symm.trans hx564_0); injection ea_ with ea_ en_ ec_; subst ea_; subst ec_; clear en_))
               repeat (go_quiet (first | (go_at_call 9; (with_reducible refine (steeplelaw01_Few.calls k2 _ _ (rd_L1 l0 x7_2) 20 40 true _ ?side1 ?side2 A12.out).mono ?_); (case side1 => repeat (first | exact (Kd.C_below HR560_0.out HB.out) | (with_reducible refine Kd.C_alloc ?_ _) | (with_reducible refine Kd.C_drewN ?_ _) | (with_reducible refine Kd.C_drew ?_))); (case side2 => exact HC560_0.out); rintro e w' ⟨rfl, ⟨nd, rfl⟩⟩; (try first | exact ⟨rfl, _, World.drewN_drewN _ _ _⟩ | exact ⟨rfl, _, Eq.trans (World.drewN_drewN _ _ _) (congrArg (World.drewN _) (Nat.add_assoc _ _ _))⟩); have p564 : 0 ≤ (x7_2 : Int) := of_decide_eq_true (by first | (with_reducible assumption) | assumption); have q564 : x7_2 < (l0.length : Int) := of_decide_eq_true (by first | (with_reducible assumption) | assumption); obtain ⟨ad564, A564_0, c564_0, e564, hx564_0, hl564_0, hi564_0⟩ := at_L1 HR0.out x7_2 p564 q564; obtain rfl : ad560 = ad564 := (by injection e564); replace hx564_0 := (HB.out.cell (World.block_lt_of_cell? w _ hx564_0)).trans hx564_0; have HR564_0 := Aside0.mk hi564_0; have HC564_0 := Aside0.mk hl564_0; clear hi564_0 hl564_0; replace p564 := eq_true p564; replace q564 := eq_true q564; have ea_ := Option.some.inj (hx560_0.symm.trans hx564_0); injection ea_ with ea_ en_ ec_; subst ea_; subst ec_; clear en_)); try go_wp2_with (first | (go_at_call 9; (with_reducible refine (steeplelaw01_Few.calls k2 _ _ (rd_L1 l0 x7_2) 20 40 true _ ?side1 ?side2 A12.out).mono ?_); (case side1 => repeat (first | exact (Kd.C_below HR560_0.out HB.out) | (with_reducible refine Kd.C_alloc ?_ _) | (with_reducible refine Kd.C_drewN ?_ _) | (with_reducible refine Kd.C_drew ?_))); (case side2 => exact HC560_0.out); rintro e w' ⟨rfl, ⟨nd, rfl⟩⟩; (try first | exact ⟨rfl, _, World.drewN_drewN _ _ _⟩ | exact ⟨rfl, _, Eq.trans (World.drewN_drewN _ _ _) (congrArg (World.drewN _) (Nat.add_assoc _ _ _))⟩); have p564 : 0 ≤ (x7_2 : Int) := of_decide_eq_true (by first | (with_reducible assumption) | assumption); have q564 : x7_2 < (l0.length : Int) := of_decide_eq_true (by first | (with_reducible assumption) | assumption); obtain ⟨ad564, A564_0, c564_0, e564, hx564_0, hl564_0, hi564_0⟩ := at_L1 HR0.out x7_2 p564 q564; obtain rfl : ad560 = ad564 := (by injection e564); replace hx564_0 := (HB.out.cell (World.block_lt_of_cell? w _ hx564_0)).trans hx564_0; have HR564_0 := Aside0.mk hi564_0; have HC564_0 := Aside0.mk hl564_0; clear hi564_0 hl564_0; replace p564 := eq_true p564; replace q564 := eq_true q564; have ea_ := Option.some.inj (hx560_0.symm.trans hx564_0); injection ea_ with ea_ en_ ec_; subst ea_; subst ec_; clear en_)))
               go_roundg k2
               case measure => have := HJ2.out; have := HK2.out; omega
               case rel => exact ⟨((x7_2 == (wrap64 ((l0.length : Int) - 1)))), (wrap64 (Int.tdiv x6_2 2)), (wrap64 (x7_2 + 1)), (by first | rfl | (simp; done) | (simp [*]; done)), (by first | rfl | (simp; done) | (simp [*]; done)), (by first | rfl | (simp; done) | (simp [*]; done)), H', ⟨by have := HJ2.out; have := HK2.out; omega⟩, ⟨bq HB.out⟩⟩
             ·rw [if_neg c28] at H
              have c28b0 : (x6_2 == 1) = false := beq_eq_false_iff_ne.mpr c28
              have c28b1 : (x6_2 != 1) = true := bne_iff_ne.mpr c28
              have H' := Aside0.mk H
              clear H
              have p560 : 0 ≤ (x7_2 : Int) := of_decide_eq_true (by first | (with_reducible assumption) | assumption)
              have q560 : x7_2 < (l0.length : Int) := of_decide_eq_true (by first | (with_reducible assumption) | assumption)
              obtain ⟨ad560, A560_0, c560_0, e560, hx560_0, hl560_0, hi560_0⟩ := at_L1 HR0.out x7_2 p560 q560
              cases e560
              replace hx560_0 := (HB.out.cell (World.block_lt_of_cell? w _ hx560_0)).trans hx560_0
              have HR560_0 := Aside0.mk hi560_0
              have HC560_0 := Aside0.mk hl560_0
              clear hi560_0 hl560_0
              replace p560 := eq_true p560
              replace q560 := eq_true q560
              go_wp2_with (first | (go_at_call 9; (with_reducible refine (steeplelaw01_Few.calls k2 _ _ (rd_L1 l0 x7_2) 20 40 true _ ?side1 ?side2 A12.out).mono ?_); (case side1 => repeat (first | exact (Kd.C_below HR560_0.out HB.out) | (with_reducible refine Kd.C_alloc ?_ _) | (with_reducible refine Kd.C_drewN ?_ _) | (with_reducible refine Kd.C_drew ?_))); (case side2 => exact HC560_0.out); rintro e w' ⟨rfl, ⟨nd, rfl⟩⟩; (try first | exact ⟨rfl, _, World.drewN_drewN _ _ _⟩ | exact ⟨rfl, _, Eq.trans (World.drewN_drewN _ _ _) (congrArg (World.drewN _) (Nat.add_assoc _ _ _))⟩); have p564 : 0 ≤ (x7_2 : Int) := of_decide_eq_true (by first | (with_reducible assumption) | assumption); have q564 : x7_2 < (l0.length : Int) := of_decide_eq_true (by first | (with_reducible assumption) | assumption); obtain ⟨ad564, A564_0, c564_0, e564, hx564_0, hl564_0, hi564_0⟩ := at_L1 HR0.out x7_2 p564 q564; obtain rfl : ad560 = ad564 := (by injection e564); replace hx564_0 := (HB.out.cell (World.block_lt_of_cell? w _ hx564_0)).trans hx564_0; have HR564_0 := Aside0.mk hi564_0; have HC564_0 := Aside0.mk hl564_0; clear hi564_0 hl564_0; replace p564 := eq_true p564; replace q564 := eq_true q564; have ea_ := Option.some.inj (hx560_0.symm.trans hx564_0); injection ea_ with ea_ en_ ec_; subst ea_; subst ec_; clear en_))
              repeat (go_quiet (first | (go_at_call 9; (with_reducible refine (steeplelaw01_Few.calls k2 _ _ (rd_L1 l0 x7_2) 20 40 true _ ?side1 ?side2 A12.out).mono ?_); (case side1 => repeat (first | exact (Kd.C_below HR560_0.out HB.out) | (with_reducible refine Kd.C_alloc ?_ _) | (with_reducible refine Kd.C_drewN ?_ _) | (with_reducible refine Kd.C_drew ?_))); (case side2 => exact HC560_0.out); rintro e w' ⟨rfl, ⟨nd, rfl⟩⟩; (try first | exact ⟨rfl, _, World.drewN_drewN _ _ _⟩ | exact ⟨rfl, _, Eq.trans (World.drewN_drewN _ _ _) (congrArg (World.drewN _) (Nat.add_assoc _ _ _))⟩); have p564 : 0 ≤ (x7_2 : Int) := of_decide_eq_true (by first | (with_reducible assumption) | assumption); have q564 : x7_2 < (l0.length : Int) := of_decide_eq_true (by first | (with_reducible assumption) | assumption); obtain ⟨ad564, A564_0, c564_0, e564, hx564_0, hl564_0, hi564_0⟩ := at_L1 HR0.out x7_2 p564 q564; obtain rfl : ad560 = ad564 := (by injection e564); replace hx564_0 := (HB.out.cell (World.block_lt_of_cell? w _ hx564_0)).trans hx564_0; have HR564_0 := Aside0.mk hi564_0; have HC564_0 := Aside0.mk hl564_0; clear hi564_0 hl564_0; replace p564 := eq_true p564; replace q564 := eq_true q564; have ea_ := Option.some.inj (hx560_0.symm.trans hx564_0); injection ea_ with ea_ en_ ec_; subst ea_; subst ec_; clear en_)); try go_wp2_with (first | (go_at_call 9; (with_reducible refine (steeplelaw01_Few.calls k2 _ _ (rd_L1 l0 x7_2) 20 40 true _ ?side1 ?side2 A12.out).mono ?_); (case side1 => repeat (first | exact (Kd.C_below HR560_0.out HB.out) | (with_reducible refine Kd.C_alloc ?_ _) | (with_reducible refine Kd.C_drewN ?_ _) | (with_reducible refine Kd.C_drew ?_))); (case side2 => exact HC560_0.out); rintro e w' ⟨rfl, ⟨nd, rfl⟩⟩; (try first | exact ⟨rfl, _, World.drewN_drewN _ _ _⟩ | exact ⟨rfl, _, Eq.trans (World.drewN_drewN _ _ _) (congrArg (World.drewN _) (Nat.add_assoc _ _ _))⟩); have p564 : 0 ≤ (x7_2 : Int) := of_decide_eq_true (by first | (with_reducible assumption) | assumption); have q564 : x7_2 < (l0.length : Int) := of_decide_eq_true (by first | (with_reducible assumption) | assumption); obtain ⟨ad564, A564_0, c564_0, e564, hx564_0, hl564_0, hi564_0⟩ := at_L1 HR0.out x7_2 p564 q564; obtain rfl : ad560 = ad564 := (by injection e564); replace hx564_0 := (HB.out.cell (World.block_lt_of_cell? w _ hx564_0)).trans hx564_0; have HR564_0 := Aside0.mk hi564_0; have HC564_0 := Aside0.mk hl564_0; clear hi564_0 hl564_0; replace p564 := eq_true p564; replace q564 := eq_true q564; have ea_ := Option.some.inj (hx560_0.symm.trans hx564_0); injection ea_ with ea_ en_ ec_; subst ea_; subst ec_; clear en_)))
              go_roundg k2
              case measure => have := HJ2.out; have := HK2.out; omega
              case rel => exact ⟨(false), (wrap64 (Int.tdiv x6_2 2)), (wrap64 (x7_2 + 1)), (by first | rfl | (simp; done) | (simp [*]; done)), (by first | rfl | (simp; done) | (simp [*]; done)), (by first | rfl | (simp; done) | (simp [*]; done)), H', ⟨by have := HJ2.out; have := HK2.out; omega⟩, ⟨bq HB.out⟩⟩
           ·rw [if_neg c24] at H
            have c24b0 : (((rd_L1 l0 x7_2).length : Int) == x6_2) = false := beq_eq_false_iff_ne.mpr c24
            have c24b1 : (((rd_L1 l0 x7_2).length : Int) != x6_2) = true := bne_iff_ne.mpr c24
            have H' := Aside0.mk H
            clear H
            have p560 : 0 ≤ (x7_2 : Int) := of_decide_eq_true (by first | (with_reducible assumption) | assumption)
            have q560 : x7_2 < (l0.length : Int) := of_decide_eq_true (by first | (with_reducible assumption) | assumption)
            obtain ⟨ad560, A560_0, c560_0, e560, hx560_0, hl560_0, hi560_0⟩ := at_L1 HR0.out x7_2 p560 q560
            cases e560
            replace hx560_0 := (HB.out.cell (World.block_lt_of_cell? w _ hx560_0)).trans hx560_0
            have HR560_0 := Aside0.mk hi560_0
            have HC560_0 := Aside0.mk hl560_0
            clear hi560_0 hl560_0
            replace p560 := eq_true p560
            replace q560 := eq_true q560
            go_wp2_with (first | (go_at_call 9; (with_reducible refine (steeplelaw01_Few.calls k2 _ _ (rd_L1 l0 x7_2) 20 40 true _ ?side1 ?side2 A12.out).mono ?_); (case side1 => repeat (first | exact (Kd.C_below HR560_0.out HB.out) | (with_reducible refine Kd.C_alloc ?_ _) | (with_reducible refine Kd.C_drewN ?_ _) | (with_reducible refine Kd.C_drew ?_))); (case side2 => exact HC560_0.out); rintro e w' ⟨rfl, ⟨nd, rfl⟩⟩; (try first | exact ⟨rfl, _, World.drewN_drewN _ _ _⟩ | exact ⟨rfl, _, Eq.trans (World.drewN_drewN _ _ _) (congrArg (World.drewN _) (Nat.add_assoc _ _ _))⟩); have p564 : 0 ≤ (x7_2 : Int) := of_decide_eq_true (by first | (with_reducible assumption) | assumption); have q564 : x7_2 < (l0.length : Int) := of_decide_eq_true (by first | (with_reducible assumption) | assumption); obtain ⟨ad564, A564_0, c564_0, e564, hx564_0, hl564_0, hi564_0⟩ := at_L1 HR0.out x7_2 p564 q564; obtain rfl : ad560 = ad564 := (by injection e564); replace hx564_0 := (HB.out.cell (World.block_lt_of_cell? w _ hx564_0)).trans hx564_0; have HR564_0 := Aside0.mk hi564_0; have HC564_0 := Aside0.mk hl564_0; clear hi564_0 hl564_0; replace p564 := eq_true p564; replace q564 := eq_true q564; have ea_ := Option.some.inj (hx560_0.symm.trans hx564_0); injection ea_ with ea_ en_ ec_; subst ea_; subst ec_; clear en_))
            repeat (go_quiet (first | (go_at_call 9; (with_reducible refine (steeplelaw01_Few.calls k2 _ _ (rd_L1 l0 x7_2) 20 40 true _ ?side1 ?side2 A12.out).mono ?_); (case side1 => repeat (first | exact (Kd.C_below HR560_0.out HB.out) | (with_reducible refine Kd.C_alloc ?_ _) | (with_reducible refine Kd.C_drewN ?_ _) | (with_reducible refine Kd.C_drew ?_))); (case side2 => exact HC560_0.out); rintro e w' ⟨rfl, ⟨nd, rfl⟩⟩; (try first | exact ⟨rfl, _, World.drewN_drewN _ _ _⟩ | exact ⟨rfl, _, Eq.trans (World.drewN_drewN _ _ _) (congrArg (World.drewN _) (Nat.add_assoc _ _ _))⟩); have p564 : 0 ≤ (x7_2 : Int) := of_decide_eq_true (by first | (with_reducible assumption) | assumption); have q564 : x7_2 < (l0.length : Int) := of_decide_eq_true (by first | (with_reducible assumption) | assumption); obtain ⟨ad564, A564_0, c564_0, e564, hx564_0, hl564_0, hi564_0⟩ := at_L1 HR0.out x7_2 p564 q564; obtain rfl : ad560 = ad564 := (by injection e564); replace hx564_0 := (HB.out.cell (World.block_lt_of_cell? w _ hx564_0)).trans hx564_0; have HR564_0 := Aside0.mk hi564_0; have HC564_0 := Aside0.mk hl564_0; clear hi564_0 hl564_0; replace p564 := eq_true p564; replace q564 := eq_true q564; have ea_ := Option.some.inj (hx560_0.symm.trans hx564_0); injection ea_ with ea_ en_ ec_; subst ea_; subst ec_; clear en_)); try go_wp2_with (first | (go_at_call 9; (with_reducible refine (steeplelaw01_Few.calls k2 _ _ (rd_L1 l0 x7_2) 20 40 true _ ?side1 ?side2 A12.out).mono ?_); (case side1 => repeat (first | exact (Kd.C_below HR560_0.out HB.out) | (with_reducible refine Kd.C_alloc ?_ _) | (with_reducible refine Kd.C_drewN ?_ _) | (with_reducible refine Kd.C_drew ?_))); (case side2 => exact HC560_0.out); rintro e w' ⟨rfl, ⟨nd, rfl⟩⟩; (try first | exact ⟨rfl, _, World.drewN_drewN _ _ _⟩ | exact ⟨rfl, _, Eq.trans (World.drewN_drewN _ _ _) (congrArg (World.drewN _) (Nat.add_assoc _ _ _))⟩); have p564 : 0 ≤ (x7_2 : Int) := of_decide_eq_true (by first | (with_reducible assumption) | assumption); have q564 : x7_2 < (l0.length : Int) := of_decide_eq_true (by first | (with_reducible assumption) | assumption); obtain ⟨ad564, A564_0, c564_0, e564, hx564_0, hl564_0, hi564_0⟩ := at_L1 HR0.out x7_2 p564 q564; obtain rfl : ad560 = ad564 := (by injection e564); replace hx564_0 := (HB.out.cell (World.block_lt_of_cell? w _ hx564_0)).trans hx564_0; have HR564_0 := Aside0.mk hi564_0; have HC564_0 := Aside0.mk hl564_0; clear hi564_0 hl564_0; replace p564 := eq_true p564; replace q564 := eq_true q564; have ea_ := Option.some.inj (hx560_0.symm.trans hx564_0); injection ea_ with ea_ en_ ec_; subst ea_; subst ec_; clear en_)))
            go_roundg k2
            case measure => have := HJ2.out; have := HK2.out; omega
            case rel => exact ⟨(false), (wrap64 (Int.tdiv x6_2 2)), (wrap64 (x7_2 + 1)), (by first | rfl | (simp; done) | (simp [*]; done)), (by first | rfl | (simp; done) | (simp [*]; done)), (by first | rfl | (simp; done) | (simp [*]; done)), H', ⟨by have := HJ2.out; have := HK2.out; omega⟩, ⟨bq HB.out⟩⟩
          ·replace c23 := Bool.eq_false_iff.mpr c23
           subst c23
           have H1 : (steeplelaw12_MerkleRows.l0 k2 l0 a1 false (wrap64 (Int.tdiv x6_2 2)) (wrap64 (x7_2 + 1))) = some r := by rw [if_neg (show ¬ (false = true) by decide)] at H; exact H
           clear H
           have H := H1
           clear H1
           have H' := Aside0.mk H
           clear H
           have p560 : 0 ≤ (x7_2 : Int) := of_decide_eq_true (by first | (with_reducible assumption) | assumption)
           have q560 : x7_2 < (l0.length : Int) := of_decide_eq_true (by first | (with_reducible assumption) | assumption)
           obtain ⟨ad560, A560_0, c560_0, e560, hx560_0, hl560_0, hi560_0⟩ := at_L1 HR0.out x7_2 p560 q560
           cases e560
           replace hx560_0 := (HB.out.cell (World.block_lt_of_cell? w _ hx560_0)).trans hx560_0
           have HR560_0 := Aside0.mk hi560_0
           have HC560_0 := Aside0.mk hl560_0
           clear hi560_0 hl560_0
           replace p560 := eq_true p560
           replace q560 := eq_true q560
           go_wp2_with (first | (go_at_call 9; (with_reducible refine (steeplelaw01_Few.calls k2 _ _ (rd_L1 l0 x7_2) 20 40 true _ ?side1 ?side2 A12.out).mono ?_); (case side1 => repeat (first | exact (Kd.C_below HR560_0.out HB.out) | (with_reducible refine Kd.C_alloc ?_ _) | (with_reducible refine Kd.C_drewN ?_ _) | (with_reducible refine Kd.C_drew ?_))); (case side2 => exact HC560_0.out); rintro e w' ⟨rfl, ⟨nd, rfl⟩⟩; (try first | exact ⟨rfl, _, World.drewN_drewN _ _ _⟩ | exact ⟨rfl, _, Eq.trans (World.drewN_drewN _ _ _) (congrArg (World.drewN _) (Nat.add_assoc _ _ _))⟩)))
           repeat (go_quiet (first | (go_at_call 9; (with_reducible refine (steeplelaw01_Few.calls k2 _ _ (rd_L1 l0 x7_2) 20 40 true _ ?side1 ?side2 A12.out).mono ?_); (case side1 => repeat (first | exact (Kd.C_below HR560_0.out HB.out) | (with_reducible refine Kd.C_alloc ?_ _) | (with_reducible refine Kd.C_drewN ?_ _) | (with_reducible refine Kd.C_drew ?_))); (case side2 => exact HC560_0.out); rintro e w' ⟨rfl, ⟨nd, rfl⟩⟩; (try first | exact ⟨rfl, _, World.drewN_drewN _ _ _⟩ | exact ⟨rfl, _, Eq.trans (World.drewN_drewN _ _ _) (congrArg (World.drewN _) (Nat.add_assoc _ _ _))⟩))); try go_wp2_with (first | (go_at_call 9; (with_reducible refine (steeplelaw01_Few.calls k2 _ _ (rd_L1 l0 x7_2) 20 40 true _ ?side1 ?side2 A12.out).mono ?_); (case side1 => repeat (first | exact (Kd.C_below HR560_0.out HB.out) | (with_reducible refine Kd.C_alloc ?_ _) | (with_reducible refine Kd.C_drewN ?_ _) | (with_reducible refine Kd.C_drew ?_))); (case side2 => exact HC560_0.out); rintro e w' ⟨rfl, ⟨nd, rfl⟩⟩; (try first | exact ⟨rfl, _, World.drewN_drewN _ _ _⟩ | exact ⟨rfl, _, Eq.trans (World.drewN_drewN _ _ _) (congrArg (World.drewN _) (Nat.add_assoc _ _ _))⟩))))
           go_roundg k2
           case measure => have := HJ2.out; have := HK2.out; omega
           case rel => exact ⟨(false), (wrap64 (Int.tdiv x6_2 2)), (wrap64 (x7_2 + 1)), (by first | rfl | (simp; done) | (simp [*]; done)), (by first | rfl | (simp; done) | (simp [*]; done)), (by first | rfl | (simp; done) | (simp [*]; done)), H', ⟨by have := HJ2.out; have := HK2.out; omega⟩, ⟨bq HB.out⟩⟩
        ·replace c13 := Bool.eq_false_iff.mpr c13
         subst c13
         have H1 : (some true) = some r := by rw [if_neg (show ¬ (false = true) by decide)] at H; exact H
         clear H
         have H := H1
         clear H1
         obtain rfl := Option.some.inj H
         have p560 : 0 ≤ (x7_2 : Int) := of_decide_eq_true (by first | (with_reducible assumption) | assumption)
         have q560 : x7_2 < (l0.length : Int) := of_decide_eq_true (by first | (with_reducible assumption) | assumption)
         obtain ⟨ad560, A560_0, c560_0, e560, hx560_0, hl560_0, hi560_0⟩ := at_L1 HR0.out x7_2 p560 q560
         cases e560
         replace hx560_0 := (HB.out.cell (World.block_lt_of_cell? w _ hx560_0)).trans hx560_0
         have HR560_0 := Aside0.mk hi560_0
         have HC560_0 := Aside0.mk hl560_0
         clear hi560_0 hl560_0
         replace p560 := eq_true p560
         replace q560 := eq_true q560
         go_wp2_with (first | (go_at_call 9; (with_reducible refine (steeplelaw01_Few.calls k2 _ _ (rd_L1 l0 x7_2) 20 40 false _ ?side1 ?side2 A12.out).mono ?_); (case side1 => repeat (first | exact (Kd.C_below HR560_0.out HB.out) | (with_reducible refine Kd.C_alloc ?_ _) | (with_reducible refine Kd.C_drewN ?_ _) | (with_reducible refine Kd.C_drew ?_))); (case side2 => exact HC560_0.out); rintro e w' ⟨rfl, ⟨nd, rfl⟩⟩; (try first | exact ⟨rfl, _, World.drewN_drewN _ _ _⟩ | exact ⟨rfl, _, Eq.trans (World.drewN_drewN _ _ _) (congrArg (World.drewN _) (Nat.add_assoc _ _ _))⟩)))
         repeat (go_quiet (first | (go_at_call 9; (with_reducible refine (steeplelaw01_Few.calls k2 _ _ (rd_L1 l0 x7_2) 20 40 false _ ?side1 ?side2 A12.out).mono ?_); (case side1 => repeat (first | exact (Kd.C_below HR560_0.out HB.out) | (with_reducible refine Kd.C_alloc ?_ _) | (with_reducible refine Kd.C_drewN ?_ _) | (with_reducible refine Kd.C_drew ?_))); (case side2 => exact HC560_0.out); rintro e w' ⟨rfl, ⟨nd, rfl⟩⟩; (try first | exact ⟨rfl, _, World.drewN_drewN _ _ _⟩ | exact ⟨rfl, _, Eq.trans (World.drewN_drewN _ _ _) (congrArg (World.drewN _) (Nat.add_assoc _ _ _))⟩))); try go_wp2_with (first | (go_at_call 9; (with_reducible refine (steeplelaw01_Few.calls k2 _ _ (rd_L1 l0 x7_2) 20 40 false _ ?side1 ?side2 A12.out).mono ?_); (case side1 => repeat (first | exact (Kd.C_below HR560_0.out HB.out) | (with_reducible refine Kd.C_alloc ?_ _) | (with_reducible refine Kd.C_drewN ?_ _) | (with_reducible refine Kd.C_drew ?_))); (case side2 => exact HC560_0.out); rintro e w' ⟨rfl, ⟨nd, rfl⟩⟩; (try first | exact ⟨rfl, _, World.drewN_drewN _ _ _⟩ | exact ⟨rfl, _, Eq.trans (World.drewN_drewN _ _ _) (congrArg (World.drewN _) (Nat.add_assoc _ _ _))⟩))))
         go_ret
         exact ⟨by first | rfl | (simp [errW_none, errW_some] <;> rfl) | (simp [*, errW_none, errW_some] <;> rfl), bq HB.out⟩
       ·rw [if_neg c11] at H
        exact absurd H (by simp)
      ·rw [if_neg c10] at H
       have c10b0 : decide (x7_2 < (l0.length : Int)) = false := decide_eq_false c10
       clear c10
       replace H := Option.bind_eq_some_iff.mp H
       obtain ⟨⟨t565, t566⟩, A300, H⟩ := H
       replace H : (if (l0.length : Int) = 0 then (steeplelaw12_MerkleRows.j2 k2 l0 a1 x5_2 t565 t566 true) else (if a1 < 0 then (steeplelaw12_MerkleRows.j2 k2 l0 a1 x5_2 t565 t566 true) else (if 0 < (l0.length : Int) then (steeplelaw12_MerkleRows.j2 k2 l0 a1 x5_2 t565 t566 (decide (a1 ≥ ((rd_L1 l0 0).length : Int)))) else (none)))) = some r := H
       have A30 := Aside0.mk A300
       clear A300
       have HC31 := Aside0.mk H
       clear H
       go_upto_region 15 with (first | (go_at_call 14; (with_reducible refine (merkle_Path.calls k2 _ _ l0 a1 t565 t566 _ ?side1 ?side2 A30.out).mono ?_); (case side1 => repeat (first | exact (Kd.C_below HR0.out HB.out) | (with_reducible refine Kd.C_alloc ?_ _) | (with_reducible refine Kd.C_drewN ?_ _) | (with_reducible refine Kd.C_drew ?_))); (case side2 => exact HC0.out); rintro e w32 ⟨v567, rfl, ho0, hb⟩; have HO568 := kw ho0 HB; replace HB := bh HB hb; (try clear hb); (try clear hb2); (try clear hk); (try clear hi); (try clear ho0)))
       repeat (go_quiet (first | (go_at_call 14; (with_reducible refine (merkle_Path.calls k2 _ _ l0 a1 t565 t566 _ ?side1 ?side2 A30.out).mono ?_); (case side1 => repeat (first | exact (Kd.C_below HR0.out HB.out) | (with_reducible refine Kd.C_alloc ?_ _) | (with_reducible refine Kd.C_drewN ?_ _) | (with_reducible refine Kd.C_drew ?_))); (case side2 => exact HC0.out); rintro e w32 ⟨v567, rfl, ho0, hb⟩; have HO568 := kw ho0 HB; replace HB := bh HB hb; (try clear hb); (try clear hb2); (try clear hk); (try clear hi); (try clear ho0))); go_upto_region 15 with (first | (go_at_call 14; (with_reducible refine (merkle_Path.calls k2 _ _ l0 a1 t565 t566 _ ?side1 ?side2 A30.out).mono ?_); (case side1 => repeat (first | exact (Kd.C_below HR0.out HB.out) | (with_reducible refine Kd.C_alloc ?_ _) | (with_reducible refine Kd.C_drewN ?_ _) | (with_reducible refine Kd.C_drew ?_))); (case side2 => exact HC0.out); rintro e w32 ⟨v567, rfl, ho0, hb⟩; have HO568 := kw ho0 HB; replace HB := bh HB hb; (try clear hb); (try clear hb2); (try clear hk); (try clear hi); (try clear ho0))))
       (try simp only [Act.put, List.setIfInBounds_toArray, List.set_cons_zero, List.set_cons_succ])
       go_cut [99] (fun v99 wc => ∃ (kq : Nat) (x99_30 : Bool), v99 = .bool x99_30 ∧ Aside0 (steeplelaw12_MerkleRows.j2 kq l0 a1 x5_2 t565 t566 x99_30 = some r) ∧ Aside0 (kq ≤ k2) ∧ Aside0 (Kd.R Kd.string 9 wc w.heap.size (fun _ => True) v567 t565) ∧ Aside0 (Below w.heap.size w wc))
       case first =>
        have H := HC31.out
        clear HC31
        by_cases c33 : (l0.length : Int) = 0
        ·rw [if_pos c33] at H
         have c33b0 : ((l0.length : Int) == 0) = true := beq_iff_eq.mpr c33
         have c33b1 : ((l0.length : Int) != 0) = false := bne_eq_false_iff_eq.mpr c33
         clear c33
         (first | rw [c33b0] | (simp only [i64_w, i32_w]; rw [c33b0]) | skip)
         have H' := Aside0.mk H
         clear H
         go_wp2
         repeat (go_quiet (fail); try go_wp2)
         go_meet
         case rel => exact ⟨_, (true), (by first | rfl | (simp; done) | (simp [*]; done)), H', ⟨by have := HJ2.out; have := HK2.out; first | omega | exact Nat.le_refl _⟩, ⟨kr HO568.out⟩, ⟨bq HB.out⟩⟩
        ·rw [if_neg c33] at H
         have c33b0 : ((l0.length : Int) == 0) = false := beq_eq_false_iff_ne.mpr c33
         have c33b1 : ((l0.length : Int) != 0) = true := bne_iff_ne.mpr c33
         have c33b2 : ¬ (l0 = []) := fun h_ => c33 (by rw [h_]; rfl)
         (first | rw [c33b0] | (simp only [i64_w, i32_w]; rw [c33b0]) | skip)
         by_cases c34 : a1 < 0
         ·rw [if_pos c34] at H
          have c34b0 : decide (a1 < 0) = true := decide_eq_true c34
          clear c34
          have H' := Aside0.mk H
          clear H
          go_wp2
          repeat (go_quiet (fail); try go_wp2)
          go_meet
          case rel => exact ⟨_, (true), (by first | rfl | (simp; done) | (simp [*]; done)), H', ⟨by have := HJ2.out; have := HK2.out; first | omega | exact Nat.le_refl _⟩, ⟨kr HO568.out⟩, ⟨bq HB.out⟩⟩
         ·rw [if_neg c34] at H
          have c34b0 : decide (a1 < 0) = false := decide_eq_false c34
          clear c34
          by_cases c35 : 0 < (l0.length : Int)
          ·rw [if_pos c35] at H
           have c35b0 : decide (0 < (l0.length : Int)) = true := decide_eq_true c35
           have c35b1 : decide (0 < l0.length) = true := decide_eq_true (by omega)
           clear c35
           have H' := Aside0.mk H
           clear H
           have p569 : 0 ≤ (0 : Int) := (by omega)
           have q569 : 0 < (l0.length : Int) := of_decide_eq_true (by first | (with_reducible assumption) | assumption)
           obtain ⟨ad569, A569_0, c569_0, e569, hx569_0, hl569_0, hi569_0⟩ := at_L1 HR0.out 0 p569 q569
           cases e569
           have qi569 : (0 < l0.length) = True := eq_true (by omega)
           (try rw [show ((0 : Int)).toNat = 0 from rfl] at hx569_0)
           (try rw [Addr.add_zero'] at hx569_0)
           replace hx569_0 := (HB.out.cell (World.block_lt_of_cell? w _ hx569_0)).trans hx569_0
           have HR569_0 := Aside0.mk hi569_0
           have HC569_0 := Aside0.mk hl569_0
           clear hi569_0 hl569_0
           replace p569 := eq_true p569
           replace q569 := eq_true q569
           go_wp2
           repeat (go_quiet (fail); try go_wp2)
           go_meet
           case rel => exact ⟨_, (decide (a1 ≥ ((rd_L1 l0 0).length : Int))), (by first | rfl | (simp; done) | (simp [*]; done)), H', ⟨by have := HJ2.out; have := HK2.out; first | omega | exact Nat.le_refl _⟩, ⟨kr HO568.out⟩, ⟨bq HB.out⟩⟩
          ·rw [if_neg c35] at H
           exact absurd H (by simp)
       case rest =>
        clear HC31
        try clear c1
        try clear c2
        try clear p2
        try clear c3
        try clear c4
        try clear c4b0
        try clear c4b1
        try clear c5
        try clear p5
        try clear q5
        try clear hx5
        try clear qi5
        try clear p6
        try clear c7
        try clear c10
        try clear c10b0
        try clear c11
        try clear c11b0
        try clear c13
        try clear c14
        try clear c14b0
        try clear c14b1
        try clear c15
        try clear c15b0
        try clear c15b1
        try clear c16
        try clear c17
        try clear c17b0
        try clear c17b1
        try clear c17b2
        try clear c18
        try clear c18b0
        try clear c19
        try clear c19b0
        try clear c19b1
        try clear c20
        try clear c20b0
        try clear c20b1
        try clear c21
        try clear c21b0
        try clear c21b1
        try clear c22
        try clear c22b0
        try clear c22b1
        try clear c23
        try clear c24
        try clear c24b0
        try clear c24b1
        try clear c25
        try clear c25b0
        try clear c26
        try clear c26b0
        try clear c26b1
        try clear c27
        try clear c27b0
        try clear c27b1
        try clear c28
        try clear c28b0
        try clear c28b1
        try clear c29
        try clear c29b0
        try clear c29b1
        try clear c33
        try clear c33b0
        try clear c33b1
        try clear c33b2
        try clear c34
        try clear c34b0
        try clear c35
        try clear c35b0
        try clear c35b1
        try clear hx560_0
        try clear hx562_0
        try clear hx563_0
        try clear hx564_0
        try clear hx569_0
        try clear p2
        try clear p560
        try clear p562
        try clear p563
        try clear p564
        try clear p569
        try clear q560
        try clear q562
        try clear q563
        try clear q564
        try clear q569
        obtain ⟨kq, x99_30, rfl, HA, HJ30, HO_8, HB⟩ := hcut
        cases kq with
        | zero => exact absurd HA.out (by simp [steeplelaw12_MerkleRows.j2])
        | succ kj30 =>
         have H := HA.out
         clear HA
         simp only [steeplelaw12_MerkleRows.j2] at H
         by_cases c36 : x99_30 = true
         ·subst c36
          have H1 : (if t566 = 4 then (some ((t565.length : Int) == 0)) else (none)) = some r := by rw [if_pos rfl] at H; exact H
          clear H
          have H := H1
          clear H1
          by_cases c37 : t566 = 4
          ·rw [if_pos c37] at H
           have c37b0 : (t566 == 4) = true := beq_iff_eq.mpr c37
           have c37b1 : (t566 != 4) = false := bne_eq_false_iff_eq.mpr c37
           clear c37
           obtain rfl := Option.some.inj H
           obtain ⟨Ao38, co38, eo38⟩ := Kd.R_slice HO_8.out
           subst eo38
           go_wp2
           repeat (go_quiet (fail); try go_wp2)
           go_ret
           exact ⟨by first | rfl | (simp [errW_none, errW_some] <;> rfl) | (simp [*, errW_none, errW_some] <;> rfl), bq HB.out⟩
          ·rw [if_neg c37] at H
           exact absurd H (by simp)
         ·replace c36 := Bool.eq_false_iff.mpr c36
          subst c36
          have H1 : (if x5_2 = true then (if t566 = 0 then (if (t565.length : Int) = (wrap64 ((l0.length : Int) - 1)) then (steeplelaw12_MerkleRows.l1 kj30 l0 a1 t565 0) else (none)) else (none)) else (if t566 = 6 then (some ((t565.length : Int) == 0)) else (none))) = some r := by rw [if_neg (show ¬ (false = true) by decide)] at H; exact H
          clear H
          have H := H1
          clear H1
          by_cases c39 : x5_2 = true
          ·subst c39
           have H1 : (if t566 = 0 then (if (t565.length : Int) = (wrap64 ((l0.length : Int) - 1)) then (steeplelaw12_MerkleRows.l1 kj30 l0 a1 t565 0) else (none)) else (none)) = some r := by rw [if_pos rfl] at H; exact H
           clear H
           have H := H1
           clear H1
           by_cases c40 : t566 = 0
           ·rw [if_pos c40] at H
            have c40b0 : (t566 == 0) = true := beq_iff_eq.mpr c40
            have c40b1 : (t566 != 0) = false := bne_eq_false_iff_eq.mpr c40
            clear c40
            by_cases c41 : (t565.length : Int) = (wrap64 ((l0.length : Int) - 1))
            ·rw [if_pos c41] at H
             have c41b0 : ((t565.length : Int) == (wrap64 ((l0.length : Int) - 1))) = true := beq_iff_eq.mpr c41
             have c41b1 : ((t565.length : Int) != (wrap64 ((l0.length : Int) - 1))) = false := bne_eq_false_iff_eq.mpr c41
             clear c41
             have H' := Aside0.mk H
             clear H
             obtain ⟨Ao42, co42, eo42⟩ := Kd.R_slice HO_8.out
             subst eo42
             go_wp2
             repeat (go_quiet (fail); try go_wp2)
             go_loopg [1, 10] kj30 (fun kq v1 v10 w' => ∃ (x1_4 : Int) (x10_4 : Int), v1 = .int .i64 x1_4 ∧ v10 = .int .i64 x10_4 ∧ Aside0 (steeplelaw12_MerkleRows.l1 kq l0 x1_4 t565 x10_4 = some r) ∧ Aside0 (kq ≤ kj30) ∧ Aside0 (Kd.R Kd.string 9 w' w.heap.size (fun _ => True) (.slice Ao42 t565.length co42) t565) ∧ Aside0 (Below w.heap.size w w'))
             case atStart => exact ⟨(a1), (0), (by first | rfl | (simp; done) | (simp [*]; done)), (by first | rfl | (simp; done) | (simp [*]; done)), H', ⟨Nat.le_refl _⟩, ⟨kr HO_8.out⟩, ⟨bq HB.out⟩⟩
             case round =>
              clear H'
              try clear c1
              try clear c2
              try clear p2
              try clear c3
              try clear c4
              try clear c4b0
              try clear c4b1
              try clear c5
              try clear p5
              try clear q5
              try clear hx5
              try clear qi5
              try clear p6
              try clear c7
              try clear c10
              try clear c10b0
              try clear c11
              try clear c11b0
              try clear c13
              try clear c14
              try clear c14b0
              try clear c14b1
              try clear c15
              try clear c15b0
              try clear c15b1
              try clear c16
              try clear c17
              try clear c17b0
              try clear c17b1
              try clear c17b2
              try clear c18
              try clear c18b0
              try clear c19
              try clear c19b0
              try clear c19b1
              try clear c20
              try clear c20b0
              try clear c20b1
              try clear c21
              try clear c21b0
              try clear c21b1
              try clear c22
              try clear c22b0
              try clear c22b1
              try clear c23
              try clear c24
              try clear c24b0
              try clear c24b1
              try clear c25
              try clear c25b0
              try clear c26
              try clear c26b0
              try clear c26b1
              try clear c27
              try clear c27b0
              try clear c27b1
              try clear c28
              try clear c28b0
              try clear c28b1
              try clear c29
              try clear c29b0
              try clear c29b1
              try clear c33
              try clear c33b0
              try clear c33b1
              try clear c33b2
              try clear c34
              try clear c34b0
              try clear c35
              try clear c35b0
              try clear c35b1
              try clear c36
              try clear c37
              try clear c37b0
              try clear c37b1
              try clear c39
              try clear c40
              try clear c40b0
              try clear c40b1
              try clear c41
              try clear c41b0
              try clear c41b1
              try clear hx560_0
              try clear hx562_0
              try clear hx563_0
              try clear hx564_0
              try clear hx569_0
              try clear p2
              try clear p5
              try clear p560
              try clear p562
              try clear p563
              try clear p564
              try clear p569
              try clear p6
              try clear q5
              try clear q560
              try clear q562
              try clear q563
              try clear q564
              try clear q569
              obtain ⟨x1_4, x10_4, rfl, rfl, HA, HK4, HO_8, HB⟩ := hrel
              cases gk with
              | zero => exact absurd HA.out (by simp [steeplelaw12_MerkleRows.l1])
              | succ k4 =>
               have H := HA.out
               clear HA
               simp only [steeplelaw12_MerkleRows.l1] at H
               by_cases c43 : x10_4 < (t565.length : Int)
               ·rw [if_pos c43] at H
                have c43b0 : decide (x10_4 < (t565.length : Int)) = true := decide_eq_true c43
                clear c43
                by_cases c44 : 0 ≤ x10_4
                ·rw [if_pos c44] at H
                 have c44b0 : decide (0 ≤ x10_4) = true := decide_eq_true c44
                 clear c44
                 by_cases c45 : x10_4 < (l0.length : Int)
                 ·rw [if_pos c45] at H
                  have c45b0 : decide (x10_4 < (l0.length : Int)) = true := decide_eq_true c45
                  clear c45
                  by_cases c46 : 0 ≤ (Go.bits .xor .i64 x1_4 1)
                  ·rw [if_pos c46] at H
                   have c46b0 : decide (0 ≤ (Go.bits .xor .i64 x1_4 1)) = true := decide_eq_true c46
                   clear c46
                   by_cases c47 : (Go.bits .xor .i64 x1_4 1) < ((rd_L1 l0 x10_4).length : Int)
                   ·rw [if_pos c47] at H
                    have c47b0 : decide ((Go.bits .xor .i64 x1_4 1) < ((rd_L1 l0 x10_4).length : Int)) = true := decide_eq_true c47
                    clear c47
                    by_cases c48 : (rdOf ByteArray.empty t565 x10_4).toList = (rdOf ByteArray.empty (rd_L1 l0 x10_4) (Go.bits .xor .i64 x1_4 1)).toList
                    ·rw [if_pos c48] at H
                     have c48b0 : ((rdOf ByteArray.empty t565 x10_4).toList == (rdOf ByteArray.empty (rd_L1 l0 x10_4) (Go.bits .xor .i64 x1_4 1)).toList) = true := beq_iff_eq.mpr c48
                     have c48b1 : ((rdOf ByteArray.empty t565 x10_4).toList != (rdOf ByteArray.empty (rd_L1 l0 x10_4) (Go.bits .xor .i64 x1_4 1)).toList) = false := bne_eq_false_iff_eq.mpr c48
                     clear c48
                     have H' := Aside0.mk H
                     clear H
                     have p570 : 0 ≤ (x10_4 : Int) := of_decide_eq_true (by first | (with_reducible assumption) | assumption)
                     have q570 : x10_4 < (t565.length : Int) := of_decide_eq_true (by first | (with_reducible assumption) | assumption)
                     (try (obtain ⟨Ap_, cp_, ep_⟩ := Kd.R_slice HO_8.out; subst ep_))
                     obtain ⟨ad570, e570, hx570_0⟩ := Kd.at_string (Kd.R_reads' HO_8.out).2.2 x10_4 p570 q570
                     cases e570
                     replace p570 := eq_true p570
                     replace q570 := eq_true q570
                     have p571 : 0 ≤ (x10_4 : Int) := of_decide_eq_true (by first | (with_reducible assumption) | assumption)
                     have q571 : x10_4 < (l0.length : Int) := of_decide_eq_true (by first | (with_reducible assumption) | assumption)
                     obtain ⟨ad571, A571_0, c571_0, e571, hx571_0, hl571_0, hi571_0⟩ := at_L1 HR0.out x10_4 p571 q571
                     cases e571
                     replace hx571_0 := (HB.out.cell (World.block_lt_of_cell? w _ hx571_0)).trans hx571_0
                     have HR571_0 := Aside0.mk hi571_0
                     have HC571_0 := Aside0.mk hl571_0
                     clear hi571_0 hl571_0
                     replace p571 := eq_true p571
                     replace q571 := eq_true q571
                     have p572 : 0 ≤ ((Go.bits .xor .i64 x1_4 1) : Int) := of_decide_eq_true (by first | (with_reducible assumption) | assumption)
                     have q572 : (Go.bits .xor .i64 x1_4 1) < ((rd_L1 l0 x10_4).length : Int) := of_decide_eq_true (by first | (with_reducible assumption) | assumption)
                     obtain ⟨ad572, e572, hx572_0⟩ := Kd.at_string HR571_0.out (Go.bits .xor .i64 x1_4 1) p572 q572
                     cases e572
                     replace hx572_0 := (HB.out.cell (World.block_lt_of_cell? w _ hx572_0)).trans hx572_0
                     replace p572 := eq_true p572
                     replace q572 := eq_true q572
                     go_wp2
                     repeat (go_quiet (fail); try go_wp2)
                     go_roundg k4
                     case measure => have := HJ2.out; have := HK2.out; have := HJ30.out; have := HK4.out; omega
                     case rel => exact ⟨(wrap64 (Int.tdiv x1_4 2)), (wrap64 (x10_4 + 1)), (by first | rfl | (simp; done) | (simp [*]; done)), (by first | rfl | (simp; done) | (simp [*]; done)), H', ⟨by have := HJ2.out; have := HK2.out; have := HJ30.out; have := HK4.out; omega⟩, ⟨kr HO_8.out⟩, ⟨bq HB.out⟩⟩
                    ·rw [if_neg c48] at H
                     exact absurd H (by simp)
                   ·rw [if_neg c47] at H
                    exact absurd H (by simp)
                  ·rw [if_neg c46] at H
                   exact absurd H (by simp)
                 ·rw [if_neg c45] at H
                  exact absurd H (by simp)
                ·rw [if_neg c44] at H
                 exact absurd H (by simp)
               ·rw [if_neg c43] at H
                have c43b0 : decide (x10_4 < (t565.length : Int)) = false := decide_eq_false c43
                clear c43
                obtain rfl := Option.some.inj H
                go_wp2
                repeat (go_quiet (fail); try go_wp2)
                go_ret
                exact ⟨by first | rfl | (simp [errW_none, errW_some] <;> rfl) | (simp [*, errW_none, errW_some] <;> rfl), bq HB.out⟩
            ·rw [if_neg c41] at H
             exact absurd H (by simp)
           ·rw [if_neg c40] at H
            exact absurd H (by simp)
          ·replace c39 := Bool.eq_false_iff.mpr c39
           subst c39
           have H1 : (if t566 = 6 then (some ((t565.length : Int) == 0)) else (none)) = some r := by rw [if_neg (show ¬ (false = true) by decide)] at H; exact H
           clear H
           have H := H1
           clear H1
           by_cases c49 : t566 = 6
           ·rw [if_pos c49] at H
            have c49b0 : (t566 == 6) = true := beq_iff_eq.mpr c49
            have c49b1 : (t566 != 6) = false := bne_eq_false_iff_eq.mpr c49
            clear c49
            obtain rfl := Option.some.inj H
            obtain ⟨Ao50, co50, eo50⟩ := Kd.R_slice HO_8.out
            subst eo50
            go_wp2
            repeat (go_quiet (fail); try go_wp2)
            go_ret
            exact ⟨by first | rfl | (simp [errW_none, errW_some] <;> rfl) | (simp [*, errW_none, errW_some] <;> rfl), bq HB.out⟩
           ·rw [if_neg c49] at H
            exact absurd H (by simp)

/-- THE ONE PURE STATEMENT of steeplelaw12_MerkleRows. -/
def steeplelaw12_MerkleRows.Pure : Prop := ∀ (x0 : List (List ByteArray)) (x1 : Int), (x0.length ≤ maxLen ∧ x0.length * 24 ≤ 140737488351232 ∧ ∀ y0 ∈ x0, (y0.length ≤ maxLen ∧ y0.length * 16 ≤ 140737488351232 ∧ ∀ y1 ∈ y0, y1.size ≤ 140737488351232)) → (Lit.int .i64 x1).wf = true → ∃ k, steeplelaw12_MerkleRows.f k x0 x1 = some true

end Go.Proofs.Ytmibjgjgfombaaa.P
