/- Functions that the law reaches, as Lean functions. Conditions: those that each theorem names. -/
import Derived.Test.YthgiifakcgjlaaaPx0
import Derived.Test.YthgiifakcgjlaaaX2
import Derived.Test.YthgiifakcgjlaaaPx2
import Derived.Test.YthgiifakcgjlaaaPx3
import Derived.Test.YthgiifakcgjlaaaPx5
set_option maxHeartbeats 8000000
set_option maxRecDepth 100000
namespace Go.Proofs.Ythgiifakcgjlaaa.P
open Go.RowKit YthgiifakcgjlaaaX YthgiifakcgjlaaaW.PrintWords YthgiifakcgjlaaaW.PrintLast YthgiifakcgjlaaaW.PrintMore
attribute [local go_sem] max2_int min2_int max_two min_two max_three min_three max_four min_four
set_option linter.unusedVariables false
set_option linter.unusedSimpArgs false

attribute [local go_sem high] eqA61 eqA70
def steeplelaw01_Same.l0 : Nat → List (S61) → List (S70) → Int → Option (Bool)
 | 0, _, _, _ => none
 | k + 1, x0, x1, x5 => if x5 < (x0.length : Int) then (if 0 ≤ x5 then (if x5 < (x1.length : Int) then (if (!(((rd_T61 x0 x5).f0) == ((rd_T70 x1 x5).f0)) || (!(((rd_T61 x0 x5).f1) == ((rd_T70 x1 x5).f1)))) = true then (none) else (steeplelaw01_Same.l0 k x0 x1 (wrap64 (x5 + 1)))) else (none)) else (none)) else (some true)
def steeplelaw01_Same.f (k : Nat) (l0 : List (S61)) (l1 : List (S70)) : Option (Bool) := if (l0.length : Int) = (l1.length : Int) then (steeplelaw01_Same.l0 k l0 l1 0) else (none)
theorem steeplelaw01_Same.calls (k : Nat) (A0 : Option Addr) (c0 : Nat) (l0 : List (S61)) (A1 : Option Addr) (c1 : Nat) (l1 : List (S70)) (r : Bool) (w : World) (hr0 : Kd.C k61 w A0 l0.length l0) (hc0 : l0.length ≤ c0) (hr1 : Kd.C k70 w A1 l1.length l1) (hc1 : l1.length ≤ c1) (h : steeplelaw01_Same.f k l0 l1 = some r) :
  Calls Try.prog 84 #[.slice A0 l0.length c0, .slice A1 l1.length c1] w fun e w' => e = .returned (.bool r) ∧ Drawn0 w w' := by
 have hu61 := Try.underlying61
 have hu70 := Try.underlying70
 have HR0 := Aside0.mk hr0
 have HC0 := Aside0.mk hc0
 clear hr0 hc0
 have HR1 := Aside0.mk hr1
 have HC1 := Aside0.mk hc1
 clear hr1 hc1
 have H : (if (l0.length : Int) = (l1.length : Int) then (steeplelaw01_Same.l0 k l0 l1 0) else (none)) = some r := h
 clear h
 by_cases c3 : (l0.length : Int) = (l1.length : Int)
 rotate_left
 ·rw [if_neg c3] at H
  exact absurd H (by simp)

 rw [if_pos c3] at H
 have c3b0 : ((l0.length : Int) == (l1.length : Int)) = true := beq_iff_eq.mpr c3
 have c3b1 : ((l0.length : Int) != (l1.length : Int)) = false := bne_eq_false_iff_eq.mpr c3
 have c3b2 : (l0.length == l1.length) = true := by first | simpa using c3 | (simp at c3 ⊢; omega)
 clear c3
 have H' := Aside0.mk H
 clear H
 go_enter Try.func84, Try.ntmps84
 go_wp2
 repeat (go_quiet (fail); try go_wp2)
 go_loopg [5] k (fun kq v5 w' => ∃ (x5_1 : Int), v5 = .int .i64 x5_1 ∧ Aside0 (steeplelaw01_Same.l0 kq l0 l1 x5_1 = some r) ∧ Aside0 (kq ≤ k) ∧ Drawn0 w w')
 case atStart => exact ⟨(0), (by first | rfl | (simp; done) | (simp [*]; done)), H', ⟨Nat.le_refl _⟩, by repeat (first | exact Drawn0.refl _ | apply Drawn0.step)⟩
 case round =>
  clear H'
  try clear c1
  try clear p2
  try clear c3
  try clear c3b0
  try clear c3b1
  try clear c3b2
  obtain ⟨x5_1, rfl, HA, HK1, ⟨m1, rfl⟩⟩ := hrel
  cases gk with
  | zero => exact absurd HA.out (by simp [steeplelaw01_Same.l0])
  | succ k1 =>
   have H := HA.out
   clear HA
   simp only [steeplelaw01_Same.l0] at H
   by_cases c4 : x5_1 < (l0.length : Int)
   rotate_left
   ·rw [if_neg c4] at H
    have c4b0 : decide (x5_1 < (l0.length : Int)) = false := decide_eq_false c4
    clear c4
    obtain rfl := Option.some.inj H
    go_wp2
    repeat (go_quiet (fail); try go_wp2)
    go_ret
    exact ⟨by first | rfl | (simp; done) | (simp [*]; done), by repeat (first | exact Drawn0.refl _ | apply Drawn0.step)⟩
   rw [if_pos c4] at H
   have c4b0 : decide (x5_1 < (l0.length : Int)) = true := decide_eq_true c4
   clear c4
   by_cases c5 : 0 ≤ x5_1
   rotate_left
   ·rw [if_neg c5] at H
    exact absurd H (by simp)
   rw [if_pos c5] at H
   have c5b0 : decide (0 ≤ x5_1) = true := decide_eq_true c5
   clear c5
   by_cases c6 : x5_1 < (l1.length : Int)
   rotate_left
   ·rw [if_neg c6] at H
    exact absurd H (by simp)
   rw [if_pos c6] at H
   have c6b0 : decide (x5_1 < (l1.length : Int)) = true := decide_eq_true c6
   clear c6
   by_cases c7 : (!(((rd_T61 l0 x5_1).f0) == ((rd_T70 l1 x5_1).f0)) || (!(((rd_T61 l0 x5_1).f1) == ((rd_T70 l1 x5_1).f1)))) = true
   ·rw [if_pos c7] at H
    exact absurd H (by simp)
   rw [if_neg c7] at H
   have c7b0 : (!(((rd_T61 l0 x5_1).f0) == ((rd_T70 l1 x5_1).f0)) || (!(((rd_T61 l0 x5_1).f1) == ((rd_T70 l1 x5_1).f1)))) = false := by simpa using c7
   clear c7
   have H' := Aside0.mk H
   clear H
   have p457 : 0 ≤ (x5_1 : Int) := dt
   have q457 : x5_1 < (l0.length : Int) := dt
   obtain ⟨ad457, e457, hx457_0, hx457_1⟩ := at_T61 HR0.out x5_1 p457 q457
   cases e457
   replace p457 := eq_true p457
   replace q457 := eq_true q457
   have p458 : 0 ≤ (x5_1 : Int) := dt
   have q458 : x5_1 < (l1.length : Int) := dt
   obtain ⟨ad458, e458, hx458_0, hx458_1⟩ := at_T70 HR1.out x5_1 p458 q458
   cases e458
   replace p458 := eq_true p458
   replace q458 := eq_true q458
   go_wp2
   repeat (go_quiet (fail); try go_wp2)
   go_roundg k1
   case measure => have := HK1.out; omega
   case rel => exact ⟨(wrap64 (x5_1 + 1)), (by first | rfl | (simp; done) | (simp [*]; done)), H', ⟨by have := HK1.out; omega⟩, by repeat (first | exact Drawn0.refl _ | apply Drawn0.step)⟩
def steeplelaw29_rows.l0 : Nat → List (List (S61)) → List (List (S61)) → Int → Option (Bool)
 | 0, _, _, _ => none
 | k + 1, x0, x1, x5 => if x5 < (x0.length : Int) then (if 0 ≤ x5 then (if x5 < (x1.length : Int) then ((steeplelaw01_Ref.f k (rd_L6 x1 x5)).bind fun t461 => ((steeplelaw01_Same.f k (rd_L6 x0 x5) t461).bind fun t464 => (if t464 = true then (steeplelaw29_rows.l0 k x0 x1 (wrap64 (x5 + 1))) else (some false)))) else (none)) else (none)) else (some true)
def steeplelaw29_rows.f (k : Nat) (l0 : List (List (S61))) (l1 : List (List (S61))) : Option (Bool) := if (l0.length : Int) = (l1.length : Int) then (steeplelaw29_rows.l0 k l0 l1 0) else (some false)
def steeplelaw29_rows.T6 : Bool × List (List Nat × List Nat) := (true, [([], []), ([], []), ([0, 1], [0, 1]), ([2], [2]), ([], []), ([], []), ([4, 5], [4, 5]), ([6], [6]), ([7], [7]), ([3, 8, 8], [3, 8]), ([9], [9])])
def steeplelaw29_rows.B6 : List Nat := [0, 0, 3, 7, 0, 0, 48, 112, 240, 511, 1023]
theorem steeplelaw29_rows.tab6 : rtab .any (opsOf Try.f83 6) = steeplelaw29_rows.T6 := by kernel_rfl
theorem steeplelaw29_rows.bits6 : waitsOk steeplelaw29_rows.T6.2 steeplelaw29_rows.B6 = true := by kernel_rfl
theorem steeplelaw29_rows.calls (k : Nat) (A0 : Option Addr) (c0 : Nat) (l0 : List (List (S61))) (A1 : Option Addr) (c1 : Nat) (l1 : List (List (S61))) (r : Bool) (w : World) (hr0 : Kd.C (Kd.slice 61 k61) w A0 l0.length l0) (hc0 : l0.length ≤ c0) (hr1 : Kd.C (Kd.slice 61 k61) w A1 l1.length l1) (hc1 : l1.length ≤ c1) (h : steeplelaw29_rows.f k l0 l1 = some r) :
  Calls Try.prog 83 #[.slice A0 l0.length c0, .slice A1 l1.length c1] w fun e w' => e = .returned (.bool r) ∧ Below w.heap.size w w' := by
 have HR0 := Aside0.mk hr0
 have HC0 := Aside0.mk hc0
 clear hr0 hc0
 have HR1 := Aside0.mk hr1
 have HC1 := Aside0.mk hc1
 clear hr1 hc1
 have HB := Aside0.mk (Below.refl w.heap.size w)
 have H : (if (l0.length : Int) = (l1.length : Int) then (steeplelaw29_rows.l0 k l0 l1 0) else (some false)) = some r := h
 clear h
 by_cases c3 : (l0.length : Int) = (l1.length : Int)
 rotate_left
 ·rw [if_neg c3] at H
  have c3b0 : ((l0.length : Int) == (l1.length : Int)) = false := beq_eq_false_iff_ne.mpr c3
  have c3b1 : ((l0.length : Int) != (l1.length : Int)) = true := bne_iff_ne.mpr c3
  have c3b2 : (l0.length == l1.length) = false := by first | simpa using c3 | (simp at c3 ⊢; omega)
  obtain rfl := Option.some.inj H
  go_enter Try.func83, Try.ntmps83
  go_wp2
  go_ret
  exact ⟨er, bq HB.out⟩

 rw [if_pos c3] at H
 have c3b0 : ((l0.length : Int) == (l1.length : Int)) = true := beq_iff_eq.mpr c3
 have c3b1 : ((l0.length : Int) != (l1.length : Int)) = false := bne_eq_false_iff_eq.mpr c3
 have c3b2 : (l0.length == l1.length) = true := by first | simpa using c3 | (simp at c3 ⊢; omega)
 clear c3
 have H' := Aside0.mk H
 clear H
 go_enter Try.func83, Try.ntmps83
 go_wp2
 go_loopg [5] k (fun kq v5 w' => ∃ (x5_1 : Int), v5 = .int .i64 x5_1 ∧ Aside0 (steeplelaw29_rows.l0 kq l0 l1 x5_1 = some r) ∧ Aside0 (kq ≤ k) ∧ Aside0 (Below w.heap.size w w'))
 case atStart => exact ⟨(0), (by first | rfl | (simp; done) | (simp [*]; done)), H', ⟨Nat.le_refl _⟩, ⟨bq HB.out⟩⟩
 case round =>
  clear H'
  try clear c1
  try clear p2
  try clear c3
  try clear c3b0
  try clear c3b1
  try clear c3b2
  obtain ⟨x5_1, rfl, HA, HK1, HB⟩ := hrel
  cases gk with
  | zero => exact absurd HA.out (by simp [steeplelaw29_rows.l0])
  | succ k1 =>
   have H := HA.out
   clear HA
   simp only [steeplelaw29_rows.l0] at H
   by_cases c4 : x5_1 < (l0.length : Int)
   rotate_left
   ·rw [if_neg c4] at H
    have c4b0 : decide (x5_1 < (l0.length : Int)) = false := decide_eq_false c4
    clear c4
    obtain rfl := Option.some.inj H
    go_wp2
    go_ret
    exact ⟨er, bq HB.out⟩
   rw [if_pos c4] at H
   have c4b0 : decide (x5_1 < (l0.length : Int)) = true := decide_eq_true c4
   clear c4
   by_cases c5 : 0 ≤ x5_1
   rotate_left
   ·rw [if_neg c5] at H
    exact absurd H (by simp)
   rw [if_pos c5] at H
   have c5b0 : decide (0 ≤ x5_1) = true := decide_eq_true c5
   clear c5
   by_cases c6 : x5_1 < (l1.length : Int)
   rotate_left
   ·rw [if_neg c6] at H
    exact absurd H (by simp)
   rw [if_pos c6] at H
   have c6b0 : decide (x5_1 < (l1.length : Int)) = true := decide_eq_true c6
   clear c6
   obtain ⟨t461, A7, H⟩ := bm2 H
   try dsimp only at H
   obtain ⟨t464, A8, H⟩ := bm2 H
   try dsimp only at H
   by_cases c9 : t464 = true
   rotate_left
   ·replace c9 := Bool.eq_false_iff.mpr c9
    subst c9
    have H1 : (some false) = some r := by rw [if_neg (show ¬ (false = true) by decide)] at H; exact H
    clear H
    have H := H1
    clear H1
    obtain rfl := Option.some.inj H
    try go_wp2
    replace HB := Aside0.mk (below_drew1 HB.out)
    have p459 : 0 ≤ (x5_1 : Int) := dt
    have q459 : x5_1 < (l0.length : Int) := dt
    obtain ⟨ad459, A459_0, c459_0, e459, hx459_0, hl459_0, hi459_0⟩ := at_L6 HR0.out x5_1 p459 q459
    have hw459_0 := hx459_0
    cases e459
    replace hx459_0 := (HB.out.cell (World.block_lt_of_cell? w _ hx459_0)).trans hx459_0
    have HR459_0 := Aside0.mk hi459_0
    have HC459_0 := Aside0.mk hl459_0
    clear hi459_0 hl459_0
    replace p459 := eq_true p459
    replace q459 := eq_true q459
    have p460 : 0 ≤ (x5_1 : Int) := dt
    have q460 : x5_1 < (l1.length : Int) := dt
    obtain ⟨ad460, A460_0, c460_0, e460, hx460_0, hl460_0, hi460_0⟩ := at_L6 HR1.out x5_1 p460 q460
    have hw460_0 := hx460_0
    cases e460
    replace hx460_0 := (HB.out.cell (World.block_lt_of_cell? w _ hx460_0)).trans hx460_0
    have HR460_0 := Aside0.mk hi460_0
    have HC460_0 := Aside0.mk hl460_0
    clear hi460_0 hl460_0
    replace p460 := eq_true p460
    replace q460 := eq_true q460
    refine start_ (n := 11) (S := fun w' => w'.cell? (ad459.add (x5_1).toNat) = some (.slice A459_0 (rd_L6 l0 x5_1).length c459_0) ∧ w'.cell? (ad460.add (x5_1).toNat) = some (.slice A460_0 (rd_L6 l1 x5_1).length c460_0)) (ds := []) #[Z,Z,Z,Z,Z,Z,Z,Z,Z,Z,Z] (by kernel_rfl) rfl rfl ⟨((HB.out.cell (World.block_lt_of_cell? w _ hw459_0)).trans hw459_0), ((HB.out.cell (World.block_lt_of_cell? w _ hw460_0)).trans hw460_0)⟩ (fun hHeld => ?_); refine with_tabW steeplelaw29_rows.tab6 steeplelaw29_rows.bits6 (fun HT_ HW_ => ?_)
    generalize wr.drew = w13 at HB HR459_0 HR460_0 hx459_0 hx460_0 hHeld ⊢
    refine pA 0 17 #[Y,Z,Z,Z,Z,Z,Z,Z,Z,Z,Z] HT_ ?_
    refine pA 1 18 #[Y,Y,Z,Z,Z,Z,Z,Z,Z,Z,Z] HT_ ?_
    refine pA 2 19 #[Y,Y,Y,Z,Z,Z,Z,Z,Z,Z,Z] HT_ ?_
    refine pA 4 21 #[Y,Y,Y,Z,Y,Z,Z,Z,Z,Z,Z] HT_ ?_
    refine pA 5 22 #[Y,Y,Y,Z,Y,Y,Z,Z,Z,Z,Z] HT_ ?_
    refine pA 6 23 #[Y,Y,Y,Z,Y,Y,Y,Z,Z,Z,Z] HT_ ?_
    refine take_ (i := 3) (N := some 20) (v := ?_) (a' := ?_) #[Y,Y,Y,Y,Y,Y,Y,Z,Z,Z,Z] rfl rfl (take_ofW HT_.out HW_.out (by kernel_rfl)) (fun _ _ _ h => h) (Or.inl ⟨by rfl, ?_⟩) hHeld ?_ ?_
    rotate_left
    ·rintro w' ⟨s0, s1⟩
     go_simp
     with_reducible rfl
    rotate_left
    ·simp only [Act.put, sA, s0, sS, i64_w, i32_w]
     rfl
    refine take_ (i := 7) (N := some 24) (v := ?_) (a' := ?_) #[Y,Y,Y,Y,Y,Y,Y,Y,Z,Z,Z] rfl rfl (take_ofW HT_.out HW_.out (by kernel_rfl)) (fun _ _ _ h => h) (Or.inl ⟨by rfl, ?_⟩) hHeld ?_ ?_
    rotate_left
    ·rintro w' ⟨s0, s1⟩
     go_simp
     with_reducible rfl
    rotate_left
    ·simp only [Act.put, sA, s0, sS, i64_w, i32_w]
     rfl
    refine one_ (i := 8) (N := some 25) #[Y,Y,Y,Y,Y,Y,Y,Y,Y,Z,Z] rfl rfl (one_of HT_.out (by kernel_rfl)) (by decide) (fun K hK => ?_)
    refine goes_ Try.func60 (by kernel_rfl) rfl #[.slice A460_0 (rd_L6 l1 x5_1).length c460_0] (by rfl) rfl rfl (by (try simp only [mA, mC, mN]); first | done | rfl | (simp only [List.length_drop, List.length_take]; rfl)) ?_
    with_reducible refine (steeplelaw01_Ref.calls k1 _ _ (rd_L6 l1 x5_1) t461 _ ?side1 ?side2 A7.out).mono ?_
    (case side1 => exact cq (Kd.C_below HR460_0.out HB.out))
    (case side2 => exact HC460_0.out)
    rintro e w14 ⟨v462, rfl, ho0, hb⟩
    refine ⟨_, rfl, ?_⟩
    have HO463 := kw ho0 HB
    replace HB := bh HB hb
    (try clear hb)
    (try clear ho0)
    obtain ⟨Ao15, co15, eo15⟩ := Kd.R_slice HO463.out
    (first | subst eo15 | (injection eo15 with f1_ f2_ f3_; have f4_ := f1_.symm; have f5_ := f3_.symm; clear f1_ f2_ f3_; subst f4_; subst f5_))
    refine hK.out _ _ ⟨((HB.out.cell (World.block_lt_of_cell? w _ hw459_0)).trans hw459_0), ((HB.out.cell (World.block_lt_of_cell? w _ hw460_0)).trans hw460_0)⟩ (fun hHeld => ?_)
    clear hK K
    refine norm_ (a' := ?_) ?_ ?_
    rotate_left
    ·show Act.put _ (some 25) _ = _
     simp only [Act.put, sA, s0, sS, i64_w, i32_w]
     rfl
    refine one_ (i := 9) (N := some 26) #[Y,Y,Y,Y,Y,Y,Y,Y,Y,Y,Z] rfl rfl (one_of HT_.out (by kernel_rfl)) (by decide) (fun K hK => ?_)
    refine goes_ Try.func84 (by kernel_rfl) rfl #[.slice A459_0 (rd_L6 l0 x5_1).length c459_0, .slice Ao15 t461.length co15] (by rfl) rfl rfl (by (try simp only [mA, mC, mN]); first | done | rfl | (simp only [List.length_drop, List.length_take]; rfl)) ?_
    with_reducible refine (steeplelaw01_Same.calls k1 _ _ (rd_L6 l0 x5_1) _ _ t461 false _ ?side1 ?side2 ?side3 ?side4 A8.out).mono ?_
    (case side1 => exact cq (Kd.C_below HR459_0.out HB.out))
    (case side2 => exact HC459_0.out)
    (case side3 => exact cq (Kd.R_reads' HO463.out).2.2)
    (case side4 => exact (Kd.R_reads' HO463.out).2.1)
    rintro e w' ⟨rfl, ⟨nd, rfl⟩⟩
    refine ⟨_, rfl, ?_⟩
    refine hK.out _ _ ⟨((HB.out.cell (World.block_lt_of_cell? w _ hw459_0)).trans hw459_0), ((HB.out.cell (World.block_lt_of_cell? w _ hw460_0)).trans hw460_0)⟩ (fun hHeld => ?_)
    clear hK K
    refine norm_ (a' := ?_) ?_ ?_
    rotate_left
    ·show Act.put _ (some 26) _ = _
     simp only [Act.put, sA, s0, sS, i64_w, i32_w]
     rfl
    refine pA 10 27 #[Y,Y,Y,Y,Y,Y,Y,Y,Y,Y,Y] HT_ ?_
    refine done_ (done_of HT_.out (by kernel_rfl)) ?_
    try go_wp2
    go_ret
    exact ⟨er, bq HB.out⟩
   subst c9
   have H1 : (steeplelaw29_rows.l0 k1 l0 l1 (wrap64 (x5_1 + 1))) = some r := by rw [if_pos rfl] at H; exact H
   clear H
   have H := H1
   clear H1
   have H' := Aside0.mk H
   clear H
   try go_wp2
   replace HB := Aside0.mk (below_drew1 HB.out)
   have p459 : 0 ≤ (x5_1 : Int) := dt
   have q459 : x5_1 < (l0.length : Int) := dt
   obtain ⟨ad459, A459_0, c459_0, e459, hx459_0, hl459_0, hi459_0⟩ := at_L6 HR0.out x5_1 p459 q459
   have hw459_0 := hx459_0
   cases e459
   replace hx459_0 := (HB.out.cell (World.block_lt_of_cell? w _ hx459_0)).trans hx459_0
   have HR459_0 := Aside0.mk hi459_0
   have HC459_0 := Aside0.mk hl459_0
   clear hi459_0 hl459_0
   replace p459 := eq_true p459
   replace q459 := eq_true q459
   have p460 : 0 ≤ (x5_1 : Int) := dt
   have q460 : x5_1 < (l1.length : Int) := dt
   obtain ⟨ad460, A460_0, c460_0, e460, hx460_0, hl460_0, hi460_0⟩ := at_L6 HR1.out x5_1 p460 q460
   have hw460_0 := hx460_0
   cases e460
   replace hx460_0 := (HB.out.cell (World.block_lt_of_cell? w _ hx460_0)).trans hx460_0
   have HR460_0 := Aside0.mk hi460_0
   have HC460_0 := Aside0.mk hl460_0
   clear hi460_0 hl460_0
   replace p460 := eq_true p460
   replace q460 := eq_true q460
   refine start_ (n := 11) (S := fun w' => w'.cell? (ad459.add (x5_1).toNat) = some (.slice A459_0 (rd_L6 l0 x5_1).length c459_0) ∧ w'.cell? (ad460.add (x5_1).toNat) = some (.slice A460_0 (rd_L6 l1 x5_1).length c460_0)) (ds := []) #[Z,Z,Z,Z,Z,Z,Z,Z,Z,Z,Z] (by kernel_rfl) rfl rfl ⟨((HB.out.cell (World.block_lt_of_cell? w _ hw459_0)).trans hw459_0), ((HB.out.cell (World.block_lt_of_cell? w _ hw460_0)).trans hw460_0)⟩ (fun hHeld => ?_); refine with_tabW steeplelaw29_rows.tab6 steeplelaw29_rows.bits6 (fun HT_ HW_ => ?_)
   generalize wr.drew = w10 at HB HR459_0 HR460_0 hx459_0 hx460_0 hHeld ⊢
   refine pA 0 17 #[Y,Z,Z,Z,Z,Z,Z,Z,Z,Z,Z] HT_ ?_
   refine pA 1 18 #[Y,Y,Z,Z,Z,Z,Z,Z,Z,Z,Z] HT_ ?_
   refine pA 2 19 #[Y,Y,Y,Z,Z,Z,Z,Z,Z,Z,Z] HT_ ?_
   refine pA 4 21 #[Y,Y,Y,Z,Y,Z,Z,Z,Z,Z,Z] HT_ ?_
   refine pA 5 22 #[Y,Y,Y,Z,Y,Y,Z,Z,Z,Z,Z] HT_ ?_
   refine pA 6 23 #[Y,Y,Y,Z,Y,Y,Y,Z,Z,Z,Z] HT_ ?_
   refine take_ (i := 3) (N := some 20) (v := ?_) (a' := ?_) #[Y,Y,Y,Y,Y,Y,Y,Z,Z,Z,Z] rfl rfl (take_ofW HT_.out HW_.out (by kernel_rfl)) (fun _ _ _ h => h) (Or.inl ⟨by rfl, ?_⟩) hHeld ?_ ?_
   rotate_left
   ·rintro w' ⟨s0, s1⟩
    go_simp
    with_reducible rfl
   rotate_left
   ·simp only [Act.put, sA, s0, sS, i64_w, i32_w]
    rfl
   refine take_ (i := 7) (N := some 24) (v := ?_) (a' := ?_) #[Y,Y,Y,Y,Y,Y,Y,Y,Z,Z,Z] rfl rfl (take_ofW HT_.out HW_.out (by kernel_rfl)) (fun _ _ _ h => h) (Or.inl ⟨by rfl, ?_⟩) hHeld ?_ ?_
   rotate_left
   ·rintro w' ⟨s0, s1⟩
    go_simp
    with_reducible rfl
   rotate_left
   ·simp only [Act.put, sA, s0, sS, i64_w, i32_w]
    rfl
   refine one_ (i := 8) (N := some 25) #[Y,Y,Y,Y,Y,Y,Y,Y,Y,Z,Z] rfl rfl (one_of HT_.out (by kernel_rfl)) (by decide) (fun K hK => ?_)
   refine goes_ Try.func60 (by kernel_rfl) rfl #[.slice A460_0 (rd_L6 l1 x5_1).length c460_0] (by rfl) rfl rfl (by (try simp only [mA, mC, mN]); first | done | rfl | (simp only [List.length_drop, List.length_take]; rfl)) ?_
   with_reducible refine (steeplelaw01_Ref.calls k1 _ _ (rd_L6 l1 x5_1) t461 _ ?side1 ?side2 A7.out).mono ?_
   (case side1 => exact cq (Kd.C_below HR460_0.out HB.out))
   (case side2 => exact HC460_0.out)
   rintro e w11 ⟨v462, rfl, ho0, hb⟩
   refine ⟨_, rfl, ?_⟩
   have HO463 := kw ho0 HB
   replace HB := bh HB hb
   (try clear hb)
   (try clear ho0)
   obtain ⟨Ao12, co12, eo12⟩ := Kd.R_slice HO463.out
   (first | subst eo12 | (injection eo12 with f1_ f2_ f3_; have f4_ := f1_.symm; have f5_ := f3_.symm; clear f1_ f2_ f3_; subst f4_; subst f5_))
   refine hK.out _ _ ⟨((HB.out.cell (World.block_lt_of_cell? w _ hw459_0)).trans hw459_0), ((HB.out.cell (World.block_lt_of_cell? w _ hw460_0)).trans hw460_0)⟩ (fun hHeld => ?_)
   clear hK K
   refine norm_ (a' := ?_) ?_ ?_
   rotate_left
   ·show Act.put _ (some 25) _ = _
    simp only [Act.put, sA, s0, sS, i64_w, i32_w]
    rfl
   refine one_ (i := 9) (N := some 26) #[Y,Y,Y,Y,Y,Y,Y,Y,Y,Y,Z] rfl rfl (one_of HT_.out (by kernel_rfl)) (by decide) (fun K hK => ?_)
   refine goes_ Try.func84 (by kernel_rfl) rfl #[.slice A459_0 (rd_L6 l0 x5_1).length c459_0, .slice Ao12 t461.length co12] (by rfl) rfl rfl (by (try simp only [mA, mC, mN]); first | done | rfl | (simp only [List.length_drop, List.length_take]; rfl)) ?_
   with_reducible refine (steeplelaw01_Same.calls k1 _ _ (rd_L6 l0 x5_1) _ _ t461 true _ ?side1 ?side2 ?side3 ?side4 A8.out).mono ?_
   (case side1 => exact cq (Kd.C_below HR459_0.out HB.out))
   (case side2 => exact HC459_0.out)
   (case side3 => exact cq (Kd.R_reads' HO463.out).2.2)
   (case side4 => exact (Kd.R_reads' HO463.out).2.1)
   rintro e w' ⟨rfl, ⟨nd, rfl⟩⟩
   refine ⟨_, rfl, ?_⟩
   refine hK.out _ _ ⟨((HB.out.cell (World.block_lt_of_cell? w _ hw459_0)).trans hw459_0), ((HB.out.cell (World.block_lt_of_cell? w _ hw460_0)).trans hw460_0)⟩ (fun hHeld => ?_)
   clear hK K
   refine norm_ (a' := ?_) ?_ ?_
   rotate_left
   ·show Act.put _ (some 26) _ = _
    simp only [Act.put, sA, s0, sS, i64_w, i32_w]
    rfl
   refine pA 10 27 #[Y,Y,Y,Y,Y,Y,Y,Y,Y,Y,Y] HT_ ?_
   refine done_ (done_of HT_.out (by kernel_rfl)) ?_
   try go_wp2
   go_roundg k1
   case measure => have := HK1.out; omega
   case rel => exact ⟨(wrap64 (x5_1 + 1)), (by first | rfl | (simp; done) | (simp [*]; done)), H', ⟨by have := HK1.out; omega⟩, ⟨bq HB.out⟩⟩
def steeplelaw01_Texts.l0 : Nat → List ByteArray → List ByteArray → Int → Option (Bool)
 | 0, _, _, _ => none
 | k + 1, x0, x1, x5 => if x5 < (x0.length : Int) then (if 0 ≤ x5 then (if x5 < (x1.length : Int) then (if (rdOf ByteArray.empty x0 x5).toList = (rdOf ByteArray.empty x1 x5).toList then (steeplelaw01_Texts.l0 k x0 x1 (wrap64 (x5 + 1))) else (none)) else (none)) else (none)) else (some true)
def steeplelaw01_Texts.f (k : Nat) (l0 : List ByteArray) (l1 : List ByteArray) : Option (Bool) := if (l0.length : Int) = (l1.length : Int) then (steeplelaw01_Texts.l0 k l0 l1 0) else (none)
theorem steeplelaw01_Texts.calls (k : Nat) (A0 : Option Addr) (c0 : Nat) (l0 : List ByteArray) (A1 : Option Addr) (c1 : Nat) (l1 : List ByteArray) (r : Bool) (w : World) (hr0 : Kd.C Kd.string w A0 l0.length l0) (hc0 : l0.length ≤ c0) (hr1 : Kd.C Kd.string w A1 l1.length l1) (hc1 : l1.length ≤ c1) (h : steeplelaw01_Texts.f k l0 l1 = some r) :
  Calls Try.prog 85 #[.slice A0 l0.length c0, .slice A1 l1.length c1] w fun e w' => e = .returned (.bool r) ∧ Drawn0 w w' := by
 have HR0 := Aside0.mk hr0
 have HC0 := Aside0.mk hc0
 clear hr0 hc0
 have HR1 := Aside0.mk hr1
 have HC1 := Aside0.mk hc1
 clear hr1 hc1
 have H : (if (l0.length : Int) = (l1.length : Int) then (steeplelaw01_Texts.l0 k l0 l1 0) else (none)) = some r := h
 clear h
 by_cases c3 : (l0.length : Int) = (l1.length : Int)
 rotate_left
 ·rw [if_neg c3] at H
  exact absurd H (by simp)

 rw [if_pos c3] at H
 have c3b0 : ((l0.length : Int) == (l1.length : Int)) = true := beq_iff_eq.mpr c3
 have c3b1 : ((l0.length : Int) != (l1.length : Int)) = false := bne_eq_false_iff_eq.mpr c3
 have c3b2 : (l0.length == l1.length) = true := by first | simpa using c3 | (simp at c3 ⊢; omega)
 clear c3
 have H' := Aside0.mk H
 clear H
 go_enter Try.func85, Try.ntmps85
 go_wp2
 repeat (go_quiet (fail); try go_wp2)
 go_loopg [5] k (fun kq v5 w' => ∃ (x5_1 : Int), v5 = .int .i64 x5_1 ∧ Aside0 (steeplelaw01_Texts.l0 kq l0 l1 x5_1 = some r) ∧ Aside0 (kq ≤ k) ∧ Drawn0 w w')
 case atStart => exact ⟨(0), (by first | rfl | (simp; done) | (simp [*]; done)), H', ⟨Nat.le_refl _⟩, by repeat (first | exact Drawn0.refl _ | apply Drawn0.step)⟩
 case round =>
  clear H'
  try clear c1
  try clear p2
  try clear c3
  try clear c3b0
  try clear c3b1
  try clear c3b2
  obtain ⟨x5_1, rfl, HA, HK1, ⟨m1, rfl⟩⟩ := hrel
  cases gk with
  | zero => exact absurd HA.out (by simp [steeplelaw01_Texts.l0])
  | succ k1 =>
   have H := HA.out
   clear HA
   simp only [steeplelaw01_Texts.l0] at H
   by_cases c4 : x5_1 < (l0.length : Int)
   rotate_left
   ·rw [if_neg c4] at H
    have c4b0 : decide (x5_1 < (l0.length : Int)) = false := decide_eq_false c4
    clear c4
    obtain rfl := Option.some.inj H
    go_wp2
    repeat (go_quiet (fail); try go_wp2)
    go_ret
    exact ⟨by first | rfl | (simp; done) | (simp [*]; done), by repeat (first | exact Drawn0.refl _ | apply Drawn0.step)⟩
   rw [if_pos c4] at H
   have c4b0 : decide (x5_1 < (l0.length : Int)) = true := decide_eq_true c4
   clear c4
   by_cases c5 : 0 ≤ x5_1
   rotate_left
   ·rw [if_neg c5] at H
    exact absurd H (by simp)
   rw [if_pos c5] at H
   have c5b0 : decide (0 ≤ x5_1) = true := decide_eq_true c5
   clear c5
   by_cases c6 : x5_1 < (l1.length : Int)
   rotate_left
   ·rw [if_neg c6] at H
    exact absurd H (by simp)
   rw [if_pos c6] at H
   have c6b0 : decide (x5_1 < (l1.length : Int)) = true := decide_eq_true c6
   clear c6
   by_cases c7 : (rdOf ByteArray.empty l0 x5_1).toList = (rdOf ByteArray.empty l1 x5_1).toList
   rotate_left
   ·rw [if_neg c7] at H
    exact absurd H (by simp)
   rw [if_pos c7] at H
   have c7b0 : ((rdOf ByteArray.empty l0 x5_1).toList == (rdOf ByteArray.empty l1 x5_1).toList) = true := beq_iff_eq.mpr c7
   have c7b1 : ((rdOf ByteArray.empty l0 x5_1).toList != (rdOf ByteArray.empty l1 x5_1).toList) = false := bne_eq_false_iff_eq.mpr c7
   clear c7
   have H' := Aside0.mk H
   clear H
   have p465 : 0 ≤ (x5_1 : Int) := dt
   have q465 : x5_1 < (l0.length : Int) := dt
   obtain ⟨ad465, e465, hx465_0⟩ := Kd.at_string HR0.out x5_1 p465 q465
   cases e465
   replace p465 := eq_true p465
   replace q465 := eq_true q465
   have p466 : 0 ≤ (x5_1 : Int) := dt
   have q466 : x5_1 < (l1.length : Int) := dt
   obtain ⟨ad466, e466, hx466_0⟩ := Kd.at_string HR1.out x5_1 p466 q466
   cases e466
   replace p466 := eq_true p466
   replace q466 := eq_true q466
   go_wp2
   repeat (go_quiet (fail); try go_wp2)
   go_roundg k1
   case measure => have := HK1.out; omega
   case rel => exact ⟨(wrap64 (x5_1 + 1)), (by first | rfl | (simp; done) | (simp [*]; done)), H', ⟨by have := HK1.out; omega⟩, by repeat (first | exact Drawn0.refl _ | apply Drawn0.step)⟩
end Go.Proofs.Ythgiifakcgjlaaa.P
