/- Written by a program of this session: functions that the law reaches, as Lean functions, and that the code comes to their answers. Conditions: those that each theorem names. -/
import Derived.Test.YtceneggampgboaaPx0
import Derived.Test.YtceneggampgboaaPx6
namespace Go.Proofs.Ytceneggampgboaa.P
open Go.RowKit Go.Proofs.YtceneggampgboaaX Go.Proofs.YtceneggampgboaaW.PrintWords Go.Proofs.YtceneggampgboaaW.PrintLast Go.Proofs.YtceneggampgboaaW.PrintMore
attribute [local go_sem] max2_int min2_int max_two min_two max_three min_three max_four min_four   -- for this text's walks alone
set_option linter.unusedVariables false
set_option linter.unusedSimpArgs false

/-! ### steepleref03_Words: function 41 -/
def steepleref03_Words.l0 : Nat → List Int → Int → Int → Int → List (S44) → Option (List Int)
 | 0, _, _, _, _, _ => none
 | k + 1, x3, x4, x5, x225000, x225001 => if x5 < (wrap64 ((x225001.length : Int) * x4)) then (if (Int.tmod x5 64) = 0 then (if x3.length < 17592186044416 then ((some (x3 ++ [0] : List Int)).bind fun y226 => (if x4 = 0 then (none) else (if 0 ≤ (wrap64 (Int.tdiv x5 x4)) then (if (wrap64 (Int.tdiv x5 x4)) < (x225001.length : Int) then ((steepleref02_Has.f k ((rd_T44 x225001 (wrap64 (Int.tdiv x5 x4))).f0) ((rd_T44 x225001 (wrap64 (Int.tdiv x5 x4))).f1) (Int.tmod x5 x4)).bind fun t230 => (if t230 = true then (if 0 ≤ (wrap64 (Int.tdiv x5 64)) then (if (wrap64 (Int.tdiv x5 64)) < (y226.length : Int) then (if 0 ≤ (IntKind.u64.wrap (Int.tmod x5 64)) then (steepleref03_Words.l0 k (y226.set ((wrap64 (Int.tdiv x5 64)) : Int).toNat (Go.bits .or .u64 (rd y226 (wrap64 (Int.tdiv x5 64))) (shl .u64 1 (IntKind.u64.wrap (Int.tmod x5 64))))) x4 (wrap64 (x5 + 1)) x225000 x225001) else (none)) else (none)) else (none)) else (steepleref03_Words.l0 k y226 x4 (wrap64 (x5 + 1)) x225000 x225001))) else (none)) else (none)))) else (none)) else (if x4 = 0 then (none) else (if 0 ≤ (wrap64 (Int.tdiv x5 x4)) then (if (wrap64 (Int.tdiv x5 x4)) < (x225001.length : Int) then ((steepleref02_Has.f k ((rd_T44 x225001 (wrap64 (Int.tdiv x5 x4))).f0) ((rd_T44 x225001 (wrap64 (Int.tdiv x5 x4))).f1) (Int.tmod x5 x4)).bind fun t234 => (if t234 = true then (if 0 ≤ (wrap64 (Int.tdiv x5 64)) then (if (wrap64 (Int.tdiv x5 64)) < (x3.length : Int) then (if 0 ≤ (IntKind.u64.wrap (Int.tmod x5 64)) then (steepleref03_Words.l0 k (x3.set ((wrap64 (Int.tdiv x5 64)) : Int).toNat (Go.bits .or .u64 (rd x3 (wrap64 (Int.tdiv x5 64))) (shl .u64 1 (IntKind.u64.wrap (Int.tmod x5 64))))) x4 (wrap64 (x5 + 1)) x225000 x225001) else (none)) else (none)) else (none)) else (steepleref03_Words.l0 k x3 x4 (wrap64 (x5 + 1)) x225000 x225001))) else (none)) else (none)))) else (some x3)
def steepleref03_Words.f (k : Nat) (a0_0 : Int) (l0_1 : List (S44)) : Option (List Int) := (steepleref03_width.f a0_0).bind fun t225 => (steepleref03_Words.l0 k ([] : List Int) t225 0 a0_0 l0_1)
theorem steepleref03_Words.mono_l : ∀ k, (∀ y0 y1 y2 y3 y4, LeO (steepleref03_Words.l0 k y0 y1 y2 y3 y4) (steepleref03_Words.l0 (k + 1) y0 y1 y2 y3 y4))
 | 0 => fun _ _ _ _ _ r h => by simp [steepleref03_Words.l0] at h
 | k + 1 => by
  have ih0 := steepleref03_Words.mono_l k
  ·intro y0 y1 y2 y3 y4
   unfold steepleref03_Words.l0
   repeat' first
   | (with_reducible exact ih0 _ _ _ _ _)
   | (with_reducible exact steepleref02_Has.mono _ _ _ _)
   | (with_reducible exact LeO.refl _)
   | (with_reducible exact LeO.none _)
   | (with_reducible refine LeO.ite ?_ ?_)
   | (with_reducible refine LeO.bind ?_ (fun _ => ?_))
   | exact ih0 _ _ _ _ _
   | exact steepleref02_Has.mono _ _ _ _
   | exact LeO.none _
   | refine LeO.ite ?_ ?_
   | refine LeO.bind ?_ (fun _ => ?_)
theorem steepleref03_Words.mono : ∀ a0 a1 k, LeO (steepleref03_Words.f k a0 a1) (steepleref03_Words.f (k + 1) a0 a1) := by
 intro a0 a1 k
 have ih0 := steepleref03_Words.mono_l k
 unfold steepleref03_Words.f
 repeat' first
   | (with_reducible exact ih0 _ _ _ _ _)
   | (with_reducible exact steepleref02_Has.mono _ _ _ _)
   | (with_reducible exact LeO.refl _)
   | (with_reducible exact LeO.none _)
   | (with_reducible refine LeO.ite ?_ ?_)
   | (with_reducible refine LeO.bind ?_ (fun _ => ?_))
   | exact ih0 _ _ _ _ _
   | exact steepleref02_Has.mono _ _ _ _
   | exact LeO.none _
   | refine LeO.ite ?_ ?_
   | refine LeO.bind ?_ (fun _ => ?_)
def steepleref03_Words.T8 : Bool × List (List Nat × List Nat) := (true, [([], []), ([0], [0]), ([], []), ([], []), ([2, 3], [2, 3]), ([1, 4], [1, 4]), ([5], [5]), ([], []), ([], []), ([7, 8], [7, 8]), ([6, 9], [6, 9])])
def steepleref03_Words.B8 : List Nat := [0, 1, 0, 0, 12, 31, 63, 0, 0, 384, 1023]
theorem steepleref03_Words.tab8 : rtab .any (opsOf Try.f41 8) = steepleref03_Words.T8 := by kernel_rfl
theorem steepleref03_Words.bits8 : waitsOk steepleref03_Words.T8.2 steepleref03_Words.B8 = true := by kernel_rfl
set_option maxHeartbeats 8000000 in
set_option maxRecDepth 100000 in
theorem steepleref03_Words.calls (k : Nat) (a0_0 : Int) (A0_1 : Option Addr) (c0_1 : Nat) (l0_1 : List (S44)) (r : List Int) (w : World) (hr0_1 : Kd.C k44 w A0_1 l0_1.length l0_1) (hc0_1 : l0_1.length ≤ c0_1) (h : steepleref03_Words.f k a0_0 l0_1 = some r) :
  Calls Try.prog 41 #[.agg #[.int .i64 a0_0, .slice A0_1 l0_1.length c0_1]] w fun e w' => ∃ v0_ : Value, e = .returned (v0_) ∧ Kd.R (Kd.int .u64) 23 w' w.heap.size (fun _ => True) v0_ r ∧ Below w.heap.size w w' := by
 have hu37 := Try.underlying37
 have hu44 := Try.underlying44
 have HR0_1 := Aside0.mk hr0_1
 have HC0_1 := Aside0.mk hc0_1
 clear hr0_1 hc0_1
 have HB := Aside0.mk (Below.refl w.heap.size w)
 have H : ((steepleref03_width.f a0_0).bind fun t225 => (steepleref03_Words.l0 k ([] : List Int) t225 0 a0_0 l0_1)) = some r := h
 clear h
 replace H := Option.bind_eq_some_iff.mp H
 obtain ⟨t225, A20, H⟩ := H
 replace H : (steepleref03_Words.l0 k ([] : List Int) t225 0 a0_0 l0_1) = some r := H
 have A2 := Aside0.mk A20
 clear A20
 have H' := Aside0.mk H
 clear H
 go_enter Try.func41, Try.ntmps41
 go_wp2_with (first | ((with_reducible refine gate_dst (N := 1) rfl ?_); refine box_event ?hg (N := 1) ?hd (cs := #[.int .i64 a0_0, .slice A0_1 l0_1.length c0_1]) (t := 37) ?hr ?_; (case hd => rfl); (case hg => rfl); (case hr => first | (go_simp; done) | (go_simp; rfl)); intro gb224 hg w3 hbox hb; have BK224 := Aside0.mk hbox; have GW224 := ge hg HB; have GE224 := ge hg HB; replace HB := bh HB hb; clear hb hbox hg; obtain ⟨hcz4_0, hcz4_1⟩ := zc2 BK224; obtain ⟨hfz4_0, hfz4_1⟩ := zf2 BK224) | ((with_reducible refine gate_callee (f := 45) rfl ?_); refine goesL_ (some 8) rfl rfl Try.func45 (by kernel_rfl) rfl #[.int .i64 a0_0] rfl (by (try simp only [List.map_toArray, List.map_cons, List.map_nil]); first | done | rfl | (simp only [List.length_drop, List.length_take]; rfl)) ?_; (with_reducible refine (steepleref03_width.calls a0_0 t225 _ A2.out).mono ?_); rintro e w5 ⟨rfl, hb⟩; refine ⟨_, rfl, ?_⟩; replace BK224 := bb BK224 hb; replace HB := bh HB hb; (try clear hb); (try clear hb2); (try clear hk); (try clear hi)))
 go_loopg [3, 5] k (fun kq v3 v5 w' => ∃ (x3_1 : List Int) (x5_1 : Int), v5 = .int .i64 x5_1 ∧ Aside0 (steepleref03_Words.l0 kq x3_1 t225 x5_1 a0_0 l0_1 = some r) ∧ Aside0 (kq ≤ k) ∧ Aside0 (Kd.R (Kd.int .u64) 23 w' w.heap.size (fun _ => True) v3 x3_1) ∧ Aside0 (w'.heap[gb224]? = some (.cells #[.int .i64 a0_0, (.slice A0_1 l0_1.length c0_1)] 37 (0, 0))) ∧ Aside0 (Below w.heap.size w w'))
 case atStart => exact ⟨(([] : List Int)), (0), (by first | rfl | (simp; done) | (simp [*]; done)), H', ⟨Nat.le_refl _⟩, ⟨by first | exact Kd.R_nil _ _ _ _ _ | exact Kd.N_nil _ _ _ _ _ | exact Kd.V_nil _ _ _ _ _ | exact Kd.Q_nil _ _ _ _ _ | exact Kd.S_nil _ _ _ _ _⟩, ⟨bk BK224.out⟩, ⟨bq HB.out⟩⟩
 case round =>
  clear H'
  try clear p2
  try clear c4
  try clear hcz4_0
  try clear hcz4_1
  try clear hfz4_0
  try clear hfz4_1
  obtain ⟨x3_1, x5_1, rfl, HA, HK1, HO_3, BK224, HB⟩ := hrel
  cases gk with
  | zero => exact absurd HA.out (by simp [steepleref03_Words.l0])
  | succ k1 =>
   have H := HA.out
   clear HA
   simp only [steepleref03_Words.l0] at H
   by_cases c6 : x5_1 < (wrap64 ((l0_1.length : Int) * t225))
   ·rw [if_pos c6] at H
    have c6b0 : decide (x5_1 < (wrap64 ((l0_1.length : Int) * t225))) = true := decide_eq_true c6
    clear c6
    by_cases c7 : (Int.tmod x5_1 64) = 0
    ·rw [if_pos c7] at H
     have c7b0 : ((Int.tmod x5_1 64) == 0) = true := beq_iff_eq.mpr c7
     have c7b1 : ((Int.tmod x5_1 64) != 0) = false := bne_eq_false_iff_eq.mpr c7
     clear c7
     by_cases c8 : x3_1.length < 17592186044416
     ·rw [if_pos c8] at H
      have LMc8 := Aside0.mk c8
      clear c8
      obtain ⟨y226, hy226⟩ : ∃ y_ : List Int, y_ = (x3_1 ++ [0]) := ⟨_, rfl⟩
      replace H : (if t225 = 0 then (none) else (if 0 ≤ (wrap64 (Int.tdiv x5_1 t225)) then (if (wrap64 (Int.tdiv x5_1 t225)) < (l0_1.length : Int) then ((steepleref02_Has.f k1 ((rd_T44 l0_1 (wrap64 (Int.tdiv x5_1 t225))).f0) ((rd_T44 l0_1 (wrap64 (Int.tdiv x5_1 t225))).f1) (Int.tmod x5_1 t225)).bind fun t230 => (if t230 = true then (if 0 ≤ (wrap64 (Int.tdiv x5_1 64)) then (if (wrap64 (Int.tdiv x5_1 64)) < (y226.length : Int) then (if 0 ≤ (IntKind.u64.wrap (Int.tmod x5_1 64)) then (steepleref03_Words.l0 k1 (y226.set ((wrap64 (Int.tdiv x5_1 64)) : Int).toNat (Go.bits .or .u64 (rd y226 (wrap64 (Int.tdiv x5_1 64))) (shl .u64 1 (IntKind.u64.wrap (Int.tmod x5_1 64))))) t225 (wrap64 (x5_1 + 1)) a0_0 l0_1) else (none)) else (none)) else (none)) else (steepleref03_Words.l0 k1 y226 t225 (wrap64 (x5_1 + 1)) a0_0 l0_1))) else (none)) else (none))) = some r := by first | (rw [hy226]; with_reducible exact H) | (have H2_ := (Option.bind_some _ _).symm.trans H; rw [hy226]; with_reducible exact H2_) | (have H2_ := (Option.bind_some _ _).symm.trans H; with_reducible exact H2_) | with_reducible exact H | (rw [hy226]; exact H) | exact H
      have Ny226 := Aside0.mk hy226
      clear hy226
      by_cases c9 : t225 = 0
      ·rw [if_pos c9] at H
       exact absurd H (by simp)
      ·rw [if_neg c9] at H
       have c9b0 : (t225 == 0) = false := beq_eq_false_iff_ne.mpr c9
       have c9b1 : (t225 != 0) = true := bne_iff_ne.mpr c9
       obtain ⟨ji10, hji10⟩ : ∃ j_ : Int, (wrap64 (Int.tdiv x5_1 t225)) = j_ := ⟨_, rfl⟩
       replace H : (if 0 ≤ (ji10) then (if (ji10) < (l0_1.length : Int) then ((steepleref02_Has.f k1 ((rd_T44 l0_1 (ji10)).f0) ((rd_T44 l0_1 (ji10)).f1) (Int.tmod x5_1 t225)).bind fun t230 => (if t230 = true then (if 0 ≤ (wrap64 (Int.tdiv x5_1 64)) then (if (wrap64 (Int.tdiv x5_1 64)) < (y226.length : Int) then (if 0 ≤ (IntKind.u64.wrap (Int.tmod x5_1 64)) then (steepleref03_Words.l0 k1 (y226.set ((wrap64 (Int.tdiv x5_1 64)) : Int).toNat (Go.bits .or .u64 (rd y226 (wrap64 (Int.tdiv x5_1 64))) (shl .u64 1 (IntKind.u64.wrap (Int.tmod x5_1 64))))) t225 (wrap64 (x5_1 + 1)) a0_0 l0_1) else (none)) else (none)) else (none)) else (steepleref03_Words.l0 k1 y226 t225 (wrap64 (x5_1 + 1)) a0_0 l0_1))) else (none)) else (none)) = some r := by first | (rw [hji10] at H; exact H) | (simp only [hji10] at H ⊢; exact H)
       have hji10w : (IntKind.i64.wrap (Int.tdiv x5_1 t225)) = ji10 := (i64_w _).trans hji10
       by_cases c11 : 0 ≤ (ji10)
       ·rw [if_pos c11] at H
        have c11b0 : decide (0 ≤ (ji10)) = true := decide_eq_true c11
        clear c11
        by_cases c12 : (ji10) < (l0_1.length : Int)
        ·rw [if_pos c12] at H
         have c12b0 : decide ((ji10) < (l0_1.length : Int)) = true := decide_eq_true c12
         clear c12
         replace H := Option.bind_eq_some_iff.mp H
         obtain ⟨t230, A130, H⟩ := H
         replace H : (if t230 = true then (if 0 ≤ (wrap64 (Int.tdiv x5_1 64)) then (if (wrap64 (Int.tdiv x5_1 64)) < (y226.length : Int) then (if 0 ≤ (IntKind.u64.wrap (Int.tmod x5_1 64)) then (steepleref03_Words.l0 k1 (y226.set ((wrap64 (Int.tdiv x5_1 64)) : Int).toNat (Go.bits .or .u64 (rd y226 (wrap64 (Int.tdiv x5_1 64))) (shl .u64 1 (IntKind.u64.wrap (Int.tmod x5_1 64))))) t225 (wrap64 (x5_1 + 1)) a0_0 l0_1) else (none)) else (none)) else (none)) else (steepleref03_Words.l0 k1 y226 t225 (wrap64 (x5_1 + 1)) a0_0 l0_1)) = some r := H
         have A13 := Aside0.mk A130
         clear A130
         by_cases c14 : t230 = true
         ·subst c14
          have H1 : (if 0 ≤ (wrap64 (Int.tdiv x5_1 64)) then (if (wrap64 (Int.tdiv x5_1 64)) < (y226.length : Int) then (if 0 ≤ (IntKind.u64.wrap (Int.tmod x5_1 64)) then (steepleref03_Words.l0 k1 (y226.set ((wrap64 (Int.tdiv x5_1 64)) : Int).toNat (Go.bits .or .u64 (rd y226 (wrap64 (Int.tdiv x5_1 64))) (shl .u64 1 (IntKind.u64.wrap (Int.tmod x5_1 64))))) t225 (wrap64 (x5_1 + 1)) a0_0 l0_1) else (none)) else (none)) else (none)) = some r := by rw [if_pos rfl] at H; exact H
          clear H
          have H := H1
          clear H1
          obtain ⟨ji15, hji15⟩ : ∃ j_ : Int, (wrap64 (Int.tdiv x5_1 64)) = j_ := ⟨_, rfl⟩
          replace H : (if 0 ≤ (ji15) then (if (ji15) < (y226.length : Int) then (if 0 ≤ (IntKind.u64.wrap (Int.tmod x5_1 64)) then (steepleref03_Words.l0 k1 (y226.set ((ji15) : Int).toNat (Go.bits .or .u64 (rd y226 (ji15)) (shl .u64 1 (IntKind.u64.wrap (Int.tmod x5_1 64))))) t225 (wrap64 (x5_1 + 1)) a0_0 l0_1) else (none)) else (none)) else (none)) = some r := by first | (rw [hji15] at H; exact H) | (simp only [hji15] at H ⊢; exact H)
          (try rw [hji15] at A13)
          have hji15w : (IntKind.i64.wrap (Int.tdiv x5_1 64)) = ji15 := (i64_w _).trans hji15
          by_cases c16 : 0 ≤ (ji15)
          ·rw [if_pos c16] at H
           have c16b0 : decide (0 ≤ (ji15)) = true := decide_eq_true c16
           clear c16
           by_cases c17 : (ji15) < (y226.length : Int)
           ·rw [if_pos c17] at H
            have c17b0 : decide ((ji15) < (y226.length : Int)) = true := decide_eq_true c17
            clear c17
            obtain ⟨ji18, hji18⟩ : ∃ j_ : Int, (IntKind.u64.wrap (Int.tmod x5_1 64)) = j_ := ⟨_, rfl⟩
            replace H : (if 0 ≤ (ji18) then (steepleref03_Words.l0 k1 (y226.set ((ji15) : Int).toNat (Go.bits .or .u64 (rd y226 (ji15)) (shl .u64 1 (ji18)))) t225 (wrap64 (x5_1 + 1)) a0_0 l0_1) else (none)) = some r := by first | (rw [hji18] at H; exact H) | (simp only [hji18] at H ⊢; exact H)
            (try rw [hji18] at A13)
            by_cases c19 : 0 ≤ (ji18)
            ·rw [if_pos c19] at H
             have c19b0 := eq_true c19
             have c19b1 : decide (0 ≤ (ji18)) = true := decide_eq_true c19
             clear c19
             obtain ⟨ji20, hji20⟩ : ∃ j_ : Int, (shl .u64 1 (ji18)) = j_ := ⟨_, rfl⟩
             replace H : (steepleref03_Words.l0 k1 (y226.set ((ji15) : Int).toNat (Go.bits .or .u64 (rd y226 (ji15)) (ji20))) t225 (wrap64 (x5_1 + 1)) a0_0 l0_1) = some r := by first | (rw [hji20] at H; exact H) | (simp only [hji20] at H ⊢; exact H)
             (try rw [hji20] at A13)
             have hji20_ : (IntKind.u64.wrap (1 * 2 ^ min (ji18).toNat 64)) = ji20 := hji20
             have hji20z : (ji18) ≤ 64 → (IntKind.u64.wrap (1 * 2 ^ (ji18).toNat)) = ji20 := shl_small hji20
             have hji20p0 := eq_true (show (0 : Int) ≤ ji20 by rw [← hji20_]; exact wrap_u64_nonneg _)
             have hji20p1 : decide (0 ≤ (ji20 : Int)) = true := decide_eq_true (of_eq_true hji20p0)
             have hji20u : (IntKind.u64.wrap (2 ^ min (ji18).toNat 64)) = ji20 := by have h_ := hji20_; rw [Int.one_mul] at h_; exact h_
             have hji20v : (ji18) ≤ 64 → (IntKind.u64.wrap (2 ^ (ji18).toNat)) = ji20 := fun hle_ => by have h_ := hji20z hle_; rw [Int.one_mul] at h_; exact h_
             obtain ⟨y232, hy232⟩ : ∃ y_ : List Int, y_ = (y226.set ((ji15) : Int).toNat (Go.bits .or .u64 (rd y226 (ji15)) (ji20))) := ⟨_, rfl⟩
             replace H : (steepleref03_Words.l0 k1 y232 t225 (wrap64 (x5_1 + 1)) a0_0 l0_1) = some r := by first | (rw [hy232]; with_reducible exact H) | (have H2_ := (Option.bind_some _ _).symm.trans H; rw [hy232]; with_reducible exact H2_) | (have H2_ := (Option.bind_some _ _).symm.trans H; with_reducible exact H2_) | with_reducible exact H | (rw [hy232]; exact H) | exact H
             have Ny232 := Aside0.mk hy232
             clear hy232
             have H' := Aside0.mk H
             clear H
             obtain ⟨hcz22_0, hcz22_1⟩ := zc2 BK224
             obtain ⟨hfz22_0, hfz22_1⟩ := zf2 BK224
             try go_wp2_with (first | ((with_reducible refine gate_builtin (b := .append) (xs := #[.tmp 21, .tmp 22]) rfl ?_); at_builtin; refine Kd.R_append (Kd.int .u64) (w0 := w) w.heap.size rfl (.tmp 21) (.tmp 22) 29 23 (.int .u64 0) 8 rfl Try.underlying29 info23 rfl (by decide) (by omega) u3 x3_1 0 [.int .u64 0] (fun _ => True) (fun _ => False) rfl rfl ?aP (fun _ hk => hk.elim) ?aF ?aO ?aB ?aS ?aL ?_; (case aP => exact rfl); (case aB => exact (bq HB.out)); (case aF => exact (fun _ _ => trivial)); (case aO => exact (kr HO_3.out)); (case aS => exact (below_size (bq HB.out))); (case aL => have := LMc8.out; omega); intro v227 w23 ho hb hg hat; rw [← Ny226.out] at ho; have HO228 := Aside0.mk ho; replace BK224 := Aside0.mk (blk_grown (g := gb224) (o := .cells #[.int .i64 a0_0, .slice A0_1 l0_1.length c0_1] 37 (0, 0)) (bk BK224.out) hg (Kd.R_ne HO_3.out BK224.out (by decide))); replace HB := Aside0.mk hb; clear HO_3; clear ho hb hg hat))
             replace HO228 := Aside0.mk (Kd.R_drew HO228.out)
             replace BK224 := Aside0.mk (blk_drew BK224.out)
             replace HB := Aside0.mk (below_drew1 HB.out)
             have p229 : 0 ≤ ((ji10) : Int) := of_decide_eq_true (by first | (with_reducible assumption) | assumption)
             have q229 : (ji10) < (l0_1.length : Int) := of_decide_eq_true (by first | (with_reducible assumption) | assumption)
             obtain ⟨ad229, e229, hx229_0, hx229_1⟩ := at_T44 HR0_1.out (ji10) p229 q229
             have hw229_1 := hx229_1
             have hw229_0 := hx229_0
             cases e229
             replace hx229_0 := (HB.out.cell (World.block_lt_of_cell? w _ hx229_0)).trans hx229_0
             replace hx229_1 := (HB.out.cell (World.block_lt_of_cell? w _ hx229_1)).trans hx229_1
             replace p229 := eq_true p229
             replace q229 := eq_true q229
             refine start_ (n := 11) (S := fun w' => w'.cell? ⟨gb224, 0, none⟩ = some (.int .i64 a0_0) ∧ w'.cell? ⟨gb224, 1, none⟩ = some (.slice (some ad229) l0_1.length c0_1) ∧ w'.cell? (ad229.add (((ji10)).toNat * 2)) = some (.int .u64 ((rd_T44 l0_1 (ji10)).f0)) ∧ w'.cell? ⟨(ad229.add (((ji10)).toNat * 2)).block, (ad229.add (((ji10)).toNat * 2)).off + 1, none⟩ = some (.int .u64 ((rd_T44 l0_1 (ji10)).f1))) (ds := []) #[false, false, false, false, false, false, false, false, false, false, false] (by kernel_rfl) rfl rfl ⟨(blk_cell BK224.out 0).trans rfl, (blk_cell BK224.out 1).trans rfl, ((HB.out.cell (World.block_lt_of_cell? w _ hw229_0)).trans hw229_0), ((HB.out.cell (World.block_lt_of_cell? w _ hw229_1)).trans hw229_1)⟩ (fun hHeld => ?_); refine with_tabW steepleref03_Words.tab8 steepleref03_Words.bits8 (fun HT_ HW_ => ?_)
             generalize w23.drew = w24 at HO228 BK224 HB hx229_0 hx229_1 hHeld ⊢
             refine pure_ (i := 0) (N := some 24) (v := ?_) (a' := ?_) #[true, false, false, false, false, false, false, false, false, false, false] rfl rfl (any_of HT_.out (by kernel_rfl)) (fun _ _ _ h => h) (Or.inl ⟨by rfl, ?_⟩) ?_ ?_
             rotate_left
             ·intro w'
              go_simp
              with_reducible rfl
             rotate_left
             ·simp only [Act.put, List.setIfInBounds_toArray, List.set_cons_zero, List.set_cons_succ, i64_w, i32_w]
              rfl
             refine pure_ (i := 2) (N := some 26) (v := ?_) (a' := ?_) #[true, false, true, false, false, false, false, false, false, false, false] rfl rfl (any_of HT_.out (by kernel_rfl)) (fun _ _ _ h => h) (Or.inl ⟨by rfl, ?_⟩) ?_ ?_
             rotate_left
             ·intro w'
              go_simp
              with_reducible rfl
             rotate_left
             ·simp only [Act.put, List.setIfInBounds_toArray, List.set_cons_zero, List.set_cons_succ, i64_w, i32_w]
              rfl
             refine pure_ (i := 3) (N := some 27) (v := ?_) (a' := ?_) #[true, false, true, true, false, false, false, false, false, false, false] rfl rfl (any_of HT_.out (by kernel_rfl)) (fun _ _ _ h => h) (Or.inl ⟨by rfl, ?_⟩) ?_ ?_
             rotate_left
             ·intro w'
              go_simp
              with_reducible rfl
             rotate_left
             ·simp only [Act.put, List.setIfInBounds_toArray, List.set_cons_zero, List.set_cons_succ, i64_w, i32_w]
              rfl
             refine pure_ (i := 4) (N := some 28) (v := ?_) (a' := ?_) #[true, false, true, true, true, false, false, false, false, false, false] rfl rfl (any_of HT_.out (by kernel_rfl)) (fun _ _ _ h => h) (Or.inl ⟨by rfl, ?_⟩) ?_ ?_
             rotate_left
             ·intro w'
              go_simp
              with_reducible rfl
             rotate_left
             ·simp only [Act.put, List.setIfInBounds_toArray, List.set_cons_zero, List.set_cons_succ, i64_w, i32_w]
              rfl
             refine pure_ (i := 7) (N := some 31) (v := ?_) (a' := ?_) #[true, false, true, true, true, false, false, true, false, false, false] rfl rfl (any_of HT_.out (by kernel_rfl)) (fun _ _ _ h => h) (Or.inl ⟨by rfl, ?_⟩) ?_ ?_
             rotate_left
             ·intro w'
              go_simp
              with_reducible rfl
             rotate_left
             ·simp only [Act.put, List.setIfInBounds_toArray, List.set_cons_zero, List.set_cons_succ, i64_w, i32_w]
              rfl
             refine pure_ (i := 8) (N := some 32) (v := ?_) (a' := ?_) #[true, false, true, true, true, false, false, true, true, false, false] rfl rfl (any_of HT_.out (by kernel_rfl)) (fun _ _ _ h => h) (Or.inl ⟨by rfl, ?_⟩) ?_ ?_
             rotate_left
             ·intro w'
              go_simp
              with_reducible rfl
             rotate_left
             ·simp only [Act.put, List.setIfInBounds_toArray, List.set_cons_zero, List.set_cons_succ, i64_w, i32_w]
              rfl
             refine pure_ (i := 9) (N := some 33) (v := ?_) (a' := ?_) #[true, false, true, true, true, false, false, true, true, true, false] rfl rfl (any_of HT_.out (by kernel_rfl)) (fun _ _ _ h => h) (Or.inl ⟨by rfl, ?_⟩) ?_ ?_
             rotate_left
             ·intro w'
              go_simp
              with_reducible rfl
             rotate_left
             ·simp only [Act.put, List.setIfInBounds_toArray, List.set_cons_zero, List.set_cons_succ, i64_w, i32_w]
              rfl
             refine take_ (i := 1) (N := some 25) (v := ?_) (a' := ?_) #[true, true, true, true, true, false, false, true, true, true, false] rfl rfl (take_ofW HT_.out HW_.out (by kernel_rfl)) (fun _ _ _ h => h) (Or.inl ⟨by rfl, ?_⟩) hHeld ?_ ?_
             rotate_left
             ·rintro w' ⟨s0, s1, s2, s3⟩
              go_simp
              with_reducible rfl
             rotate_left
             ·simp only [Act.put, List.setIfInBounds_toArray, List.set_cons_zero, List.set_cons_succ, i64_w, i32_w]
              rfl
             refine pure_ (i := 5) (N := some 29) (v := ?_) (a' := ?_) #[true, true, true, true, true, true, false, true, true, true, false] rfl rfl (any_of HT_.out (by kernel_rfl)) (fun _ _ _ h => h) (Or.inl ⟨by rfl, ?_⟩) ?_ ?_
             rotate_left
             ·intro w'
              go_simp
              with_reducible rfl
             rotate_left
             ·simp only [Act.put, List.setIfInBounds_toArray, List.set_cons_zero, List.set_cons_succ, i64_w, i32_w]
              rfl
             refine take_ (i := 6) (N := some 30) (v := ?_) (a' := ?_) #[true, true, true, true, true, true, true, true, true, true, false] rfl rfl (take_ofW HT_.out HW_.out (by kernel_rfl)) (fun _ _ _ h => h) (Or.inl ⟨by rfl, ?_⟩) hHeld ?_ ?_
             rotate_left
             ·rintro w' ⟨s0, s1, s2, s3⟩
              go_simp
              with_reducible rfl
             rotate_left
             ·simp only [Act.put, List.setIfInBounds_toArray, List.set_cons_zero, List.set_cons_succ, i64_w, i32_w]
              rfl
             refine one_ (i := 10) (N := some 34) #[true, true, true, true, true, true, true, true, true, true, true] rfl rfl (one_of HT_.out (by kernel_rfl)) (by decide) (fun K hK => ?_)
             refine goes_ Try.func46 (by kernel_rfl) rfl #[.agg #[.int .u64 ((rd_T44 l0_1 (ji10)).f0), .int .u64 ((rd_T44 l0_1 (ji10)).f1)], .int .i64 (Int.tmod x5_1 t225)] (by rfl) rfl rfl (by (try simp only [List.map_toArray, List.map_cons, List.map_nil]); first | done | (simp only [hji10]; rfl) | rfl | (simp only [List.length_drop, List.length_take]; rfl)) ?_
             with_reducible refine (steepleref02_Has.calls k1 ((rd_T44 l0_1 (ji10)).f0) ((rd_T44 l0_1 (ji10)).f1) (Int.tmod x5_1 t225) true _ A13.out).mono ?_
             rintro e w25 ⟨rfl, hb⟩
             refine ⟨_, rfl, ?_⟩
             replace HO228 := kb HO228 hb
             replace BK224 := bb BK224 hb
             replace HB := bh HB hb
             (try clear hb)
             (try clear hb2)
             (try clear hk)
             (try clear hi)
             refine hK.out _ _ ⟨(blk_cell BK224.out 0).trans rfl, (blk_cell BK224.out 1).trans rfl, ((HB.out.cell (World.block_lt_of_cell? w _ hw229_0)).trans hw229_0), ((HB.out.cell (World.block_lt_of_cell? w _ hw229_1)).trans hw229_1)⟩ (fun hHeld => ?_)
             clear hK K
             refine norm_ (a' := ?_) ?_ ?_
             rotate_left
             ·show Act.put _ (some 34) _ = _
              simp only [Act.put, List.setIfInBounds_toArray, List.set_cons_zero, List.set_cons_succ, i64_w, i32_w]
              rfl
             refine done_ (done_of HT_.out (by kernel_rfl)) ?_
             obtain ⟨Ao26, co26, eo26⟩ := Kd.R_slice HO228.out
             subst eo26
             have p231 : 0 ≤ ((ji15) : Int) := of_decide_eq_true (by first | (with_reducible assumption) | assumption)
             have q231 : (ji15) < (y226.length : Int) := of_decide_eq_true (by first | (with_reducible assumption) | assumption)
             (try (obtain ⟨Ap_, cp_, ep_⟩ := Kd.R_slice HO228.out; subst ep_))
             obtain ⟨ad231, e231, hx231_0⟩ := Kd.at_int (Kd.R_reads' HO228.out).2.2 (ji15) p231 q231
             cases e231
             replace p231 := eq_true p231
             replace q231 := eq_true q231
             have p21 : 0 ≤ ((ji15) : Int) := of_decide_eq_true (by first | (with_reducible assumption) | assumption)
             have q21 : ((ji15) : Int) < ((y226.length : Int) : Int) := of_decide_eq_true (by first | (with_reducible assumption) | assumption)
             obtain ⟨go21, co21, eo21, gb21, gl21, cl21, HG21⟩ := Kd.R_form HO228.out (by omega)
             (first | cases eo21 | (injection eo21 with ea_ en_ ec_; (first | subst ea_ | (injection ea_ with ea_; subst ea_)); subst ec_; clear en_))
             have GB21 := Aside0.mk gb21
             have GG21 := Aside0.mk HG21
             clear gb21 gl21 HG21
             (first | simp only [add_plain] at hx231_0 | skip)
             obtain ⟨hx21_0, hf21_0⟩ := Kd.R_celln 0 HO228.out ((ji15) : Int) p21 q21
             replace p21 := eq_true p21
             replace q21 := eq_true q21
             obtain ⟨hy27_, hz27_⟩ := Kd.R_celln 0 HO228.out ((ji15) : Int) (of_decide_eq_true (by first | (with_reducible assumption) | assumption)) (of_decide_eq_true (by first | (with_reducible assumption) | assumption))
             have HP27 := Kd.R_putg HO228.out ((ji15) : Int) (Go.bits .or .u64 (rd y226 (ji15)) (ji20))
             try go_wp2_with (first | ((with_reducible refine gate_store (t := 23) (p := 48) rfl ?_); refine store_event (t := 23) (p := 48) (v := ?vo_w28) (w1 := (w25.setCell ⟨go21, ((ji15) : Int).toNat, none⟩ (.int .u64 (Go.bits .or .u64 (rd y226 (ji15)) (ji20))))) ?hg ?ho ?hn ?hr ?_; (case ho => rfl); (case hg => rfl); (case hn => rfl); (case hr => first | (go_simp; done) | (go_simp; rfl)); intro w28 hw; have hg : w25.grownBy w28 (some go21) := (by rw [hw]; exact HP27.2); have hp_ : Kd.R (Kd.int .u64) 23 w28 w.heap.size (fun _ => True) (.slice (some ⟨go21, 0, none⟩) y226.length co26) y232 := (by rw [hw, Ny232.out]; exact HP27.1); clear HP27; replace BK224 := Aside0.mk (blk_grown (g := gb224) (o := .cells #[.int .i64 a0_0, .slice (some ad229) l0_1.length c0_1] 37 (0, 0)) (bk BK224.out) hg (Kd.R_ne HO228.out BK224.out (by decide))); replace HO228 := Aside0.mk hp_; replace HB := Aside0.mk ((by rw [hw]; exact below_set (HB.out) GB21.out : Below w.heap.size w w28)); clear hg hw hp_))
             go_roundg k1
             case measure => have := HK1.out; omega
             case rel => exact ⟨(y232), (wrap64 (x5_1 + 1)), (by first | rfl | (simp; done) | (simp [*]; done)), H', ⟨by have := HK1.out; omega⟩, ⟨kr HO228.out⟩, ⟨bk BK224.out⟩, ⟨bq HB.out⟩⟩
            ·rw [if_neg c19] at H
             exact absurd H (by simp)
           ·rw [if_neg c17] at H
            exact absurd H (by simp)
          ·rw [if_neg c16] at H
           exact absurd H (by simp)
         ·replace c14 := Bool.eq_false_iff.mpr c14
          subst c14
          have H1 : (steepleref03_Words.l0 k1 y226 t225 (wrap64 (x5_1 + 1)) a0_0 l0_1) = some r := by rw [if_neg (show ¬ (false = true) by decide)] at H; exact H
          clear H
          have H := H1
          clear H1
          have H' := Aside0.mk H
          clear H
          obtain ⟨hcz29_0, hcz29_1⟩ := zc2 BK224
          obtain ⟨hfz29_0, hfz29_1⟩ := zf2 BK224
          try go_wp2_with (first | ((with_reducible refine gate_builtin (b := .append) (xs := #[.tmp 21, .tmp 22]) rfl ?_); at_builtin; refine Kd.R_append (Kd.int .u64) (w0 := w) w.heap.size rfl (.tmp 21) (.tmp 22) 29 23 (.int .u64 0) 8 rfl Try.underlying29 info23 rfl (by decide) (by omega) u3 x3_1 0 [.int .u64 0] (fun _ => True) (fun _ => False) rfl rfl ?aP (fun _ hk => hk.elim) ?aF ?aO ?aB ?aS ?aL ?_; (case aP => exact rfl); (case aB => exact (bq HB.out)); (case aF => exact (fun _ _ => trivial)); (case aO => exact (kr HO_3.out)); (case aS => exact (below_size (bq HB.out))); (case aL => have := LMc8.out; omega); intro v227 w30 ho hb hg hat; rw [← Ny226.out] at ho; have HO228 := Aside0.mk ho; replace BK224 := Aside0.mk (blk_grown (g := gb224) (o := .cells #[.int .i64 a0_0, .slice A0_1 l0_1.length c0_1] 37 (0, 0)) (bk BK224.out) hg (Kd.R_ne HO_3.out BK224.out (by decide))); replace HB := Aside0.mk hb; clear HO_3; clear ho hb hg hat))
          replace HO228 := Aside0.mk (Kd.R_drew HO228.out)
          replace BK224 := Aside0.mk (blk_drew BK224.out)
          replace HB := Aside0.mk (below_drew1 HB.out)
          have p229 : 0 ≤ ((ji10) : Int) := of_decide_eq_true (by first | (with_reducible assumption) | assumption)
          have q229 : (ji10) < (l0_1.length : Int) := of_decide_eq_true (by first | (with_reducible assumption) | assumption)
          obtain ⟨ad229, e229, hx229_0, hx229_1⟩ := at_T44 HR0_1.out (ji10) p229 q229
          have hw229_1 := hx229_1
          have hw229_0 := hx229_0
          cases e229
          replace hx229_0 := (HB.out.cell (World.block_lt_of_cell? w _ hx229_0)).trans hx229_0
          replace hx229_1 := (HB.out.cell (World.block_lt_of_cell? w _ hx229_1)).trans hx229_1
          replace p229 := eq_true p229
          replace q229 := eq_true q229
          refine start_ (n := 11) (S := fun w' => w'.cell? ⟨gb224, 0, none⟩ = some (.int .i64 a0_0) ∧ w'.cell? ⟨gb224, 1, none⟩ = some (.slice (some ad229) l0_1.length c0_1) ∧ w'.cell? (ad229.add (((ji10)).toNat * 2)) = some (.int .u64 ((rd_T44 l0_1 (ji10)).f0)) ∧ w'.cell? ⟨(ad229.add (((ji10)).toNat * 2)).block, (ad229.add (((ji10)).toNat * 2)).off + 1, none⟩ = some (.int .u64 ((rd_T44 l0_1 (ji10)).f1))) (ds := []) #[false, false, false, false, false, false, false, false, false, false, false] (by kernel_rfl) rfl rfl ⟨(blk_cell BK224.out 0).trans rfl, (blk_cell BK224.out 1).trans rfl, ((HB.out.cell (World.block_lt_of_cell? w _ hw229_0)).trans hw229_0), ((HB.out.cell (World.block_lt_of_cell? w _ hw229_1)).trans hw229_1)⟩ (fun hHeld => ?_); refine with_tabW steepleref03_Words.tab8 steepleref03_Words.bits8 (fun HT_ HW_ => ?_)
          generalize w30.drew = w31 at HO228 BK224 HB hx229_0 hx229_1 hHeld ⊢
          refine pure_ (i := 0) (N := some 24) (v := ?_) (a' := ?_) #[true, false, false, false, false, false, false, false, false, false, false] rfl rfl (any_of HT_.out (by kernel_rfl)) (fun _ _ _ h => h) (Or.inl ⟨by rfl, ?_⟩) ?_ ?_
          rotate_left
          ·intro w'
           go_simp
           with_reducible rfl
          rotate_left
          ·simp only [Act.put, List.setIfInBounds_toArray, List.set_cons_zero, List.set_cons_succ, i64_w, i32_w]
           rfl
          refine pure_ (i := 2) (N := some 26) (v := ?_) (a' := ?_) #[true, false, true, false, false, false, false, false, false, false, false] rfl rfl (any_of HT_.out (by kernel_rfl)) (fun _ _ _ h => h) (Or.inl ⟨by rfl, ?_⟩) ?_ ?_
          rotate_left
          ·intro w'
           go_simp
           with_reducible rfl
          rotate_left
          ·simp only [Act.put, List.setIfInBounds_toArray, List.set_cons_zero, List.set_cons_succ, i64_w, i32_w]
           rfl
          refine pure_ (i := 3) (N := some 27) (v := ?_) (a' := ?_) #[true, false, true, true, false, false, false, false, false, false, false] rfl rfl (any_of HT_.out (by kernel_rfl)) (fun _ _ _ h => h) (Or.inl ⟨by rfl, ?_⟩) ?_ ?_
          rotate_left
          ·intro w'
           go_simp
           with_reducible rfl
          rotate_left
          ·simp only [Act.put, List.setIfInBounds_toArray, List.set_cons_zero, List.set_cons_succ, i64_w, i32_w]
           rfl
          refine pure_ (i := 4) (N := some 28) (v := ?_) (a' := ?_) #[true, false, true, true, true, false, false, false, false, false, false] rfl rfl (any_of HT_.out (by kernel_rfl)) (fun _ _ _ h => h) (Or.inl ⟨by rfl, ?_⟩) ?_ ?_
          rotate_left
          ·intro w'
           go_simp
           with_reducible rfl
          rotate_left
          ·simp only [Act.put, List.setIfInBounds_toArray, List.set_cons_zero, List.set_cons_succ, i64_w, i32_w]
           rfl
          refine pure_ (i := 7) (N := some 31) (v := ?_) (a' := ?_) #[true, false, true, true, true, false, false, true, false, false, false] rfl rfl (any_of HT_.out (by kernel_rfl)) (fun _ _ _ h => h) (Or.inl ⟨by rfl, ?_⟩) ?_ ?_
          rotate_left
          ·intro w'
           go_simp
           with_reducible rfl
          rotate_left
          ·simp only [Act.put, List.setIfInBounds_toArray, List.set_cons_zero, List.set_cons_succ, i64_w, i32_w]
           rfl
          refine pure_ (i := 8) (N := some 32) (v := ?_) (a' := ?_) #[true, false, true, true, true, false, false, true, true, false, false] rfl rfl (any_of HT_.out (by kernel_rfl)) (fun _ _ _ h => h) (Or.inl ⟨by rfl, ?_⟩) ?_ ?_
          rotate_left
          ·intro w'
           go_simp
           with_reducible rfl
          rotate_left
          ·simp only [Act.put, List.setIfInBounds_toArray, List.set_cons_zero, List.set_cons_succ, i64_w, i32_w]
           rfl
          refine pure_ (i := 9) (N := some 33) (v := ?_) (a' := ?_) #[true, false, true, true, true, false, false, true, true, true, false] rfl rfl (any_of HT_.out (by kernel_rfl)) (fun _ _ _ h => h) (Or.inl ⟨by rfl, ?_⟩) ?_ ?_
          rotate_left
          ·intro w'
           go_simp
           with_reducible rfl
          rotate_left
          ·simp only [Act.put, List.setIfInBounds_toArray, List.set_cons_zero, List.set_cons_succ, i64_w, i32_w]
           rfl
          refine take_ (i := 1) (N := some 25) (v := ?_) (a' := ?_) #[true, true, true, true, true, false, false, true, true, true, false] rfl rfl (take_ofW HT_.out HW_.out (by kernel_rfl)) (fun _ _ _ h => h) (Or.inl ⟨by rfl, ?_⟩) hHeld ?_ ?_
          rotate_left
          ·rintro w' ⟨s0, s1, s2, s3⟩
           go_simp
           with_reducible rfl
          rotate_left
          ·simp only [Act.put, List.setIfInBounds_toArray, List.set_cons_zero, List.set_cons_succ, i64_w, i32_w]
           rfl
          refine pure_ (i := 5) (N := some 29) (v := ?_) (a' := ?_) #[true, true, true, true, true, true, false, true, true, true, false] rfl rfl (any_of HT_.out (by kernel_rfl)) (fun _ _ _ h => h) (Or.inl ⟨by rfl, ?_⟩) ?_ ?_
          rotate_left
          ·intro w'
           go_simp
           with_reducible rfl
          rotate_left
          ·simp only [Act.put, List.setIfInBounds_toArray, List.set_cons_zero, List.set_cons_succ, i64_w, i32_w]
           rfl
          refine take_ (i := 6) (N := some 30) (v := ?_) (a' := ?_) #[true, true, true, true, true, true, true, true, true, true, false] rfl rfl (take_ofW HT_.out HW_.out (by kernel_rfl)) (fun _ _ _ h => h) (Or.inl ⟨by rfl, ?_⟩) hHeld ?_ ?_
          rotate_left
          ·rintro w' ⟨s0, s1, s2, s3⟩
           go_simp
           with_reducible rfl
          rotate_left
          ·simp only [Act.put, List.setIfInBounds_toArray, List.set_cons_zero, List.set_cons_succ, i64_w, i32_w]
           rfl
          refine one_ (i := 10) (N := some 34) #[true, true, true, true, true, true, true, true, true, true, true] rfl rfl (one_of HT_.out (by kernel_rfl)) (by decide) (fun K hK => ?_)
          refine goes_ Try.func46 (by kernel_rfl) rfl #[.agg #[.int .u64 ((rd_T44 l0_1 (ji10)).f0), .int .u64 ((rd_T44 l0_1 (ji10)).f1)], .int .i64 (Int.tmod x5_1 t225)] (by rfl) rfl rfl (by (try simp only [List.map_toArray, List.map_cons, List.map_nil]); first | done | (simp only [hji10]; rfl) | rfl | (simp only [List.length_drop, List.length_take]; rfl)) ?_
          with_reducible refine (steepleref02_Has.calls k1 ((rd_T44 l0_1 (ji10)).f0) ((rd_T44 l0_1 (ji10)).f1) (Int.tmod x5_1 t225) false _ A13.out).mono ?_
          rintro e w32 ⟨rfl, hb⟩
          refine ⟨_, rfl, ?_⟩
          replace HO228 := kb HO228 hb
          replace BK224 := bb BK224 hb
          replace HB := bh HB hb
          (try clear hb)
          (try clear hb2)
          (try clear hk)
          (try clear hi)
          refine hK.out _ _ ⟨(blk_cell BK224.out 0).trans rfl, (blk_cell BK224.out 1).trans rfl, ((HB.out.cell (World.block_lt_of_cell? w _ hw229_0)).trans hw229_0), ((HB.out.cell (World.block_lt_of_cell? w _ hw229_1)).trans hw229_1)⟩ (fun hHeld => ?_)
          clear hK K
          refine norm_ (a' := ?_) ?_ ?_
          rotate_left
          ·show Act.put _ (some 34) _ = _
           simp only [Act.put, List.setIfInBounds_toArray, List.set_cons_zero, List.set_cons_succ, i64_w, i32_w]
           rfl
          refine done_ (done_of HT_.out (by kernel_rfl)) ?_
          try go_wp2
          go_roundg k1
          case measure => have := HK1.out; omega
          case rel => exact ⟨(y226), (wrap64 (x5_1 + 1)), (by first | rfl | (simp; done) | (simp [*]; done)), H', ⟨by have := HK1.out; omega⟩, ⟨kr HO228.out⟩, ⟨bk BK224.out⟩, ⟨bq HB.out⟩⟩
        ·rw [if_neg c12] at H
         exact absurd H (by simp)
       ·rw [if_neg c11] at H
        exact absurd H (by simp)
     ·rw [if_neg c8] at H
      exact absurd H (by simp)
    ·rw [if_neg c7] at H
     have c7b0 : ((Int.tmod x5_1 64) == 0) = false := beq_eq_false_iff_ne.mpr c7
     have c7b1 : ((Int.tmod x5_1 64) != 0) = true := bne_iff_ne.mpr c7
     by_cases c33 : t225 = 0
     ·rw [if_pos c33] at H
      exact absurd H (by simp)
     ·rw [if_neg c33] at H
      have c33b0 : (t225 == 0) = false := beq_eq_false_iff_ne.mpr c33
      have c33b1 : (t225 != 0) = true := bne_iff_ne.mpr c33
      obtain ⟨ji34, hji34⟩ : ∃ j_ : Int, (wrap64 (Int.tdiv x5_1 t225)) = j_ := ⟨_, rfl⟩
      replace H : (if 0 ≤ (ji34) then (if (ji34) < (l0_1.length : Int) then ((steepleref02_Has.f k1 ((rd_T44 l0_1 (ji34)).f0) ((rd_T44 l0_1 (ji34)).f1) (Int.tmod x5_1 t225)).bind fun t234 => (if t234 = true then (if 0 ≤ (wrap64 (Int.tdiv x5_1 64)) then (if (wrap64 (Int.tdiv x5_1 64)) < (x3_1.length : Int) then (if 0 ≤ (IntKind.u64.wrap (Int.tmod x5_1 64)) then (steepleref03_Words.l0 k1 (x3_1.set ((wrap64 (Int.tdiv x5_1 64)) : Int).toNat (Go.bits .or .u64 (rd x3_1 (wrap64 (Int.tdiv x5_1 64))) (shl .u64 1 (IntKind.u64.wrap (Int.tmod x5_1 64))))) t225 (wrap64 (x5_1 + 1)) a0_0 l0_1) else (none)) else (none)) else (none)) else (steepleref03_Words.l0 k1 x3_1 t225 (wrap64 (x5_1 + 1)) a0_0 l0_1))) else (none)) else (none)) = some r := by first | (rw [hji34] at H; exact H) | (simp only [hji34] at H ⊢; exact H)
      have hji34w : (IntKind.i64.wrap (Int.tdiv x5_1 t225)) = ji34 := (i64_w _).trans hji34
      by_cases c35 : 0 ≤ (ji34)
      ·rw [if_pos c35] at H
       have c35b0 : decide (0 ≤ (ji34)) = true := decide_eq_true c35
       clear c35
       by_cases c36 : (ji34) < (l0_1.length : Int)
       ·rw [if_pos c36] at H
        have c36b0 : decide ((ji34) < (l0_1.length : Int)) = true := decide_eq_true c36
        clear c36
        replace H := Option.bind_eq_some_iff.mp H
        obtain ⟨t234, A370, H⟩ := H
        replace H : (if t234 = true then (if 0 ≤ (wrap64 (Int.tdiv x5_1 64)) then (if (wrap64 (Int.tdiv x5_1 64)) < (x3_1.length : Int) then (if 0 ≤ (IntKind.u64.wrap (Int.tmod x5_1 64)) then (steepleref03_Words.l0 k1 (x3_1.set ((wrap64 (Int.tdiv x5_1 64)) : Int).toNat (Go.bits .or .u64 (rd x3_1 (wrap64 (Int.tdiv x5_1 64))) (shl .u64 1 (IntKind.u64.wrap (Int.tmod x5_1 64))))) t225 (wrap64 (x5_1 + 1)) a0_0 l0_1) else (none)) else (none)) else (none)) else (steepleref03_Words.l0 k1 x3_1 t225 (wrap64 (x5_1 + 1)) a0_0 l0_1)) = some r := H
        have A37 := Aside0.mk A370
        clear A370
        by_cases c38 : t234 = true
        ·subst c38
         have H1 : (if 0 ≤ (wrap64 (Int.tdiv x5_1 64)) then (if (wrap64 (Int.tdiv x5_1 64)) < (x3_1.length : Int) then (if 0 ≤ (IntKind.u64.wrap (Int.tmod x5_1 64)) then (steepleref03_Words.l0 k1 (x3_1.set ((wrap64 (Int.tdiv x5_1 64)) : Int).toNat (Go.bits .or .u64 (rd x3_1 (wrap64 (Int.tdiv x5_1 64))) (shl .u64 1 (IntKind.u64.wrap (Int.tmod x5_1 64))))) t225 (wrap64 (x5_1 + 1)) a0_0 l0_1) else (none)) else (none)) else (none)) = some r := by rw [if_pos rfl] at H; exact H
         clear H
         have H := H1
         clear H1
         obtain ⟨ji39, hji39⟩ : ∃ j_ : Int, (wrap64 (Int.tdiv x5_1 64)) = j_ := ⟨_, rfl⟩
         replace H : (if 0 ≤ (ji39) then (if (ji39) < (x3_1.length : Int) then (if 0 ≤ (IntKind.u64.wrap (Int.tmod x5_1 64)) then (steepleref03_Words.l0 k1 (x3_1.set ((ji39) : Int).toNat (Go.bits .or .u64 (rd x3_1 (ji39)) (shl .u64 1 (IntKind.u64.wrap (Int.tmod x5_1 64))))) t225 (wrap64 (x5_1 + 1)) a0_0 l0_1) else (none)) else (none)) else (none)) = some r := by first | (rw [hji39] at H; exact H) | (simp only [hji39] at H ⊢; exact H)
         (try rw [hji39] at A37)
         have hji39w : (IntKind.i64.wrap (Int.tdiv x5_1 64)) = ji39 := (i64_w _).trans hji39
         by_cases c40 : 0 ≤ (ji39)
         ·rw [if_pos c40] at H
          have c40b0 : decide (0 ≤ (ji39)) = true := decide_eq_true c40
          clear c40
          by_cases c41 : (ji39) < (x3_1.length : Int)
          ·rw [if_pos c41] at H
           have c41b0 : decide ((ji39) < (x3_1.length : Int)) = true := decide_eq_true c41
           clear c41
           obtain ⟨ji42, hji42⟩ : ∃ j_ : Int, (IntKind.u64.wrap (Int.tmod x5_1 64)) = j_ := ⟨_, rfl⟩
           replace H : (if 0 ≤ (ji42) then (steepleref03_Words.l0 k1 (x3_1.set ((ji39) : Int).toNat (Go.bits .or .u64 (rd x3_1 (ji39)) (shl .u64 1 (ji42)))) t225 (wrap64 (x5_1 + 1)) a0_0 l0_1) else (none)) = some r := by first | (rw [hji42] at H; exact H) | (simp only [hji42] at H ⊢; exact H)
           (try rw [hji42] at A37)
           by_cases c43 : 0 ≤ (ji42)
           ·rw [if_pos c43] at H
            have c43b0 := eq_true c43
            have c43b1 : decide (0 ≤ (ji42)) = true := decide_eq_true c43
            clear c43
            obtain ⟨ji44, hji44⟩ : ∃ j_ : Int, (shl .u64 1 (ji42)) = j_ := ⟨_, rfl⟩
            replace H : (steepleref03_Words.l0 k1 (x3_1.set ((ji39) : Int).toNat (Go.bits .or .u64 (rd x3_1 (ji39)) (ji44))) t225 (wrap64 (x5_1 + 1)) a0_0 l0_1) = some r := by first | (rw [hji44] at H; exact H) | (simp only [hji44] at H ⊢; exact H)
            (try rw [hji44] at A37)
            have hji44_ : (IntKind.u64.wrap (1 * 2 ^ min (ji42).toNat 64)) = ji44 := hji44
            have hji44z : (ji42) ≤ 64 → (IntKind.u64.wrap (1 * 2 ^ (ji42).toNat)) = ji44 := shl_small hji44
            have hji44p0 := eq_true (show (0 : Int) ≤ ji44 by rw [← hji44_]; exact wrap_u64_nonneg _)
            have hji44p1 : decide (0 ≤ (ji44 : Int)) = true := decide_eq_true (of_eq_true hji44p0)
            have hji44u : (IntKind.u64.wrap (2 ^ min (ji42).toNat 64)) = ji44 := by have h_ := hji44_; rw [Int.one_mul] at h_; exact h_
            have hji44v : (ji42) ≤ 64 → (IntKind.u64.wrap (2 ^ (ji42).toNat)) = ji44 := fun hle_ => by have h_ := hji44z hle_; rw [Int.one_mul] at h_; exact h_
            obtain ⟨y236, hy236⟩ : ∃ y_ : List Int, y_ = (x3_1.set ((ji39) : Int).toNat (Go.bits .or .u64 (rd x3_1 (ji39)) (ji44))) := ⟨_, rfl⟩
            replace H : (steepleref03_Words.l0 k1 y236 t225 (wrap64 (x5_1 + 1)) a0_0 l0_1) = some r := by first | (rw [hy236]; with_reducible exact H) | (have H2_ := (Option.bind_some _ _).symm.trans H; rw [hy236]; with_reducible exact H2_) | (have H2_ := (Option.bind_some _ _).symm.trans H; with_reducible exact H2_) | with_reducible exact H | (rw [hy236]; exact H) | exact H
            have Ny236 := Aside0.mk hy236
            clear hy236
            have H' := Aside0.mk H
            clear H
            obtain ⟨hcz46_0, hcz46_1⟩ := zc2 BK224
            obtain ⟨hfz46_0, hfz46_1⟩ := zf2 BK224
            try go_wp2
            replace HO_3 := Aside0.mk (Kd.R_drew HO_3.out)
            replace BK224 := Aside0.mk (blk_drew BK224.out)
            replace HB := Aside0.mk (below_drew1 HB.out)
            have p233 : 0 ≤ ((ji34) : Int) := of_decide_eq_true (by first | (with_reducible assumption) | assumption)
            have q233 : (ji34) < (l0_1.length : Int) := of_decide_eq_true (by first | (with_reducible assumption) | assumption)
            obtain ⟨ad233, e233, hx233_0, hx233_1⟩ := at_T44 HR0_1.out (ji34) p233 q233
            have hw233_1 := hx233_1
            have hw233_0 := hx233_0
            cases e233
            replace hx233_0 := (HB.out.cell (World.block_lt_of_cell? w _ hx233_0)).trans hx233_0
            replace hx233_1 := (HB.out.cell (World.block_lt_of_cell? w _ hx233_1)).trans hx233_1
            replace p233 := eq_true p233
            replace q233 := eq_true q233
            refine start_ (n := 11) (S := fun w' => w'.cell? ⟨gb224, 0, none⟩ = some (.int .i64 a0_0) ∧ w'.cell? ⟨gb224, 1, none⟩ = some (.slice (some ad233) l0_1.length c0_1) ∧ w'.cell? (ad233.add (((ji34)).toNat * 2)) = some (.int .u64 ((rd_T44 l0_1 (ji34)).f0)) ∧ w'.cell? ⟨(ad233.add (((ji34)).toNat * 2)).block, (ad233.add (((ji34)).toNat * 2)).off + 1, none⟩ = some (.int .u64 ((rd_T44 l0_1 (ji34)).f1))) (ds := []) #[false, false, false, false, false, false, false, false, false, false, false] (by kernel_rfl) rfl rfl ⟨(blk_cell BK224.out 0).trans rfl, (blk_cell BK224.out 1).trans rfl, ((HB.out.cell (World.block_lt_of_cell? w _ hw233_0)).trans hw233_0), ((HB.out.cell (World.block_lt_of_cell? w _ hw233_1)).trans hw233_1)⟩ (fun hHeld => ?_); refine with_tabW steepleref03_Words.tab8 steepleref03_Words.bits8 (fun HT_ HW_ => ?_)
            generalize wr.drew = w47 at HO_3 BK224 HB hx233_0 hx233_1 hHeld ⊢
            refine pure_ (i := 0) (N := some 24) (v := ?_) (a' := ?_) #[true, false, false, false, false, false, false, false, false, false, false] rfl rfl (any_of HT_.out (by kernel_rfl)) (fun _ _ _ h => h) (Or.inl ⟨by rfl, ?_⟩) ?_ ?_
            rotate_left
            ·intro w'
             go_simp
             with_reducible rfl
            rotate_left
            ·simp only [Act.put, List.setIfInBounds_toArray, List.set_cons_zero, List.set_cons_succ, i64_w, i32_w]
             rfl
            refine pure_ (i := 2) (N := some 26) (v := ?_) (a' := ?_) #[true, false, true, false, false, false, false, false, false, false, false] rfl rfl (any_of HT_.out (by kernel_rfl)) (fun _ _ _ h => h) (Or.inl ⟨by rfl, ?_⟩) ?_ ?_
            rotate_left
            ·intro w'
             go_simp
             with_reducible rfl
            rotate_left
            ·simp only [Act.put, List.setIfInBounds_toArray, List.set_cons_zero, List.set_cons_succ, i64_w, i32_w]
             rfl
            refine pure_ (i := 3) (N := some 27) (v := ?_) (a' := ?_) #[true, false, true, true, false, false, false, false, false, false, false] rfl rfl (any_of HT_.out (by kernel_rfl)) (fun _ _ _ h => h) (Or.inl ⟨by rfl, ?_⟩) ?_ ?_
            rotate_left
            ·intro w'
             go_simp
             with_reducible rfl
            rotate_left
            ·simp only [Act.put, List.setIfInBounds_toArray, List.set_cons_zero, List.set_cons_succ, i64_w, i32_w]
             rfl
            refine pure_ (i := 4) (N := some 28) (v := ?_) (a' := ?_) #[true, false, true, true, true, false, false, false, false, false, false] rfl rfl (any_of HT_.out (by kernel_rfl)) (fun _ _ _ h => h) (Or.inl ⟨by rfl, ?_⟩) ?_ ?_
            rotate_left
            ·intro w'
             go_simp
             with_reducible rfl
            rotate_left
            ·simp only [Act.put, List.setIfInBounds_toArray, List.set_cons_zero, List.set_cons_succ, i64_w, i32_w]
             rfl
            refine pure_ (i := 7) (N := some 31) (v := ?_) (a' := ?_) #[true, false, true, true, true, false, false, true, false, false, false] rfl rfl (any_of HT_.out (by kernel_rfl)) (fun _ _ _ h => h) (Or.inl ⟨by rfl, ?_⟩) ?_ ?_
            rotate_left
            ·intro w'
             go_simp
             with_reducible rfl
            rotate_left
            ·simp only [Act.put, List.setIfInBounds_toArray, List.set_cons_zero, List.set_cons_succ, i64_w, i32_w]
             rfl
            refine pure_ (i := 8) (N := some 32) (v := ?_) (a' := ?_) #[true, false, true, true, true, false, false, true, true, false, false] rfl rfl (any_of HT_.out (by kernel_rfl)) (fun _ _ _ h => h) (Or.inl ⟨by rfl, ?_⟩) ?_ ?_
            rotate_left
            ·intro w'
             go_simp
             with_reducible rfl
            rotate_left
            ·simp only [Act.put, List.setIfInBounds_toArray, List.set_cons_zero, List.set_cons_succ, i64_w, i32_w]
             rfl
            refine pure_ (i := 9) (N := some 33) (v := ?_) (a' := ?_) #[true, false, true, true, true, false, false, true, true, true, false] rfl rfl (any_of HT_.out (by kernel_rfl)) (fun _ _ _ h => h) (Or.inl ⟨by rfl, ?_⟩) ?_ ?_
            rotate_left
            ·intro w'
             go_simp
             with_reducible rfl
            rotate_left
            ·simp only [Act.put, List.setIfInBounds_toArray, List.set_cons_zero, List.set_cons_succ, i64_w, i32_w]
             rfl
            refine take_ (i := 1) (N := some 25) (v := ?_) (a' := ?_) #[true, true, true, true, true, false, false, true, true, true, false] rfl rfl (take_ofW HT_.out HW_.out (by kernel_rfl)) (fun _ _ _ h => h) (Or.inl ⟨by rfl, ?_⟩) hHeld ?_ ?_
            rotate_left
            ·rintro w' ⟨s0, s1, s2, s3⟩
             go_simp
             with_reducible rfl
            rotate_left
            ·simp only [Act.put, List.setIfInBounds_toArray, List.set_cons_zero, List.set_cons_succ, i64_w, i32_w]
             rfl
            refine pure_ (i := 5) (N := some 29) (v := ?_) (a' := ?_) #[true, true, true, true, true, true, false, true, true, true, false] rfl rfl (any_of HT_.out (by kernel_rfl)) (fun _ _ _ h => h) (Or.inl ⟨by rfl, ?_⟩) ?_ ?_
            rotate_left
            ·intro w'
             go_simp
             with_reducible rfl
            rotate_left
            ·simp only [Act.put, List.setIfInBounds_toArray, List.set_cons_zero, List.set_cons_succ, i64_w, i32_w]
             rfl
            refine take_ (i := 6) (N := some 30) (v := ?_) (a' := ?_) #[true, true, true, true, true, true, true, true, true, true, false] rfl rfl (take_ofW HT_.out HW_.out (by kernel_rfl)) (fun _ _ _ h => h) (Or.inl ⟨by rfl, ?_⟩) hHeld ?_ ?_
            rotate_left
            ·rintro w' ⟨s0, s1, s2, s3⟩
             go_simp
             with_reducible rfl
            rotate_left
            ·simp only [Act.put, List.setIfInBounds_toArray, List.set_cons_zero, List.set_cons_succ, i64_w, i32_w]
             rfl
            refine one_ (i := 10) (N := some 34) #[true, true, true, true, true, true, true, true, true, true, true] rfl rfl (one_of HT_.out (by kernel_rfl)) (by decide) (fun K hK => ?_)
            refine goes_ Try.func46 (by kernel_rfl) rfl #[.agg #[.int .u64 ((rd_T44 l0_1 (ji34)).f0), .int .u64 ((rd_T44 l0_1 (ji34)).f1)], .int .i64 (Int.tmod x5_1 t225)] (by rfl) rfl rfl (by (try simp only [List.map_toArray, List.map_cons, List.map_nil]); first | done | (simp only [hji34]; rfl) | rfl | (simp only [List.length_drop, List.length_take]; rfl)) ?_
            with_reducible refine (steepleref02_Has.calls k1 ((rd_T44 l0_1 (ji34)).f0) ((rd_T44 l0_1 (ji34)).f1) (Int.tmod x5_1 t225) true _ A37.out).mono ?_
            rintro e w48 ⟨rfl, hb⟩
            refine ⟨_, rfl, ?_⟩
            replace HO_3 := kb HO_3 hb
            replace BK224 := bb BK224 hb
            replace HB := bh HB hb
            (try clear hb)
            (try clear hb2)
            (try clear hk)
            (try clear hi)
            refine hK.out _ _ ⟨(blk_cell BK224.out 0).trans rfl, (blk_cell BK224.out 1).trans rfl, ((HB.out.cell (World.block_lt_of_cell? w _ hw233_0)).trans hw233_0), ((HB.out.cell (World.block_lt_of_cell? w _ hw233_1)).trans hw233_1)⟩ (fun hHeld => ?_)
            clear hK K
            refine norm_ (a' := ?_) ?_ ?_
            rotate_left
            ·show Act.put _ (some 34) _ = _
             simp only [Act.put, List.setIfInBounds_toArray, List.set_cons_zero, List.set_cons_succ, i64_w, i32_w]
             rfl
            refine done_ (done_of HT_.out (by kernel_rfl)) ?_
            obtain ⟨Ao49, co49, eo49⟩ := Kd.R_slice HO_3.out
            subst eo49
            have p235 : 0 ≤ ((ji39) : Int) := of_decide_eq_true (by first | (with_reducible assumption) | assumption)
            have q235 : (ji39) < (x3_1.length : Int) := of_decide_eq_true (by first | (with_reducible assumption) | assumption)
            (try (obtain ⟨Ap_, cp_, ep_⟩ := Kd.R_slice HO_3.out; subst ep_))
            obtain ⟨ad235, e235, hx235_0⟩ := Kd.at_int (Kd.R_reads' HO_3.out).2.2 (ji39) p235 q235
            cases e235
            replace p235 := eq_true p235
            replace q235 := eq_true q235
            have p45 : 0 ≤ ((ji39) : Int) := of_decide_eq_true (by first | (with_reducible assumption) | assumption)
            have q45 : ((ji39) : Int) < ((x3_1.length : Int) : Int) := of_decide_eq_true (by first | (with_reducible assumption) | assumption)
            obtain ⟨go45, co45, eo45, gb45, gl45, cl45, HG45⟩ := Kd.R_form HO_3.out (by omega)
            (first | cases eo45 | (injection eo45 with ea_ en_ ec_; (first | subst ea_ | (injection ea_ with ea_; subst ea_)); subst ec_; clear en_))
            have GB45 := Aside0.mk gb45
            have GG45 := Aside0.mk HG45
            clear gb45 gl45 HG45
            (first | simp only [add_plain] at hx235_0 | skip)
            obtain ⟨hx45_0, hf45_0⟩ := Kd.R_celln 0 HO_3.out ((ji39) : Int) p45 q45
            replace p45 := eq_true p45
            replace q45 := eq_true q45
            obtain ⟨hy50_, hz50_⟩ := Kd.R_celln 0 HO_3.out ((ji39) : Int) (of_decide_eq_true (by first | (with_reducible assumption) | assumption)) (of_decide_eq_true (by first | (with_reducible assumption) | assumption))
            have HP50 := Kd.R_putg HO_3.out ((ji39) : Int) (Go.bits .or .u64 (rd x3_1 (ji39)) (ji44))
            try go_wp2_with (first | ((with_reducible refine gate_store (t := 23) (p := 48) rfl ?_); refine store_event (t := 23) (p := 48) (v := ?vo_w51) (w1 := (w48.setCell ⟨go45, ((ji39) : Int).toNat, none⟩ (.int .u64 (Go.bits .or .u64 (rd x3_1 (ji39)) (ji44))))) ?hg ?ho ?hn ?hr ?_; (case ho => rfl); (case hg => rfl); (case hn => rfl); (case hr => first | (go_simp; done) | (go_simp; rfl)); intro w51 hw; have hg : w48.grownBy w51 (some go45) := (by rw [hw]; exact HP50.2); have hp_ : Kd.R (Kd.int .u64) 23 w51 w.heap.size (fun _ => True) (.slice (some ⟨go45, 0, none⟩) x3_1.length co49) y236 := (by rw [hw, Ny236.out]; exact HP50.1); clear HP50; replace BK224 := Aside0.mk (blk_grown (g := gb224) (o := .cells #[.int .i64 a0_0, .slice (some ad233) l0_1.length c0_1] 37 (0, 0)) (bk BK224.out) hg (Kd.R_ne HO_3.out BK224.out (by decide))); replace HO_3 := Aside0.mk hp_; replace HB := Aside0.mk ((by rw [hw]; exact below_set (HB.out) GB45.out : Below w.heap.size w w51)); clear hg hw hp_))
            go_roundg k1
            case measure => have := HK1.out; omega
            case rel => exact ⟨(y236), (wrap64 (x5_1 + 1)), (by first | rfl | (simp; done) | (simp [*]; done)), H', ⟨by have := HK1.out; omega⟩, ⟨kr HO_3.out⟩, ⟨bk BK224.out⟩, ⟨bq HB.out⟩⟩
           ·rw [if_neg c43] at H
            exact absurd H (by simp)
          ·rw [if_neg c41] at H
           exact absurd H (by simp)
         ·rw [if_neg c40] at H
          exact absurd H (by simp)
        ·replace c38 := Bool.eq_false_iff.mpr c38
         subst c38
         have H1 : (steepleref03_Words.l0 k1 x3_1 t225 (wrap64 (x5_1 + 1)) a0_0 l0_1) = some r := by rw [if_neg (show ¬ (false = true) by decide)] at H; exact H
         clear H
         have H := H1
         clear H1
         have H' := Aside0.mk H
         clear H
         obtain ⟨hcz52_0, hcz52_1⟩ := zc2 BK224
         obtain ⟨hfz52_0, hfz52_1⟩ := zf2 BK224
         try go_wp2
         replace HO_3 := Aside0.mk (Kd.R_drew HO_3.out)
         replace BK224 := Aside0.mk (blk_drew BK224.out)
         replace HB := Aside0.mk (below_drew1 HB.out)
         have p233 : 0 ≤ ((ji34) : Int) := of_decide_eq_true (by first | (with_reducible assumption) | assumption)
         have q233 : (ji34) < (l0_1.length : Int) := of_decide_eq_true (by first | (with_reducible assumption) | assumption)
         obtain ⟨ad233, e233, hx233_0, hx233_1⟩ := at_T44 HR0_1.out (ji34) p233 q233
         have hw233_1 := hx233_1
         have hw233_0 := hx233_0
         cases e233
         replace hx233_0 := (HB.out.cell (World.block_lt_of_cell? w _ hx233_0)).trans hx233_0
         replace hx233_1 := (HB.out.cell (World.block_lt_of_cell? w _ hx233_1)).trans hx233_1
         replace p233 := eq_true p233
         replace q233 := eq_true q233
         refine start_ (n := 11) (S := fun w' => w'.cell? ⟨gb224, 0, none⟩ = some (.int .i64 a0_0) ∧ w'.cell? ⟨gb224, 1, none⟩ = some (.slice (some ad233) l0_1.length c0_1) ∧ w'.cell? (ad233.add (((ji34)).toNat * 2)) = some (.int .u64 ((rd_T44 l0_1 (ji34)).f0)) ∧ w'.cell? ⟨(ad233.add (((ji34)).toNat * 2)).block, (ad233.add (((ji34)).toNat * 2)).off + 1, none⟩ = some (.int .u64 ((rd_T44 l0_1 (ji34)).f1))) (ds := []) #[false, false, false, false, false, false, false, false, false, false, false] (by kernel_rfl) rfl rfl ⟨(blk_cell BK224.out 0).trans rfl, (blk_cell BK224.out 1).trans rfl, ((HB.out.cell (World.block_lt_of_cell? w _ hw233_0)).trans hw233_0), ((HB.out.cell (World.block_lt_of_cell? w _ hw233_1)).trans hw233_1)⟩ (fun hHeld => ?_); refine with_tabW steepleref03_Words.tab8 steepleref03_Words.bits8 (fun HT_ HW_ => ?_)
         generalize wr.drew = w53 at HO_3 BK224 HB hx233_0 hx233_1 hHeld ⊢
         refine pure_ (i := 0) (N := some 24) (v := ?_) (a' := ?_) #[true, false, false, false, false, false, false, false, false, false, false] rfl rfl (any_of HT_.out (by kernel_rfl)) (fun _ _ _ h => h) (Or.inl ⟨by rfl, ?_⟩) ?_ ?_
         rotate_left
         ·intro w'
          go_simp
          with_reducible rfl
         rotate_left
         ·simp only [Act.put, List.setIfInBounds_toArray, List.set_cons_zero, List.set_cons_succ, i64_w, i32_w]
          rfl
         refine pure_ (i := 2) (N := some 26) (v := ?_) (a' := ?_) #[true, false, true, false, false, false, false, false, false, false, false] rfl rfl (any_of HT_.out (by kernel_rfl)) (fun _ _ _ h => h) (Or.inl ⟨by rfl, ?_⟩) ?_ ?_
         rotate_left
         ·intro w'
          go_simp
          with_reducible rfl
         rotate_left
         ·simp only [Act.put, List.setIfInBounds_toArray, List.set_cons_zero, List.set_cons_succ, i64_w, i32_w]
          rfl
         refine pure_ (i := 3) (N := some 27) (v := ?_) (a' := ?_) #[true, false, true, true, false, false, false, false, false, false, false] rfl rfl (any_of HT_.out (by kernel_rfl)) (fun _ _ _ h => h) (Or.inl ⟨by rfl, ?_⟩) ?_ ?_
         rotate_left
         ·intro w'
          go_simp
          with_reducible rfl
         rotate_left
         ·simp only [Act.put, List.setIfInBounds_toArray, List.set_cons_zero, List.set_cons_succ, i64_w, i32_w]
          rfl
         refine pure_ (i := 4) (N := some 28) (v := ?_) (a' := ?_) #[true, false, true, true, true, false, false, false, false, false, false] rfl rfl (any_of HT_.out (by kernel_rfl)) (fun _ _ _ h => h) (Or.inl ⟨by rfl, ?_⟩) ?_ ?_
         rotate_left
         ·intro w'
          go_simp
          with_reducible rfl
         rotate_left
         ·simp only [Act.put, List.setIfInBounds_toArray, List.set_cons_zero, List.set_cons_succ, i64_w, i32_w]
          rfl
         refine pure_ (i := 7) (N := some 31) (v := ?_) (a' := ?_) #[true, false, true, true, true, false, false, true, false, false, false] rfl rfl (any_of HT_.out (by kernel_rfl)) (fun _ _ _ h => h) (Or.inl ⟨by rfl, ?_⟩) ?_ ?_
         rotate_left
         ·intro w'
          go_simp
          with_reducible rfl
         rotate_left
         ·simp only [Act.put, List.setIfInBounds_toArray, List.set_cons_zero, List.set_cons_succ, i64_w, i32_w]
          rfl
         refine pure_ (i := 8) (N := some 32) (v := ?_) (a' := ?_) #[true, false, true, true, true, false, false, true, true, false, false] rfl rfl (any_of HT_.out (by kernel_rfl)) (fun _ _ _ h => h) (Or.inl ⟨by rfl, ?_⟩) ?_ ?_
         rotate_left
         ·intro w'
          go_simp
          with_reducible rfl
         rotate_left
         ·simp only [Act.put, List.setIfInBounds_toArray, List.set_cons_zero, List.set_cons_succ, i64_w, i32_w]
          rfl
         refine pure_ (i := 9) (N := some 33) (v := ?_) (a' := ?_) #[true, false, true, true, true, false, false, true, true, true, false] rfl rfl (any_of HT_.out (by kernel_rfl)) (fun _ _ _ h => h) (Or.inl ⟨by rfl, ?_⟩) ?_ ?_
         rotate_left
         ·intro w'
          go_simp
          with_reducible rfl
         rotate_left
         ·simp only [Act.put, List.setIfInBounds_toArray, List.set_cons_zero, List.set_cons_succ, i64_w, i32_w]
          rfl
         refine take_ (i := 1) (N := some 25) (v := ?_) (a' := ?_) #[true, true, true, true, true, false, false, true, true, true, false] rfl rfl (take_ofW HT_.out HW_.out (by kernel_rfl)) (fun _ _ _ h => h) (Or.inl ⟨by rfl, ?_⟩) hHeld ?_ ?_
         rotate_left
         ·rintro w' ⟨s0, s1, s2, s3⟩
          go_simp
          with_reducible rfl
         rotate_left
         ·simp only [Act.put, List.setIfInBounds_toArray, List.set_cons_zero, List.set_cons_succ, i64_w, i32_w]
          rfl
         refine pure_ (i := 5) (N := some 29) (v := ?_) (a' := ?_) #[true, true, true, true, true, true, false, true, true, true, false] rfl rfl (any_of HT_.out (by kernel_rfl)) (fun _ _ _ h => h) (Or.inl ⟨by rfl, ?_⟩) ?_ ?_
         rotate_left
         ·intro w'
          go_simp
          with_reducible rfl
         rotate_left
         ·simp only [Act.put, List.setIfInBounds_toArray, List.set_cons_zero, List.set_cons_succ, i64_w, i32_w]
          rfl
         refine take_ (i := 6) (N := some 30) (v := ?_) (a' := ?_) #[true, true, true, true, true, true, true, true, true, true, false] rfl rfl (take_ofW HT_.out HW_.out (by kernel_rfl)) (fun _ _ _ h => h) (Or.inl ⟨by rfl, ?_⟩) hHeld ?_ ?_
         rotate_left
         ·rintro w' ⟨s0, s1, s2, s3⟩
          go_simp
          with_reducible rfl
         rotate_left
         ·simp only [Act.put, List.setIfInBounds_toArray, List.set_cons_zero, List.set_cons_succ, i64_w, i32_w]
          rfl
         refine one_ (i := 10) (N := some 34) #[true, true, true, true, true, true, true, true, true, true, true] rfl rfl (one_of HT_.out (by kernel_rfl)) (by decide) (fun K hK => ?_)
         refine goes_ Try.func46 (by kernel_rfl) rfl #[.agg #[.int .u64 ((rd_T44 l0_1 (ji34)).f0), .int .u64 ((rd_T44 l0_1 (ji34)).f1)], .int .i64 (Int.tmod x5_1 t225)] (by rfl) rfl rfl (by (try simp only [List.map_toArray, List.map_cons, List.map_nil]); first | done | (simp only [hji34]; rfl) | rfl | (simp only [List.length_drop, List.length_take]; rfl)) ?_
         with_reducible refine (steepleref02_Has.calls k1 ((rd_T44 l0_1 (ji34)).f0) ((rd_T44 l0_1 (ji34)).f1) (Int.tmod x5_1 t225) false _ A37.out).mono ?_
         rintro e w54 ⟨rfl, hb⟩
         refine ⟨_, rfl, ?_⟩
         replace HO_3 := kb HO_3 hb
         replace BK224 := bb BK224 hb
         replace HB := bh HB hb
         (try clear hb)
         (try clear hb2)
         (try clear hk)
         (try clear hi)
         refine hK.out _ _ ⟨(blk_cell BK224.out 0).trans rfl, (blk_cell BK224.out 1).trans rfl, ((HB.out.cell (World.block_lt_of_cell? w _ hw233_0)).trans hw233_0), ((HB.out.cell (World.block_lt_of_cell? w _ hw233_1)).trans hw233_1)⟩ (fun hHeld => ?_)
         clear hK K
         refine norm_ (a' := ?_) ?_ ?_
         rotate_left
         ·show Act.put _ (some 34) _ = _
          simp only [Act.put, List.setIfInBounds_toArray, List.set_cons_zero, List.set_cons_succ, i64_w, i32_w]
          rfl
         refine done_ (done_of HT_.out (by kernel_rfl)) ?_
         try go_wp2
         go_roundg k1
         case measure => have := HK1.out; omega
         case rel => exact ⟨(x3_1), (wrap64 (x5_1 + 1)), (by first | rfl | (simp; done) | (simp [*]; done)), H', ⟨by have := HK1.out; omega⟩, ⟨kr HO_3.out⟩, ⟨bk BK224.out⟩, ⟨bq HB.out⟩⟩
       ·rw [if_neg c36] at H
        exact absurd H (by simp)
      ·rw [if_neg c35] at H
       exact absurd H (by simp)
   ·rw [if_neg c6] at H
    have c6b0 : decide (x5_1 < (wrap64 ((l0_1.length : Int) * t225))) = false := decide_eq_false c6
    clear c6
    obtain rfl := Option.some.inj H
    obtain ⟨hcz55_0, hcz55_1⟩ := zc2 BK224
    obtain ⟨hfz55_0, hfz55_1⟩ := zf2 BK224
    go_wp2
    go_ret
    exact ⟨_, by first | rfl | (simp [errW_none, errW_some] <;> rfl) | (simp [*, errW_none, errW_some] <;> rfl), by (with_reducible repeat refine kl ?_); exact HO_3.out, bq HB.out⟩

end Go.Proofs.Ytceneggampgboaa.P
