/- Written by a program of this session: functions that the law reaches, as Lean functions, and that the code comes to their answers. Conditions: those that each theorem names. -/
import Derived.Test.YthgiifakcgjlaaaPx0
import Derived.Test.YthgiifakcgjlaaaPx12
namespace Go.Proofs.Ythgiifakcgjlaaa.P
open Go.RowKit Go.Proofs.YthgiifakcgjlaaaX Go.Proofs.YthgiifakcgjlaaaW.PrintWords Go.Proofs.YthgiifakcgjlaaaW.PrintLast Go.Proofs.YthgiifakcgjlaaaW.PrintMore
attribute [local go_sem] max2_int min2_int max_two min_two max_three min_three max_four min_four   -- for this text's walks alone
set_option linter.unusedVariables false
set_option linter.unusedSimpArgs false

/-! ### steepleref29_System: function 23 -/
def steepleref29_System.l0 : Nat → ByteArray → Int → Int → Int → Int → Int → Int → List (S106) → Option (ByteArray)
 | 0, _, _, _, _, _, _, _, _ => none
 | k + 1, x3, x4, x265000, x265001, x265002, x265003, x265004, x265005 => if x4 < (x265005.length : Int) then (if 0 ≤ x4 then ((steepleref01_Num.f ((rd_T106 x265005 x4).f0)).bind fun t273 => (if x3.size + t273.size ≤ 9223372036854775807 then ((steepleref01_Num.f ((rd_T106 x265005 x4).f1)).bind fun t274 => (if (x3 ++ t273).size + t274.size ≤ 9223372036854775807 then ((steepleref01_Num.f ((rd_T106 x265005 x4).f2)).bind fun t275 => (if ((x3 ++ t273) ++ t274).size + t275.size ≤ 9223372036854775807 then ((steepleref01_Num.f ((rd_T106 x265005 x4).f3)).bind fun t276 => (if (((x3 ++ t273) ++ t274) ++ t275).size + t276.size ≤ 9223372036854775807 then ((steepleref01_Num.f ((rd_T106 x265005 x4).f4)).bind fun t277 => (if ((((x3 ++ t273) ++ t274) ++ t275) ++ t276).size + t277.size ≤ 9223372036854775807 then (steepleref29_System.l0 k (((((x3 ++ t273) ++ t274) ++ t275) ++ t276) ++ t277) (wrap64 (x4 + 1)) x265000 x265001 x265002 x265003 x265004 x265005) else (none))) else (none))) else (none))) else (none))) else (none))) else (none)) else (some x3)
def steepleref29_System.f (k : Nat) (a0_0 : Int) (a0_1 : Int) (a0_2 : Int) (a0_3 : Int) (a0_4 : Int) (l0_5 : List (S106)) : Option (ByteArray) := (steepleref01_Num.f a0_0).bind fun t265 => ((steepleref01_Num.f a0_1).bind fun t266 => (if t265.size + t266.size ≤ 9223372036854775807 then ((steepleref01_Num.f a0_2).bind fun t267 => (if (t265 ++ t266).size + t267.size ≤ 9223372036854775807 then ((steepleref01_Num.f a0_3).bind fun t268 => (if ((t265 ++ t266) ++ t267).size + t268.size ≤ 9223372036854775807 then ((steepleref01_Num.f a0_4).bind fun t269 => (if (((t265 ++ t266) ++ t267) ++ t268).size + t269.size ≤ 9223372036854775807 then ((steepleref01_Num.f (l0_5.length : Int)).bind fun t270 => (if ((((t265 ++ t266) ++ t267) ++ t268) ++ t269).size + t270.size ≤ 9223372036854775807 then (steepleref29_System.l0 k (((((t265 ++ t266) ++ t267) ++ t268) ++ t269) ++ t270) 0 a0_0 a0_1 a0_2 a0_3 a0_4 l0_5) else (none))) else (none))) else (none))) else (none))) else (none)))
theorem steepleref29_System.mono_l : ∀ k, (∀ y0 y1 y2 y3 y4 y5 y6 y7, LeO (steepleref29_System.l0 k y0 y1 y2 y3 y4 y5 y6 y7) (steepleref29_System.l0 (k + 1) y0 y1 y2 y3 y4 y5 y6 y7))
 | 0 => fun _ _ _ _ _ _ _ _ r h => by simp [steepleref29_System.l0] at h
 | k + 1 => by
  have ih0 := steepleref29_System.mono_l k
  ·intro y0 y1 y2 y3 y4 y5 y6 y7
   unfold steepleref29_System.l0
   repeat' first
   | (with_reducible exact ih0 _ _ _ _ _ _ _ _)
   | (with_reducible exact LeO.refl _)
   | (with_reducible exact LeO.none _)
   | (with_reducible refine LeO.ite ?_ ?_)
   | (with_reducible refine LeO.bind ?_ (fun _ => ?_))
   | exact ih0 _ _ _ _ _ _ _ _
   | exact LeO.none _
   | refine LeO.ite ?_ ?_
   | refine LeO.bind ?_ (fun _ => ?_)
theorem steepleref29_System.mono : ∀ a0 a1 a2 a3 a4 a5 k, LeO (steepleref29_System.f k a0 a1 a2 a3 a4 a5) (steepleref29_System.f (k + 1) a0 a1 a2 a3 a4 a5) := by
 intro a0 a1 a2 a3 a4 a5 k
 have ih0 := steepleref29_System.mono_l k
 unfold steepleref29_System.f
 repeat' first
   | (with_reducible exact ih0 _ _ _ _ _ _ _ _)
   | (with_reducible exact LeO.refl _)
   | (with_reducible exact LeO.none _)
   | (with_reducible refine LeO.ite ?_ ?_)
   | (with_reducible refine LeO.bind ?_ (fun _ => ?_))
   | exact ih0 _ _ _ _ _ _ _ _
   | exact LeO.none _
   | refine LeO.ite ?_ ?_
   | refine LeO.bind ?_ (fun _ => ?_)
def steepleref29_System.T1 : Bool × List (List Nat × List Nat) := (true, [([], []), ([0], [0]), ([1], [1]), ([], []), ([3], [3]), ([4, 2], [4]), ([2, 5], [2, 5]), ([], []), ([7], [7]), ([8, 5], [8]), ([6, 9], [6, 9]), ([], []), ([11], [11]), ([12, 9], [12]), ([10, 13], [10, 13]), ([], []), ([15], [15]), ([16, 13], [16]), ([14, 17], [14, 17]), ([], []), ([19], [19]), ([20], [20]), ([21, 17], [21]), ([18, 22], [18, 22]), ([23, 22, 0, 1, 2, 3, 4, 5, 6, 7, 8, 9, 10, 11, 12, 13, 14, 15, 16, 17, 18, 19, 20, 21, 22, 23], [23])])
def steepleref29_System.B1 : List Nat := [0, 1, 3, 0, 8, 31, 63, 0, 128, 447, 1023, 0, 2048, 7103, 16383, 0, 32768, 113599, 262143, 0, 524288, 1572864, 3914687, 8388607, 16777215]
theorem steepleref29_System.tab1 : rtab .any (opsOf Try.f23 1) = steepleref29_System.T1 := by kernel_rfl
theorem steepleref29_System.bits1 : waitsOk steepleref29_System.T1.2 steepleref29_System.B1 = true := by kernel_rfl
def steepleref29_System.T6 : Bool × List (List Nat × List Nat) := (true, [([], []), ([], []), ([1], [1]), ([2], [2]), ([0, 3], [0, 3]), ([], []), ([5], [5]), ([6, 3], [6]), ([4, 7], [4, 7]), ([], []), ([9], [9]), ([10, 7], [10]), ([8, 11], [8, 11]), ([], []), ([13], [13]), ([14, 11], [14]), ([12, 15], [12, 15]), ([], []), ([17], [17]), ([18, 15], [18]), ([16, 19], [16, 19]), ([20, 19, 0, 1, 2, 3, 4, 5, 6, 7, 8, 9, 10, 11, 12, 13, 14, 15, 16, 17, 18, 19, 20], [0, 20])])
def steepleref29_System.B6 : List Nat := [0, 0, 2, 6, 15, 0, 32, 110, 255, 0, 512, 1774, 4095, 0, 8192, 28398, 65535, 0, 131072, 454382, 1048575, 2097151]
theorem steepleref29_System.tab6 : rtab .any (opsOf Try.f23 6) = steepleref29_System.T6 := by kernel_rfl
theorem steepleref29_System.bits6 : waitsOk steepleref29_System.T6.2 steepleref29_System.B6 = true := by kernel_rfl
set_option maxHeartbeats 8000000 in
set_option maxRecDepth 100000 in
theorem steepleref29_System.calls (k : Nat) (a0_0 : Int) (a0_1 : Int) (a0_2 : Int) (a0_3 : Int) (a0_4 : Int) (A0_5 : Option Addr) (c0_5 : Nat) (l0_5 : List (S106)) (r : ByteArray) (w : World) (hr0_5 : Kd.C k106 w A0_5 l0_5.length l0_5) (hc0_5 : l0_5.length ≤ c0_5) (h : steepleref29_System.f k a0_0 a0_1 a0_2 a0_3 a0_4 l0_5 = some r) :
  Calls Try.prog 23 #[.agg #[.int .i64 a0_0, .int .i64 a0_1, .int .i64 a0_2, .int .i64 a0_3, .int .i64 a0_4, .slice A0_5 l0_5.length c0_5]] w fun e w' => e = .returned (.string r) ∧ Below w.heap.size w w' := by
 have hu48 := Try.underlying48
 have hu106 := Try.underlying106
 have HR0_5 := Aside0.mk hr0_5
 have HC0_5 := Aside0.mk hc0_5
 clear hr0_5 hc0_5
 have HB := Aside0.mk (Below.refl w.heap.size w)
 have H : ((steepleref01_Num.f a0_0).bind fun t265 => ((steepleref01_Num.f a0_1).bind fun t266 => (if t265.size + t266.size ≤ 9223372036854775807 then ((steepleref01_Num.f a0_2).bind fun t267 => (if (t265 ++ t266).size + t267.size ≤ 9223372036854775807 then ((steepleref01_Num.f a0_3).bind fun t268 => (if ((t265 ++ t266) ++ t267).size + t268.size ≤ 9223372036854775807 then ((steepleref01_Num.f a0_4).bind fun t269 => (if (((t265 ++ t266) ++ t267) ++ t268).size + t269.size ≤ 9223372036854775807 then ((steepleref01_Num.f (l0_5.length : Int)).bind fun t270 => (if ((((t265 ++ t266) ++ t267) ++ t268) ++ t269).size + t270.size ≤ 9223372036854775807 then (steepleref29_System.l0 k (((((t265 ++ t266) ++ t267) ++ t268) ++ t269) ++ t270) 0 a0_0 a0_1 a0_2 a0_3 a0_4 l0_5) else (none))) else (none))) else (none))) else (none))) else (none)))) = some r := h
 clear h
 replace H := Option.bind_eq_some_iff.mp H
 obtain ⟨t265, A20, H⟩ := H
 replace H : ((steepleref01_Num.f a0_1).bind fun t266 => (if t265.size + t266.size ≤ 9223372036854775807 then ((steepleref01_Num.f a0_2).bind fun t267 => (if (t265 ++ t266).size + t267.size ≤ 9223372036854775807 then ((steepleref01_Num.f a0_3).bind fun t268 => (if ((t265 ++ t266) ++ t267).size + t268.size ≤ 9223372036854775807 then ((steepleref01_Num.f a0_4).bind fun t269 => (if (((t265 ++ t266) ++ t267) ++ t268).size + t269.size ≤ 9223372036854775807 then ((steepleref01_Num.f (l0_5.length : Int)).bind fun t270 => (if ((((t265 ++ t266) ++ t267) ++ t268) ++ t269).size + t270.size ≤ 9223372036854775807 then (steepleref29_System.l0 k (((((t265 ++ t266) ++ t267) ++ t268) ++ t269) ++ t270) 0 a0_0 a0_1 a0_2 a0_3 a0_4 l0_5) else (none))) else (none))) else (none))) else (none))) else (none))) = some r := H
 have A2 := Aside0.mk A20
 clear A20
 replace H := Option.bind_eq_some_iff.mp H
 obtain ⟨t266, A30, H⟩ := H
 replace H : (if t265.size + t266.size ≤ 9223372036854775807 then ((steepleref01_Num.f a0_2).bind fun t267 => (if (t265 ++ t266).size + t267.size ≤ 9223372036854775807 then ((steepleref01_Num.f a0_3).bind fun t268 => (if ((t265 ++ t266) ++ t267).size + t268.size ≤ 9223372036854775807 then ((steepleref01_Num.f a0_4).bind fun t269 => (if (((t265 ++ t266) ++ t267) ++ t268).size + t269.size ≤ 9223372036854775807 then ((steepleref01_Num.f (l0_5.length : Int)).bind fun t270 => (if ((((t265 ++ t266) ++ t267) ++ t268) ++ t269).size + t270.size ≤ 9223372036854775807 then (steepleref29_System.l0 k (((((t265 ++ t266) ++ t267) ++ t268) ++ t269) ++ t270) 0 a0_0 a0_1 a0_2 a0_3 a0_4 l0_5) else (none))) else (none))) else (none))) else (none))) else (none)) = some r := H
 have A3 := Aside0.mk A30
 clear A30
 by_cases c4 : t265.size + t266.size ≤ 9223372036854775807
 ·rw [if_pos c4] at H
  have c4b0 := eq_true c4
  have c4b1 : decide (t265.size + t266.size ≤ 9223372036854775807) = true := decide_eq_true c4
  try have c4b2 : (9223372036854775807 < t265.size + t266.size) = False := eq_false (Nat.not_lt.2 c4)
  replace H := Option.bind_eq_some_iff.mp H
  obtain ⟨t267, A50, H⟩ := H
  replace H : (if (t265 ++ t266).size + t267.size ≤ 9223372036854775807 then ((steepleref01_Num.f a0_3).bind fun t268 => (if ((t265 ++ t266) ++ t267).size + t268.size ≤ 9223372036854775807 then ((steepleref01_Num.f a0_4).bind fun t269 => (if (((t265 ++ t266) ++ t267) ++ t268).size + t269.size ≤ 9223372036854775807 then ((steepleref01_Num.f (l0_5.length : Int)).bind fun t270 => (if ((((t265 ++ t266) ++ t267) ++ t268) ++ t269).size + t270.size ≤ 9223372036854775807 then (steepleref29_System.l0 k (((((t265 ++ t266) ++ t267) ++ t268) ++ t269) ++ t270) 0 a0_0 a0_1 a0_2 a0_3 a0_4 l0_5) else (none))) else (none))) else (none))) else (none)) = some r := H
  have A5 := Aside0.mk A50
  clear A50
  by_cases c6 : (t265 ++ t266).size + t267.size ≤ 9223372036854775807
  ·rw [if_pos c6] at H
   have c6b0 := eq_true c6
   have c6b1 : decide ((t265 ++ t266).size + t267.size ≤ 9223372036854775807) = true := decide_eq_true c6
   try have c6b2 : (9223372036854775807 < (t265 ++ t266).size + t267.size) = False := eq_false (Nat.not_lt.2 c6)
   try have c6b3 : (9223372036854775807 < t265.size + t266.size + t267.size) = False := by have h_ := c6; simp only [ByteArray.size_append] at h_; exact eq_false (Nat.not_lt.2 h_)
   replace H := Option.bind_eq_some_iff.mp H
   obtain ⟨t268, A70, H⟩ := H
   replace H : (if ((t265 ++ t266) ++ t267).size + t268.size ≤ 9223372036854775807 then ((steepleref01_Num.f a0_4).bind fun t269 => (if (((t265 ++ t266) ++ t267) ++ t268).size + t269.size ≤ 9223372036854775807 then ((steepleref01_Num.f (l0_5.length : Int)).bind fun t270 => (if ((((t265 ++ t266) ++ t267) ++ t268) ++ t269).size + t270.size ≤ 9223372036854775807 then (steepleref29_System.l0 k (((((t265 ++ t266) ++ t267) ++ t268) ++ t269) ++ t270) 0 a0_0 a0_1 a0_2 a0_3 a0_4 l0_5) else (none))) else (none))) else (none)) = some r := H
   have A7 := Aside0.mk A70
   clear A70
   by_cases c8 : ((t265 ++ t266) ++ t267).size + t268.size ≤ 9223372036854775807
   ·rw [if_pos c8] at H
    have c8b0 := eq_true c8
    have c8b1 : decide (((t265 ++ t266) ++ t267).size + t268.size ≤ 9223372036854775807) = true := decide_eq_true c8
    try have c8b2 : (9223372036854775807 < ((t265 ++ t266) ++ t267).size + t268.size) = False := eq_false (Nat.not_lt.2 c8)
    try have c8b3 : (9223372036854775807 < t265.size + t266.size + t267.size + t268.size) = False := by have h_ := c8; simp only [ByteArray.size_append] at h_; exact eq_false (Nat.not_lt.2 h_)
    replace H := Option.bind_eq_some_iff.mp H
    obtain ⟨t269, A90, H⟩ := H
    replace H : (if (((t265 ++ t266) ++ t267) ++ t268).size + t269.size ≤ 9223372036854775807 then ((steepleref01_Num.f (l0_5.length : Int)).bind fun t270 => (if ((((t265 ++ t266) ++ t267) ++ t268) ++ t269).size + t270.size ≤ 9223372036854775807 then (steepleref29_System.l0 k (((((t265 ++ t266) ++ t267) ++ t268) ++ t269) ++ t270) 0 a0_0 a0_1 a0_2 a0_3 a0_4 l0_5) else (none))) else (none)) = some r := H
    have A9 := Aside0.mk A90
    clear A90
    by_cases c10 : (((t265 ++ t266) ++ t267) ++ t268).size + t269.size ≤ 9223372036854775807
    ·rw [if_pos c10] at H
     have c10b0 := eq_true c10
     have c10b1 : decide ((((t265 ++ t266) ++ t267) ++ t268).size + t269.size ≤ 9223372036854775807) = true := decide_eq_true c10
     try have c10b2 : (9223372036854775807 < (((t265 ++ t266) ++ t267) ++ t268).size + t269.size) = False := eq_false (Nat.not_lt.2 c10)
     try have c10b3 : (9223372036854775807 < t265.size + t266.size + t267.size + t268.size + t269.size) = False := by have h_ := c10; simp only [ByteArray.size_append] at h_; exact eq_false (Nat.not_lt.2 h_)
     replace H := Option.bind_eq_some_iff.mp H
     obtain ⟨t270, A110, H⟩ := H
     replace H : (if ((((t265 ++ t266) ++ t267) ++ t268) ++ t269).size + t270.size ≤ 9223372036854775807 then (steepleref29_System.l0 k (((((t265 ++ t266) ++ t267) ++ t268) ++ t269) ++ t270) 0 a0_0 a0_1 a0_2 a0_3 a0_4 l0_5) else (none)) = some r := H
     have A11 := Aside0.mk A110
     clear A110
     by_cases c12 : ((((t265 ++ t266) ++ t267) ++ t268) ++ t269).size + t270.size ≤ 9223372036854775807
     ·rw [if_pos c12] at H
      have c12b0 := eq_true c12
      have c12b1 : decide (((((t265 ++ t266) ++ t267) ++ t268) ++ t269).size + t270.size ≤ 9223372036854775807) = true := decide_eq_true c12
      try have c12b2 : (9223372036854775807 < ((((t265 ++ t266) ++ t267) ++ t268) ++ t269).size + t270.size) = False := eq_false (Nat.not_lt.2 c12)
      try have c12b3 : (9223372036854775807 < t265.size + t266.size + t267.size + t268.size + t269.size + t270.size) = False := by have h_ := c12; simp only [ByteArray.size_append] at h_; exact eq_false (Nat.not_lt.2 h_)
      have H' := Aside0.mk H
      clear H
      go_enter Try.func23, Try.ntmps23
      try go_wp2_with (first | ((with_reducible refine gate_dst (N := 1) rfl ?_); refine box_event ?hg (N := 1) ?hd (cs := #[.int .i64 a0_0, .int .i64 a0_1, .int .i64 a0_2, .int .i64 a0_3, .int .i64 a0_4, .slice A0_5 l0_5.length c0_5]) (t := 48) ?hr ?_; (case hd => rfl); (case hg => rfl); (case hr => first | (go_simp; done) | (go_simp; rfl)); intro gb264 hg w13 hbox hb; have BK264 := Aside0.mk hbox; have GW264 := ge hg HB; have GE264 := ge hg HB; replace HB := bh HB hb; clear hb hbox hg))
      replace BK264 := Aside0.mk (blk_drew BK264.out)
      replace HB := Aside0.mk (below_drew1 HB.out)
      refine start_ (n := 25) (S := fun w' => w'.cell? ⟨gb264, 0, none⟩ = some (.int .i64 a0_0) ∧ w'.cell? ⟨gb264, 1, none⟩ = some (.int .i64 a0_1) ∧ w'.cell? ⟨gb264, 2, none⟩ = some (.int .i64 a0_2) ∧ w'.cell? ⟨gb264, 3, none⟩ = some (.int .i64 a0_3) ∧ w'.cell? ⟨gb264, 4, none⟩ = some (.int .i64 a0_4) ∧ w'.cell? ⟨gb264, 5, none⟩ = some (.slice A0_5 l0_5.length c0_5)) (ds := []) #[false, false, false, false, false, false, false, false, false, false, false, false, false, false, false, false, false, false, false, false, false, false, false, false, false] (by kernel_rfl) rfl rfl ⟨(blk_cell BK264.out 0).trans rfl, (blk_cell BK264.out 1).trans rfl, (blk_cell BK264.out 2).trans rfl, (blk_cell BK264.out 3).trans rfl, (blk_cell BK264.out 4).trans rfl, (blk_cell BK264.out 5).trans rfl⟩ (fun hHeld => ?_); refine with_tabW steepleref29_System.tab1 steepleref29_System.bits1 (fun HT_ HW_ => ?_)
      generalize w13.drew = w14 at BK264 HB hHeld ⊢
      refine pure_ (i := 0) (N := some 6) (v := ?_) (a' := ?_) #[true, false, false, false, false, false, false, false, false, false, false, false, false, false, false, false, false, false, false, false, false, false, false, false, false] rfl rfl (any_of HT_.out (by kernel_rfl)) (fun _ _ _ h => h) (Or.inl ⟨by rfl, ?_⟩) ?_ ?_
      rotate_left
      ·intro w'
       go_simp
       with_reducible rfl
      rotate_left
      ·simp only [Act.put, List.setIfInBounds_toArray, List.set_cons_zero, List.set_cons_succ, i64_w, i32_w]
       rfl
      refine pure_ (i := 3) (N := some 9) (v := ?_) (a' := ?_) #[true, false, false, true, false, false, false, false, false, false, false, false, false, false, false, false, false, false, false, false, false, false, false, false, false] rfl rfl (any_of HT_.out (by kernel_rfl)) (fun _ _ _ h => h) (Or.inl ⟨by rfl, ?_⟩) ?_ ?_
      rotate_left
      ·intro w'
       go_simp
       with_reducible rfl
      rotate_left
      ·simp only [Act.put, List.setIfInBounds_toArray, List.set_cons_zero, List.set_cons_succ, i64_w, i32_w]
       rfl
      refine pure_ (i := 7) (N := some 13) (v := ?_) (a' := ?_) #[true, false, false, true, false, false, false, true, false, false, false, false, false, false, false, false, false, false, false, false, false, false, false, false, false] rfl rfl (any_of HT_.out (by kernel_rfl)) (fun _ _ _ h => h) (Or.inl ⟨by rfl, ?_⟩) ?_ ?_
      rotate_left
      ·intro w'
       go_simp
       with_reducible rfl
      rotate_left
      ·simp only [Act.put, List.setIfInBounds_toArray, List.set_cons_zero, List.set_cons_succ, i64_w, i32_w]
       rfl
      refine pure_ (i := 11) (N := some 17) (v := ?_) (a' := ?_) #[true, false, false, true, false, false, false, true, false, false, false, true, false, false, false, false, false, false, false, false, false, false, false, false, false] rfl rfl (any_of HT_.out (by kernel_rfl)) (fun _ _ _ h => h) (Or.inl ⟨by rfl, ?_⟩) ?_ ?_
      rotate_left
      ·intro w'
       go_simp
       with_reducible rfl
      rotate_left
      ·simp only [Act.put, List.setIfInBounds_toArray, List.set_cons_zero, List.set_cons_succ, i64_w, i32_w]
       rfl
      refine pure_ (i := 15) (N := some 21) (v := ?_) (a' := ?_) #[true, false, false, true, false, false, false, true, false, false, false, true, false, false, false, true, false, false, false, false, false, false, false, false, false] rfl rfl (any_of HT_.out (by kernel_rfl)) (fun _ _ _ h => h) (Or.inl ⟨by rfl, ?_⟩) ?_ ?_
      rotate_left
      ·intro w'
       go_simp
       with_reducible rfl
      rotate_left
      ·simp only [Act.put, List.setIfInBounds_toArray, List.set_cons_zero, List.set_cons_succ, i64_w, i32_w]
       rfl
      refine pure_ (i := 19) (N := some 25) (v := ?_) (a' := ?_) #[true, false, false, true, false, false, false, true, false, false, false, true, false, false, false, true, false, false, false, true, false, false, false, false, false] rfl rfl (any_of HT_.out (by kernel_rfl)) (fun _ _ _ h => h) (Or.inl ⟨by rfl, ?_⟩) ?_ ?_
      rotate_left
      ·intro w'
       go_simp
       with_reducible rfl
      rotate_left
      ·simp only [Act.put, List.setIfInBounds_toArray, List.set_cons_zero, List.set_cons_succ, i64_w, i32_w]
       rfl
      refine take_ (i := 1) (N := some 7) (v := ?_) (a' := ?_) #[true, true, false, true, false, false, false, true, false, false, false, true, false, false, false, true, false, false, false, true, false, false, false, false, false] rfl rfl (take_ofW HT_.out HW_.out (by kernel_rfl)) (fun _ _ _ h => h) (Or.inl ⟨by rfl, ?_⟩) hHeld ?_ ?_
      rotate_left
      ·rintro w' ⟨s0, s1, s2, s3, s4, s5⟩
       go_simp
       with_reducible rfl
      rotate_left
      ·simp only [Act.put, List.setIfInBounds_toArray, List.set_cons_zero, List.set_cons_succ, i64_w, i32_w]
       rfl
      refine take_ (i := 4) (N := some 10) (v := ?_) (a' := ?_) #[true, true, false, true, true, false, false, true, false, false, false, true, false, false, false, true, false, false, false, true, false, false, false, false, false] rfl rfl (take_ofW HT_.out HW_.out (by kernel_rfl)) (fun _ _ _ h => h) (Or.inl ⟨by rfl, ?_⟩) hHeld ?_ ?_
      rotate_left
      ·rintro w' ⟨s0, s1, s2, s3, s4, s5⟩
       go_simp
       with_reducible rfl
      rotate_left
      ·simp only [Act.put, List.setIfInBounds_toArray, List.set_cons_zero, List.set_cons_succ, i64_w, i32_w]
       rfl
      refine take_ (i := 8) (N := some 14) (v := ?_) (a' := ?_) #[true, true, false, true, true, false, false, true, true, false, false, true, false, false, false, true, false, false, false, true, false, false, false, false, false] rfl rfl (take_ofW HT_.out HW_.out (by kernel_rfl)) (fun _ _ _ h => h) (Or.inl ⟨by rfl, ?_⟩) hHeld ?_ ?_
      rotate_left
      ·rintro w' ⟨s0, s1, s2, s3, s4, s5⟩
       go_simp
       with_reducible rfl
      rotate_left
      ·simp only [Act.put, List.setIfInBounds_toArray, List.set_cons_zero, List.set_cons_succ, i64_w, i32_w]
       rfl
      refine take_ (i := 12) (N := some 18) (v := ?_) (a' := ?_) #[true, true, false, true, true, false, false, true, true, false, false, true, true, false, false, true, false, false, false, true, false, false, false, false, false] rfl rfl (take_ofW HT_.out HW_.out (by kernel_rfl)) (fun _ _ _ h => h) (Or.inl ⟨by rfl, ?_⟩) hHeld ?_ ?_
      rotate_left
      ·rintro w' ⟨s0, s1, s2, s3, s4, s5⟩
       go_simp
       with_reducible rfl
      rotate_left
      ·simp only [Act.put, List.setIfInBounds_toArray, List.set_cons_zero, List.set_cons_succ, i64_w, i32_w]
       rfl
      refine take_ (i := 16) (N := some 22) (v := ?_) (a' := ?_) #[true, true, false, true, true, false, false, true, true, false, false, true, true, false, false, true, true, false, false, true, false, false, false, false, false] rfl rfl (take_ofW HT_.out HW_.out (by kernel_rfl)) (fun _ _ _ h => h) (Or.inl ⟨by rfl, ?_⟩) hHeld ?_ ?_
      rotate_left
      ·rintro w' ⟨s0, s1, s2, s3, s4, s5⟩
       go_simp
       with_reducible rfl
      rotate_left
      ·simp only [Act.put, List.setIfInBounds_toArray, List.set_cons_zero, List.set_cons_succ, i64_w, i32_w]
       rfl
      refine take_ (i := 20) (N := some 26) (v := ?_) (a' := ?_) #[true, true, false, true, true, false, false, true, true, false, false, true, true, false, false, true, true, false, false, true, true, false, false, false, false] rfl rfl (take_ofW HT_.out HW_.out (by kernel_rfl)) (fun _ _ _ h => h) (Or.inl ⟨by rfl, ?_⟩) hHeld ?_ ?_
      rotate_left
      ·rintro w' ⟨s0, s1, s2, s3, s4, s5⟩
       go_simp
       with_reducible rfl
      rotate_left
      ·simp only [Act.put, List.setIfInBounds_toArray, List.set_cons_zero, List.set_cons_succ, i64_w, i32_w]
       rfl
      refine pure_ (i := 21) (N := some 27) (v := ?_) (a' := ?_) #[true, true, false, true, true, false, false, true, true, false, false, true, true, false, false, true, true, false, false, true, true, true, false, false, false] rfl rfl (any_of HT_.out (by kernel_rfl)) (fun _ _ _ h => h) (Or.inl ⟨by rfl, ?_⟩) ?_ ?_
      rotate_left
      ·intro w'
       go_simp
       with_reducible rfl
      rotate_left
      ·simp only [Act.put, List.setIfInBounds_toArray, List.set_cons_zero, List.set_cons_succ, i64_w, i32_w]
       rfl
      refine one_ (i := 2) (N := some 8) #[true, true, true, true, true, false, false, true, true, false, false, true, true, false, false, true, true, false, false, true, true, true, false, false, false] rfl rfl (one_of HT_.out (by kernel_rfl)) (by decide) (fun K hK => ?_)
      refine goes_ Try.func37 (by kernel_rfl) rfl #[.int .i64 a0_0] (by rfl) rfl rfl (by (try simp only [List.map_toArray, List.map_cons, List.map_nil]); first | done | rfl | (simp only [List.length_drop, List.length_take]; rfl)) ?_
      with_reducible refine (steepleref01_Num.calls a0_0 t265 _ A2.out).mono ?_
      rintro e w15 ⟨rfl, hb⟩
      refine ⟨_, rfl, ?_⟩
      replace BK264 := bb BK264 hb
      replace HB := bh HB hb
      (try clear hb)
      (try clear hb2)
      (try clear hk)
      (try clear hi)
      refine hK.out _ _ ⟨(blk_cell BK264.out 0).trans rfl, (blk_cell BK264.out 1).trans rfl, (blk_cell BK264.out 2).trans rfl, (blk_cell BK264.out 3).trans rfl, (blk_cell BK264.out 4).trans rfl, (blk_cell BK264.out 5).trans rfl⟩ (fun hHeld => ?_)
      clear hK K
      refine norm_ (a' := ?_) ?_ ?_
      rotate_left
      ·show Act.put _ (some 8) _ = _
       simp only [Act.put, List.setIfInBounds_toArray, List.set_cons_zero, List.set_cons_succ, i64_w, i32_w]
       rfl
      refine one_ (i := 5) (N := some 11) #[true, true, true, true, true, true, false, true, true, false, false, true, true, false, false, true, true, false, false, true, true, true, false, false, false] rfl rfl (one_of HT_.out (by kernel_rfl)) (by decide) (fun K hK => ?_)
      refine goes_ Try.func37 (by kernel_rfl) rfl #[.int .i64 a0_1] (by rfl) rfl rfl (by (try simp only [List.map_toArray, List.map_cons, List.map_nil]); first | done | rfl | (simp only [List.length_drop, List.length_take]; rfl)) ?_
      with_reducible refine (steepleref01_Num.calls a0_1 t266 _ A3.out).mono ?_
      rintro e w16 ⟨rfl, hb⟩
      refine ⟨_, rfl, ?_⟩
      replace BK264 := bb BK264 hb
      replace HB := bh HB hb
      (try clear hb)
      (try clear hb2)
      (try clear hk)
      (try clear hi)
      refine hK.out _ _ ⟨(blk_cell BK264.out 0).trans rfl, (blk_cell BK264.out 1).trans rfl, (blk_cell BK264.out 2).trans rfl, (blk_cell BK264.out 3).trans rfl, (blk_cell BK264.out 4).trans rfl, (blk_cell BK264.out 5).trans rfl⟩ (fun hHeld => ?_)
      clear hK K
      refine norm_ (a' := ?_) ?_ ?_
      rotate_left
      ·show Act.put _ (some 11) _ = _
       simp only [Act.put, List.setIfInBounds_toArray, List.set_cons_zero, List.set_cons_succ, i64_w, i32_w]
       rfl
      refine pure_ (i := 6) (N := some 12) (v := ?_) (a' := ?_) #[true, true, true, true, true, true, true, true, true, false, false, true, true, false, false, true, true, false, false, true, true, true, false, false, false] rfl rfl (any_of HT_.out (by kernel_rfl)) (fun _ _ _ h => h) (Or.inl ⟨by rfl, ?_⟩) ?_ ?_
      rotate_left
      ·intro w'
       go_simp
       with_reducible rfl
      rotate_left
      ·simp only [Act.put, List.setIfInBounds_toArray, List.set_cons_zero, List.set_cons_succ, i64_w, i32_w]
       rfl
      refine one_ (i := 9) (N := some 15) #[true, true, true, true, true, true, true, true, true, true, false, true, true, false, false, true, true, false, false, true, true, true, false, false, false] rfl rfl (one_of HT_.out (by kernel_rfl)) (by decide) (fun K hK => ?_)
      refine goes_ Try.func37 (by kernel_rfl) rfl #[.int .i64 a0_2] (by rfl) rfl rfl (by (try simp only [List.map_toArray, List.map_cons, List.map_nil]); first | done | rfl | (simp only [List.length_drop, List.length_take]; rfl)) ?_
      with_reducible refine (steepleref01_Num.calls a0_2 t267 _ A5.out).mono ?_
      rintro e w17 ⟨rfl, hb⟩
      refine ⟨_, rfl, ?_⟩
      replace BK264 := bb BK264 hb
      replace HB := bh HB hb
      (try clear hb)
      (try clear hb2)
      (try clear hk)
      (try clear hi)
      refine hK.out _ _ ⟨(blk_cell BK264.out 0).trans rfl, (blk_cell BK264.out 1).trans rfl, (blk_cell BK264.out 2).trans rfl, (blk_cell BK264.out 3).trans rfl, (blk_cell BK264.out 4).trans rfl, (blk_cell BK264.out 5).trans rfl⟩ (fun hHeld => ?_)
      clear hK K
      refine norm_ (a' := ?_) ?_ ?_
      rotate_left
      ·show Act.put _ (some 15) _ = _
       simp only [Act.put, List.setIfInBounds_toArray, List.set_cons_zero, List.set_cons_succ, i64_w, i32_w]
       rfl
      refine pure_ (i := 10) (N := some 16) (v := ?_) (a' := ?_) #[true, true, true, true, true, true, true, true, true, true, true, true, true, false, false, true, true, false, false, true, true, true, false, false, false] rfl rfl (any_of HT_.out (by kernel_rfl)) (fun _ _ _ h => h) (Or.inl ⟨by rfl, ?_⟩) ?_ ?_
      rotate_left
      ·intro w'
       go_simp
       with_reducible rfl
      rotate_left
      ·simp only [Act.put, List.setIfInBounds_toArray, List.set_cons_zero, List.set_cons_succ, i64_w, i32_w]
       rfl
      refine one_ (i := 13) (N := some 19) #[true, true, true, true, true, true, true, true, true, true, true, true, true, true, false, true, true, false, false, true, true, true, false, false, false] rfl rfl (one_of HT_.out (by kernel_rfl)) (by decide) (fun K hK => ?_)
      refine goes_ Try.func37 (by kernel_rfl) rfl #[.int .i64 a0_3] (by rfl) rfl rfl (by (try simp only [List.map_toArray, List.map_cons, List.map_nil]); first | done | rfl | (simp only [List.length_drop, List.length_take]; rfl)) ?_
      with_reducible refine (steepleref01_Num.calls a0_3 t268 _ A7.out).mono ?_
      rintro e w18 ⟨rfl, hb⟩
      refine ⟨_, rfl, ?_⟩
      replace BK264 := bb BK264 hb
      replace HB := bh HB hb
      (try clear hb)
      (try clear hb2)
      (try clear hk)
      (try clear hi)
      refine hK.out _ _ ⟨(blk_cell BK264.out 0).trans rfl, (blk_cell BK264.out 1).trans rfl, (blk_cell BK264.out 2).trans rfl, (blk_cell BK264.out 3).trans rfl, (blk_cell BK264.out 4).trans rfl, (blk_cell BK264.out 5).trans rfl⟩ (fun hHeld => ?_)
      clear hK K
      refine norm_ (a' := ?_) ?_ ?_
      rotate_left
      ·show Act.put _ (some 19) _ = _
       simp only [Act.put, List.setIfInBounds_toArray, List.set_cons_zero, List.set_cons_succ, i64_w, i32_w]
       rfl
      refine pure_ (i := 14) (N := some 20) (v := ?_) (a' := ?_) #[true, true, true, true, true, true, true, true, true, true, true, true, true, true, true, true, true, false, false, true, true, true, false, false, false] rfl rfl (any_of HT_.out (by kernel_rfl)) (fun _ _ _ h => h) (Or.inl ⟨by rfl, ?_⟩) ?_ ?_
      rotate_left
      ·intro w'
       go_simp
       with_reducible rfl
      rotate_left
      ·simp only [Act.put, List.setIfInBounds_toArray, List.set_cons_zero, List.set_cons_succ, i64_w, i32_w]
       rfl
      refine one_ (i := 17) (N := some 23) #[true, true, true, true, true, true, true, true, true, true, true, true, true, true, true, true, true, true, false, true, true, true, false, false, false] rfl rfl (one_of HT_.out (by kernel_rfl)) (by decide) (fun K hK => ?_)
      refine goes_ Try.func37 (by kernel_rfl) rfl #[.int .i64 a0_4] (by rfl) rfl rfl (by (try simp only [List.map_toArray, List.map_cons, List.map_nil]); first | done | rfl | (simp only [List.length_drop, List.length_take]; rfl)) ?_
      with_reducible refine (steepleref01_Num.calls a0_4 t269 _ A9.out).mono ?_
      rintro e w19 ⟨rfl, hb⟩
      refine ⟨_, rfl, ?_⟩
      replace BK264 := bb BK264 hb
      replace HB := bh HB hb
      (try clear hb)
      (try clear hb2)
      (try clear hk)
      (try clear hi)
      refine hK.out _ _ ⟨(blk_cell BK264.out 0).trans rfl, (blk_cell BK264.out 1).trans rfl, (blk_cell BK264.out 2).trans rfl, (blk_cell BK264.out 3).trans rfl, (blk_cell BK264.out 4).trans rfl, (blk_cell BK264.out 5).trans rfl⟩ (fun hHeld => ?_)
      clear hK K
      refine norm_ (a' := ?_) ?_ ?_
      rotate_left
      ·show Act.put _ (some 23) _ = _
       simp only [Act.put, List.setIfInBounds_toArray, List.set_cons_zero, List.set_cons_succ, i64_w, i32_w]
       rfl
      refine pure_ (i := 18) (N := some 24) (v := ?_) (a' := ?_) #[true, true, true, true, true, true, true, true, true, true, true, true, true, true, true, true, true, true, true, true, true, true, false, false, false] rfl rfl (any_of HT_.out (by kernel_rfl)) (fun _ _ _ h => h) (Or.inl ⟨by rfl, ?_⟩) ?_ ?_
      rotate_left
      ·intro w'
       go_simp
       with_reducible rfl
      rotate_left
      ·simp only [Act.put, List.setIfInBounds_toArray, List.set_cons_zero, List.set_cons_succ, i64_w, i32_w]
       rfl
      refine one_ (i := 22) (N := some 28) #[true, true, true, true, true, true, true, true, true, true, true, true, true, true, true, true, true, true, true, true, true, true, true, false, false] rfl rfl (one_of HT_.out (by kernel_rfl)) (by decide) (fun K hK => ?_)
      refine goes_ Try.func37 (by kernel_rfl) rfl #[.int .i64 (l0_5.length : Int)] (by rfl) rfl rfl (by (try simp only [List.map_toArray, List.map_cons, List.map_nil]); first | done | rfl | (simp only [List.length_drop, List.length_take]; rfl)) ?_
      with_reducible refine (steepleref01_Num.calls (l0_5.length : Int) t270 _ A11.out).mono ?_
      rintro e w20 ⟨rfl, hb⟩
      refine ⟨_, rfl, ?_⟩
      replace BK264 := bb BK264 hb
      replace HB := bh HB hb
      (try clear hb)
      (try clear hb2)
      (try clear hk)
      (try clear hi)
      refine hK.out _ _ ⟨(blk_cell BK264.out 0).trans rfl, (blk_cell BK264.out 1).trans rfl, (blk_cell BK264.out 2).trans rfl, (blk_cell BK264.out 3).trans rfl, (blk_cell BK264.out 4).trans rfl, (blk_cell BK264.out 5).trans rfl⟩ (fun hHeld => ?_)
      clear hK K
      refine norm_ (a' := ?_) ?_ ?_
      rotate_left
      ·show Act.put _ (some 28) _ = _
       simp only [Act.put, List.setIfInBounds_toArray, List.set_cons_zero, List.set_cons_succ, i64_w, i32_w]
       rfl
      refine pure_ (i := 23) (N := some 29) (v := ?_) (a' := ?_) #[true, true, true, true, true, true, true, true, true, true, true, true, true, true, true, true, true, true, true, true, true, true, true, true, false] rfl rfl (any_of HT_.out (by kernel_rfl)) (fun _ _ _ h => h) (Or.inl ⟨by rfl, ?_⟩) ?_ ?_
      rotate_left
      ·intro w'
       go_simp
       with_reducible rfl
      rotate_left
      ·simp only [Act.put, List.setIfInBounds_toArray, List.set_cons_zero, List.set_cons_succ, i64_w, i32_w]
       rfl
      refine pure_ (i := 24) (N := some 3) (v := ?_) (a' := ?_) #[true, true, true, true, true, true, true, true, true, true, true, true, true, true, true, true, true, true, true, true, true, true, true, true, true] rfl rfl (any_of HT_.out (by kernel_rfl)) (fun _ _ _ h => h) (Or.inl ⟨by rfl, ?_⟩) ?_ ?_
      rotate_left
      ·intro w'
       go_simp
       with_reducible rfl
      rotate_left
      ·simp only [Act.put, List.setIfInBounds_toArray, List.set_cons_zero, List.set_cons_succ, i64_w, i32_w]
       rfl
      refine done_ (done_of HT_.out (by kernel_rfl)) ?_
      try go_wp2
      go_loopg [3, 4] k (fun kq v3 v4 w' => ∃ (x3_1 : ByteArray) (x4_1 : Int), v3 = .string x3_1 ∧ v4 = .int .i64 x4_1 ∧ Aside0 (steepleref29_System.l0 kq x3_1 x4_1 a0_0 a0_1 a0_2 a0_3 a0_4 l0_5 = some r) ∧ Aside0 (kq ≤ k) ∧ Aside0 (w'.heap[gb264]? = some (.cells #[.int .i64 a0_0, .int .i64 a0_1, .int .i64 a0_2, .int .i64 a0_3, .int .i64 a0_4, (.slice A0_5 l0_5.length c0_5)] 48 (0, 0))) ∧ Aside0 (Below w.heap.size w w'))
      case atStart => exact ⟨(((((t265 ++ t266) ++ t267) ++ t268) ++ t269) ++ t270), (0), (by first | rfl | (simp; done) | (simp [*]; done)), (by first | rfl | (simp; done) | (simp [*]; done)), H', ⟨Nat.le_refl _⟩, ⟨bk BK264.out⟩, ⟨bq HB.out⟩⟩
      case round =>
       clear H'
       try clear c1
       try clear c2
       try clear p2
       try clear c3
       try clear c4
       try clear c4b0
       try clear c4b1
       try clear c4b2
       try clear c6
       try clear c6b0
       try clear c6b1
       try clear c6b2
       try clear c8
       try clear c8b0
       try clear c8b1
       try clear c8b2
       try clear c10
       try clear c10b0
       try clear c10b1
       try clear c10b2
       try clear c12
       try clear c12b0
       try clear c12b1
       try clear c12b2
       obtain ⟨x3_1, x4_1, rfl, rfl, HA, HK1, BK264, HB⟩ := hrel
       cases gk with
       | zero => exact absurd HA.out (by simp [steepleref29_System.l0])
       | succ k1 =>
        have H := HA.out
        clear HA
        simp only [steepleref29_System.l0] at H
        by_cases c21 : x4_1 < (l0_5.length : Int)
        ·rw [if_pos c21] at H
         have c21b0 : decide (x4_1 < (l0_5.length : Int)) = true := decide_eq_true c21
         clear c21
         by_cases c22 : 0 ≤ x4_1
         ·rw [if_pos c22] at H
          have c22b0 : decide (0 ≤ x4_1) = true := decide_eq_true c22
          clear c22
          replace H := Option.bind_eq_some_iff.mp H
          obtain ⟨t273, A230, H⟩ := H
          replace H : (if x3_1.size + t273.size ≤ 9223372036854775807 then ((steepleref01_Num.f ((rd_T106 l0_5 x4_1).f1)).bind fun t274 => (if (x3_1 ++ t273).size + t274.size ≤ 9223372036854775807 then ((steepleref01_Num.f ((rd_T106 l0_5 x4_1).f2)).bind fun t275 => (if ((x3_1 ++ t273) ++ t274).size + t275.size ≤ 9223372036854775807 then ((steepleref01_Num.f ((rd_T106 l0_5 x4_1).f3)).bind fun t276 => (if (((x3_1 ++ t273) ++ t274) ++ t275).size + t276.size ≤ 9223372036854775807 then ((steepleref01_Num.f ((rd_T106 l0_5 x4_1).f4)).bind fun t277 => (if ((((x3_1 ++ t273) ++ t274) ++ t275) ++ t276).size + t277.size ≤ 9223372036854775807 then (steepleref29_System.l0 k1 (((((x3_1 ++ t273) ++ t274) ++ t275) ++ t276) ++ t277) (wrap64 (x4_1 + 1)) a0_0 a0_1 a0_2 a0_3 a0_4 l0_5) else (none))) else (none))) else (none))) else (none))) else (none)) = some r := H
          have A23 := Aside0.mk A230
          clear A230
          by_cases c24 : x3_1.size + t273.size ≤ 9223372036854775807
          ·rw [if_pos c24] at H
           have c24b0 := eq_true c24
           have c24b1 : decide (x3_1.size + t273.size ≤ 9223372036854775807) = true := decide_eq_true c24
           try have c24b2 : (9223372036854775807 < x3_1.size + t273.size) = False := eq_false (Nat.not_lt.2 c24)
           replace H := Option.bind_eq_some_iff.mp H
           obtain ⟨t274, A250, H⟩ := H
           replace H : (if (x3_1 ++ t273).size + t274.size ≤ 9223372036854775807 then ((steepleref01_Num.f ((rd_T106 l0_5 x4_1).f2)).bind fun t275 => (if ((x3_1 ++ t273) ++ t274).size + t275.size ≤ 9223372036854775807 then ((steepleref01_Num.f ((rd_T106 l0_5 x4_1).f3)).bind fun t276 => (if (((x3_1 ++ t273) ++ t274) ++ t275).size + t276.size ≤ 9223372036854775807 then ((steepleref01_Num.f ((rd_T106 l0_5 x4_1).f4)).bind fun t277 => (if ((((x3_1 ++ t273) ++ t274) ++ t275) ++ t276).size + t277.size ≤ 9223372036854775807 then (steepleref29_System.l0 k1 (((((x3_1 ++ t273) ++ t274) ++ t275) ++ t276) ++ t277) (wrap64 (x4_1 + 1)) a0_0 a0_1 a0_2 a0_3 a0_4 l0_5) else (none))) else (none))) else (none))) else (none)) = some r := H
           have A25 := Aside0.mk A250
           clear A250
           by_cases c26 : (x3_1 ++ t273).size + t274.size ≤ 9223372036854775807
           ·rw [if_pos c26] at H
            have c26b0 := eq_true c26
            have c26b1 : decide ((x3_1 ++ t273).size + t274.size ≤ 9223372036854775807) = true := decide_eq_true c26
            try have c26b2 : (9223372036854775807 < (x3_1 ++ t273).size + t274.size) = False := eq_false (Nat.not_lt.2 c26)
            try have c26b3 : (9223372036854775807 < x3_1.size + t273.size + t274.size) = False := by have h_ := c26; simp only [ByteArray.size_append] at h_; exact eq_false (Nat.not_lt.2 h_)
            replace H := Option.bind_eq_some_iff.mp H
            obtain ⟨t275, A270, H⟩ := H
            replace H : (if ((x3_1 ++ t273) ++ t274).size + t275.size ≤ 9223372036854775807 then ((steepleref01_Num.f ((rd_T106 l0_5 x4_1).f3)).bind fun t276 => (if (((x3_1 ++ t273) ++ t274) ++ t275).size + t276.size ≤ 9223372036854775807 then ((steepleref01_Num.f ((rd_T106 l0_5 x4_1).f4)).bind fun t277 => (if ((((x3_1 ++ t273) ++ t274) ++ t275) ++ t276).size + t277.size ≤ 9223372036854775807 then (steepleref29_System.l0 k1 (((((x3_1 ++ t273) ++ t274) ++ t275) ++ t276) ++ t277) (wrap64 (x4_1 + 1)) a0_0 a0_1 a0_2 a0_3 a0_4 l0_5) else (none))) else (none))) else (none)) = some r := H
            have A27 := Aside0.mk A270
            clear A270
            by_cases c28 : ((x3_1 ++ t273) ++ t274).size + t275.size ≤ 9223372036854775807
            ·rw [if_pos c28] at H
             have c28b0 := eq_true c28
             have c28b1 : decide (((x3_1 ++ t273) ++ t274).size + t275.size ≤ 9223372036854775807) = true := decide_eq_true c28
             try have c28b2 : (9223372036854775807 < ((x3_1 ++ t273) ++ t274).size + t275.size) = False := eq_false (Nat.not_lt.2 c28)
             try have c28b3 : (9223372036854775807 < x3_1.size + t273.size + t274.size + t275.size) = False := by have h_ := c28; simp only [ByteArray.size_append] at h_; exact eq_false (Nat.not_lt.2 h_)
             replace H := Option.bind_eq_some_iff.mp H
             obtain ⟨t276, A290, H⟩ := H
             replace H : (if (((x3_1 ++ t273) ++ t274) ++ t275).size + t276.size ≤ 9223372036854775807 then ((steepleref01_Num.f ((rd_T106 l0_5 x4_1).f4)).bind fun t277 => (if ((((x3_1 ++ t273) ++ t274) ++ t275) ++ t276).size + t277.size ≤ 9223372036854775807 then (steepleref29_System.l0 k1 (((((x3_1 ++ t273) ++ t274) ++ t275) ++ t276) ++ t277) (wrap64 (x4_1 + 1)) a0_0 a0_1 a0_2 a0_3 a0_4 l0_5) else (none))) else (none)) = some r := H
             have A29 := Aside0.mk A290
             clear A290
             by_cases c30 : (((x3_1 ++ t273) ++ t274) ++ t275).size + t276.size ≤ 9223372036854775807
             ·rw [if_pos c30] at H
              have c30b0 := eq_true c30
              have c30b1 : decide ((((x3_1 ++ t273) ++ t274) ++ t275).size + t276.size ≤ 9223372036854775807) = true := decide_eq_true c30
              try have c30b2 : (9223372036854775807 < (((x3_1 ++ t273) ++ t274) ++ t275).size + t276.size) = False := eq_false (Nat.not_lt.2 c30)
              try have c30b3 : (9223372036854775807 < x3_1.size + t273.size + t274.size + t275.size + t276.size) = False := by have h_ := c30; simp only [ByteArray.size_append] at h_; exact eq_false (Nat.not_lt.2 h_)
              replace H := Option.bind_eq_some_iff.mp H
              obtain ⟨t277, A310, H⟩ := H
              replace H : (if ((((x3_1 ++ t273) ++ t274) ++ t275) ++ t276).size + t277.size ≤ 9223372036854775807 then (steepleref29_System.l0 k1 (((((x3_1 ++ t273) ++ t274) ++ t275) ++ t276) ++ t277) (wrap64 (x4_1 + 1)) a0_0 a0_1 a0_2 a0_3 a0_4 l0_5) else (none)) = some r := H
              have A31 := Aside0.mk A310
              clear A310
              by_cases c32 : ((((x3_1 ++ t273) ++ t274) ++ t275) ++ t276).size + t277.size ≤ 9223372036854775807
              ·rw [if_pos c32] at H
               have c32b0 := eq_true c32
               have c32b1 : decide (((((x3_1 ++ t273) ++ t274) ++ t275) ++ t276).size + t277.size ≤ 9223372036854775807) = true := decide_eq_true c32
               try have c32b2 : (9223372036854775807 < ((((x3_1 ++ t273) ++ t274) ++ t275) ++ t276).size + t277.size) = False := eq_false (Nat.not_lt.2 c32)
               try have c32b3 : (9223372036854775807 < x3_1.size + t273.size + t274.size + t275.size + t276.size + t277.size) = False := by have h_ := c32; simp only [ByteArray.size_append] at h_; exact eq_false (Nat.not_lt.2 h_)
               have H' := Aside0.mk H
               clear H
               have hcz33_0 : wr.cell? ⟨gb264, 0, none⟩ = some (.int .i64 a0_0) := (blk_cell BK264.out 0).trans rfl
               have hcz33_1 : wr.cell? ⟨gb264, 1, none⟩ = some (.int .i64 a0_1) := (blk_cell BK264.out 1).trans rfl
               have hcz33_2 : wr.cell? ⟨gb264, 2, none⟩ = some (.int .i64 a0_2) := (blk_cell BK264.out 2).trans rfl
               have hcz33_3 : wr.cell? ⟨gb264, 3, none⟩ = some (.int .i64 a0_3) := (blk_cell BK264.out 3).trans rfl
               have hcz33_4 : wr.cell? ⟨gb264, 4, none⟩ = some (.int .i64 a0_4) := (blk_cell BK264.out 4).trans rfl
               have hcz33_5 : wr.cell? ⟨gb264, 5, none⟩ = some (.slice A0_5 l0_5.length c0_5) := (blk_cell BK264.out 5).trans rfl
               have hfz33_0 := blk_frozen BK264.out 0
               have hfz33_1 := blk_frozen BK264.out 1
               have hfz33_2 := blk_frozen BK264.out 2
               have hfz33_3 := blk_frozen BK264.out 3
               have hfz33_4 := blk_frozen BK264.out 4
               have hfz33_5 := blk_frozen BK264.out 5
               have p271 : 0 ≤ (x4_1 : Int) := of_decide_eq_true (by first | (with_reducible assumption) | assumption)
               have q271 : x4_1 < (l0_5.length : Int) := of_decide_eq_true (by first | (with_reducible assumption) | assumption)
               obtain ⟨ad271, e271, hx271_0, hx271_1, hx271_2, hx271_3, hx271_4⟩ := at_T106 HR0_5.out x4_1 p271 q271
               cases e271
               replace hx271_0 := (HB.out.cell (World.block_lt_of_cell? w _ hx271_0)).trans hx271_0
               replace hx271_1 := (HB.out.cell (World.block_lt_of_cell? w _ hx271_1)).trans hx271_1
               replace hx271_2 := (HB.out.cell (World.block_lt_of_cell? w _ hx271_2)).trans hx271_2
               replace hx271_3 := (HB.out.cell (World.block_lt_of_cell? w _ hx271_3)).trans hx271_3
               replace hx271_4 := (HB.out.cell (World.block_lt_of_cell? w _ hx271_4)).trans hx271_4
               replace p271 := eq_true p271
               replace q271 := eq_true q271
               try go_wp2_with (first | ((with_reducible refine gate_dst (N := 5) rfl ?_); refine box_event ?hg (N := 5) ?hd (cs := #[.int .i64 0, .int .i64 0, .int .i64 0, .int .i64 0, .int .i64 0]) (t := 106) ?hr ?_; (case hd => rfl); (case hg => rfl); (case hr => first | (go_simp; done) | (go_simp; rfl)); intro gb272 hg w34 hbox hb; have BK272 := Aside0.mk hbox; have GW272 := ge hg HB; have GE272 := ge hg HB; have NB264_272 := nl hg BK264; have NB272_264 := ng hg BK264; replace BK264 := bb BK264 hb; replace HB := bh HB hb; clear hb hbox hg; have hnb35 := NB272_264.out; have hnc35 := NB264_272.out; have hcz36_0 : w34.cell? ⟨gb272, 0, none⟩ = some (.int .i64 0) := (blk_cell BK272.out 0).trans rfl; have hcz36_1 : w34.cell? ⟨gb272, 1, none⟩ = some (.int .i64 0) := (blk_cell BK272.out 1).trans rfl; have hcz36_2 : w34.cell? ⟨gb272, 2, none⟩ = some (.int .i64 0) := (blk_cell BK272.out 2).trans rfl; have hcz36_3 : w34.cell? ⟨gb272, 3, none⟩ = some (.int .i64 0) := (blk_cell BK272.out 3).trans rfl; have hcz36_4 : w34.cell? ⟨gb272, 4, none⟩ = some (.int .i64 0) := (blk_cell BK272.out 4).trans rfl; have hfz36_0 := blk_frozen BK272.out 0; have hfz36_1 := blk_frozen BK272.out 1; have hfz36_2 := blk_frozen BK272.out 2; have hfz36_3 := blk_frozen BK272.out 3; have hfz36_4 := blk_frozen BK272.out 4))
               have n0_ : Aside0 ((((((w34.setCell ⟨gb272, 0, none⟩ (.int .i64 ((rd_T106 l0_5 x4_1).f0))).setCell ⟨gb272, 1, none⟩ (.int .i64 ((rd_T106 l0_5 x4_1).f1))).setCell ⟨gb272, 2, none⟩ (.int .i64 ((rd_T106 l0_5 x4_1).f2))).setCell ⟨gb272, 3, none⟩ (.int .i64 ((rd_T106 l0_5 x4_1).f3))).setCell ⟨gb272, 4, none⟩ (.int .i64 ((rd_T106 l0_5 x4_1).f4))).heap[gb264]? = some (.cells #[.int .i64 a0_0, .int .i64 a0_1, .int .i64 a0_2, .int .i64 a0_3, .int .i64 a0_4, .slice (some ad271) l0_5.length c0_5] 48 (0, 0))) := ⟨by (with_reducible repeat refine bl ?_); refine blk_far ?_ NB264_272.out _; (with_reducible repeat refine bl ?_); refine blk_far ?_ NB264_272.out _; (with_reducible repeat refine bl ?_); refine blk_far ?_ NB264_272.out _; (with_reducible repeat refine bl ?_); refine blk_far ?_ NB264_272.out _; (with_reducible repeat refine bl ?_); refine blk_far ?_ NB264_272.out _; (with_reducible repeat refine bl ?_); exact BK264.out⟩
               have n1_ : Aside0 ((((((w34.setCell ⟨gb272, 0, none⟩ (.int .i64 ((rd_T106 l0_5 x4_1).f0))).setCell ⟨gb272, 1, none⟩ (.int .i64 ((rd_T106 l0_5 x4_1).f1))).setCell ⟨gb272, 2, none⟩ (.int .i64 ((rd_T106 l0_5 x4_1).f2))).setCell ⟨gb272, 3, none⟩ (.int .i64 ((rd_T106 l0_5 x4_1).f3))).setCell ⟨gb272, 4, none⟩ (.int .i64 ((rd_T106 l0_5 x4_1).f4))).heap[gb272]? = some (.cells #[.int .i64 ((rd_T106 l0_5 x4_1).f0), .int .i64 ((rd_T106 l0_5 x4_1).f1), .int .i64 ((rd_T106 l0_5 x4_1).f2), .int .i64 ((rd_T106 l0_5 x4_1).f3), .int .i64 ((rd_T106 l0_5 x4_1).f4)] 106 (0, 0))) := ⟨by (with_reducible repeat refine bl ?_); refine blk_put (cs := #[.int .i64 ((rd_T106 l0_5 x4_1).f0), .int .i64 ((rd_T106 l0_5 x4_1).f1), .int .i64 ((rd_T106 l0_5 x4_1).f2), .int .i64 ((rd_T106 l0_5 x4_1).f3), .int .i64 0]) ?_ 4 _ rfl; (with_reducible repeat refine bl ?_); refine blk_put (cs := #[.int .i64 ((rd_T106 l0_5 x4_1).f0), .int .i64 ((rd_T106 l0_5 x4_1).f1), .int .i64 ((rd_T106 l0_5 x4_1).f2), .int .i64 0, .int .i64 0]) ?_ 3 _ rfl; (with_reducible repeat refine bl ?_); refine blk_put (cs := #[.int .i64 ((rd_T106 l0_5 x4_1).f0), .int .i64 ((rd_T106 l0_5 x4_1).f1), .int .i64 0, .int .i64 0, .int .i64 0]) ?_ 2 _ rfl; (with_reducible repeat refine bl ?_); refine blk_put (cs := #[.int .i64 ((rd_T106 l0_5 x4_1).f0), .int .i64 0, .int .i64 0, .int .i64 0, .int .i64 0]) ?_ 1 _ rfl; (with_reducible repeat refine bl ?_); refine blk_put (cs := #[.int .i64 0, .int .i64 0, .int .i64 0, .int .i64 0, .int .i64 0]) ?_ 0 _ rfl; (with_reducible repeat refine bl ?_); exact BK272.out⟩
               have n2_ : Aside0 (Below w.heap.size w (((((w34.setCell ⟨gb272, 0, none⟩ (.int .i64 ((rd_T106 l0_5 x4_1).f0))).setCell ⟨gb272, 1, none⟩ (.int .i64 ((rd_T106 l0_5 x4_1).f1))).setCell ⟨gb272, 2, none⟩ (.int .i64 ((rd_T106 l0_5 x4_1).f2))).setCell ⟨gb272, 3, none⟩ (.int .i64 ((rd_T106 l0_5 x4_1).f3))).setCell ⟨gb272, 4, none⟩ (.int .i64 ((rd_T106 l0_5 x4_1).f4)))) := ⟨bq HB.out⟩
               (try clear BK264)
               (try clear BK272)
               (try clear HB)
               generalize (((((w34.setCell ⟨gb272, 0, none⟩ (.int .i64 ((rd_T106 l0_5 x4_1).f0))).setCell ⟨gb272, 1, none⟩ (.int .i64 ((rd_T106 l0_5 x4_1).f1))).setCell ⟨gb272, 2, none⟩ (.int .i64 ((rd_T106 l0_5 x4_1).f2))).setCell ⟨gb272, 3, none⟩ (.int .i64 ((rd_T106 l0_5 x4_1).f3))).setCell ⟨gb272, 4, none⟩ (.int .i64 ((rd_T106 l0_5 x4_1).f4))) = w37 at n0_ n1_ n2_ ⊢
               have BK264 := n0_
               have BK272 := n1_
               have HB := n2_
               clear n0_ n1_ n2_
               replace BK264 := Aside0.mk (blk_drew BK264.out)
               replace BK272 := Aside0.mk (blk_drew BK272.out)
               replace HB := Aside0.mk (below_drew1 HB.out)
               refine start_ (n := 22) (S := fun w' => w'.cell? ⟨gb272, 0, none⟩ = some (.int .i64 ((rd_T106 l0_5 x4_1).f0)) ∧ w'.cell? ⟨gb272, 1, none⟩ = some (.int .i64 ((rd_T106 l0_5 x4_1).f1)) ∧ w'.cell? ⟨gb272, 2, none⟩ = some (.int .i64 ((rd_T106 l0_5 x4_1).f2)) ∧ w'.cell? ⟨gb272, 3, none⟩ = some (.int .i64 ((rd_T106 l0_5 x4_1).f3)) ∧ w'.cell? ⟨gb272, 4, none⟩ = some (.int .i64 ((rd_T106 l0_5 x4_1).f4))) (ds := []) #[false, false, false, false, false, false, false, false, false, false, false, false, false, false, false, false, false, false, false, false, false, false] (by kernel_rfl) rfl rfl ⟨(blk_cell BK272.out 0).trans rfl, (blk_cell BK272.out 1).trans rfl, (blk_cell BK272.out 2).trans rfl, (blk_cell BK272.out 3).trans rfl, (blk_cell BK272.out 4).trans rfl⟩ (fun hHeld => ?_); refine with_tabW steepleref29_System.tab6 steepleref29_System.bits6 (fun HT_ HW_ => ?_)
               generalize w37.drew = w38 at BK264 BK272 HB hHeld ⊢
               refine pure_ (i := 0) (N := some 42) (v := ?_) (a' := ?_) #[true, false, false, false, false, false, false, false, false, false, false, false, false, false, false, false, false, false, false, false, false, false] rfl rfl (any_of HT_.out (by kernel_rfl)) (fun _ _ _ h => h) (Or.inl ⟨by rfl, ?_⟩) ?_ ?_
               rotate_left
               ·intro w'
                go_simp
                with_reducible rfl
               rotate_left
               ·simp only [Act.put, List.setIfInBounds_toArray, List.set_cons_zero, List.set_cons_succ, i64_w, i32_w]
                rfl
               refine pure_ (i := 1) (N := some 43) (v := ?_) (a' := ?_) #[true, true, false, false, false, false, false, false, false, false, false, false, false, false, false, false, false, false, false, false, false, false] rfl rfl (any_of HT_.out (by kernel_rfl)) (fun _ _ _ h => h) (Or.inl ⟨by rfl, ?_⟩) ?_ ?_
               rotate_left
               ·intro w'
                go_simp
                with_reducible rfl
               rotate_left
               ·simp only [Act.put, List.setIfInBounds_toArray, List.set_cons_zero, List.set_cons_succ, i64_w, i32_w]
                rfl
               refine pure_ (i := 5) (N := some 47) (v := ?_) (a' := ?_) #[true, true, false, false, false, true, false, false, false, false, false, false, false, false, false, false, false, false, false, false, false, false] rfl rfl (any_of HT_.out (by kernel_rfl)) (fun _ _ _ h => h) (Or.inl ⟨by rfl, ?_⟩) ?_ ?_
               rotate_left
               ·intro w'
                go_simp
                with_reducible rfl
               rotate_left
               ·simp only [Act.put, List.setIfInBounds_toArray, List.set_cons_zero, List.set_cons_succ, i64_w, i32_w]
                rfl
               refine pure_ (i := 9) (N := some 51) (v := ?_) (a' := ?_) #[true, true, false, false, false, true, false, false, false, true, false, false, false, false, false, false, false, false, false, false, false, false] rfl rfl (any_of HT_.out (by kernel_rfl)) (fun _ _ _ h => h) (Or.inl ⟨by rfl, ?_⟩) ?_ ?_
               rotate_left
               ·intro w'
                go_simp
                with_reducible rfl
               rotate_left
               ·simp only [Act.put, List.setIfInBounds_toArray, List.set_cons_zero, List.set_cons_succ, i64_w, i32_w]
                rfl
               refine pure_ (i := 13) (N := some 55) (v := ?_) (a' := ?_) #[true, true, false, false, false, true, false, false, false, true, false, false, false, true, false, false, false, false, false, false, false, false] rfl rfl (any_of HT_.out (by kernel_rfl)) (fun _ _ _ h => h) (Or.inl ⟨by rfl, ?_⟩) ?_ ?_
               rotate_left
               ·intro w'
                go_simp
                with_reducible rfl
               rotate_left
               ·simp only [Act.put, List.setIfInBounds_toArray, List.set_cons_zero, List.set_cons_succ, i64_w, i32_w]
                rfl
               refine pure_ (i := 17) (N := some 59) (v := ?_) (a' := ?_) #[true, true, false, false, false, true, false, false, false, true, false, false, false, true, false, false, false, true, false, false, false, false] rfl rfl (any_of HT_.out (by kernel_rfl)) (fun _ _ _ h => h) (Or.inl ⟨by rfl, ?_⟩) ?_ ?_
               rotate_left
               ·intro w'
                go_simp
                with_reducible rfl
               rotate_left
               ·simp only [Act.put, List.setIfInBounds_toArray, List.set_cons_zero, List.set_cons_succ, i64_w, i32_w]
                rfl
               refine take_ (i := 2) (N := some 44) (v := ?_) (a' := ?_) #[true, true, true, false, false, true, false, false, false, true, false, false, false, true, false, false, false, true, false, false, false, false] rfl rfl (take_ofW HT_.out HW_.out (by kernel_rfl)) (fun _ _ _ h => h) (Or.inl ⟨by rfl, ?_⟩) hHeld ?_ ?_
               rotate_left
               ·rintro w' ⟨s0, s1, s2, s3, s4⟩
                go_simp
                with_reducible rfl
               rotate_left
               ·simp only [Act.put, List.setIfInBounds_toArray, List.set_cons_zero, List.set_cons_succ, i64_w, i32_w]
                rfl
               refine take_ (i := 6) (N := some 48) (v := ?_) (a' := ?_) #[true, true, true, false, false, true, true, false, false, true, false, false, false, true, false, false, false, true, false, false, false, false] rfl rfl (take_ofW HT_.out HW_.out (by kernel_rfl)) (fun _ _ _ h => h) (Or.inl ⟨by rfl, ?_⟩) hHeld ?_ ?_
               rotate_left
               ·rintro w' ⟨s0, s1, s2, s3, s4⟩
                go_simp
                with_reducible rfl
               rotate_left
               ·simp only [Act.put, List.setIfInBounds_toArray, List.set_cons_zero, List.set_cons_succ, i64_w, i32_w]
                rfl
               refine take_ (i := 10) (N := some 52) (v := ?_) (a' := ?_) #[true, true, true, false, false, true, true, false, false, true, true, false, false, true, false, false, false, true, false, false, false, false] rfl rfl (take_ofW HT_.out HW_.out (by kernel_rfl)) (fun _ _ _ h => h) (Or.inl ⟨by rfl, ?_⟩) hHeld ?_ ?_
               rotate_left
               ·rintro w' ⟨s0, s1, s2, s3, s4⟩
                go_simp
                with_reducible rfl
               rotate_left
               ·simp only [Act.put, List.setIfInBounds_toArray, List.set_cons_zero, List.set_cons_succ, i64_w, i32_w]
                rfl
               refine take_ (i := 14) (N := some 56) (v := ?_) (a' := ?_) #[true, true, true, false, false, true, true, false, false, true, true, false, false, true, true, false, false, true, false, false, false, false] rfl rfl (take_ofW HT_.out HW_.out (by kernel_rfl)) (fun _ _ _ h => h) (Or.inl ⟨by rfl, ?_⟩) hHeld ?_ ?_
               rotate_left
               ·rintro w' ⟨s0, s1, s2, s3, s4⟩
                go_simp
                with_reducible rfl
               rotate_left
               ·simp only [Act.put, List.setIfInBounds_toArray, List.set_cons_zero, List.set_cons_succ, i64_w, i32_w]
                rfl
               refine take_ (i := 18) (N := some 60) (v := ?_) (a' := ?_) #[true, true, true, false, false, true, true, false, false, true, true, false, false, true, true, false, false, true, true, false, false, false] rfl rfl (take_ofW HT_.out HW_.out (by kernel_rfl)) (fun _ _ _ h => h) (Or.inl ⟨by rfl, ?_⟩) hHeld ?_ ?_
               rotate_left
               ·rintro w' ⟨s0, s1, s2, s3, s4⟩
                go_simp
                with_reducible rfl
               rotate_left
               ·simp only [Act.put, List.setIfInBounds_toArray, List.set_cons_zero, List.set_cons_succ, i64_w, i32_w]
                rfl
               refine one_ (i := 3) (N := some 45) #[true, true, true, true, false, true, true, false, false, true, true, false, false, true, true, false, false, true, true, false, false, false] rfl rfl (one_of HT_.out (by kernel_rfl)) (by decide) (fun K hK => ?_)
               refine goes_ Try.func37 (by kernel_rfl) rfl #[.int .i64 ((rd_T106 l0_5 x4_1).f0)] (by rfl) rfl rfl (by (try simp only [List.map_toArray, List.map_cons, List.map_nil]); first | done | rfl | (simp only [List.length_drop, List.length_take]; rfl)) ?_
               with_reducible refine (steepleref01_Num.calls ((rd_T106 l0_5 x4_1).f0) t273 _ A23.out).mono ?_
               rintro e w39 ⟨rfl, hb⟩
               refine ⟨_, rfl, ?_⟩
               replace BK264 := bb BK264 hb
               replace BK272 := bb BK272 hb
               replace HB := bh HB hb
               (try clear hb)
               (try clear hb2)
               (try clear hk)
               (try clear hi)
               refine hK.out _ _ ⟨(blk_cell BK272.out 0).trans rfl, (blk_cell BK272.out 1).trans rfl, (blk_cell BK272.out 2).trans rfl, (blk_cell BK272.out 3).trans rfl, (blk_cell BK272.out 4).trans rfl⟩ (fun hHeld => ?_)
               clear hK K
               refine norm_ (a' := ?_) ?_ ?_
               rotate_left
               ·show Act.put _ (some 45) _ = _
                simp only [Act.put, List.setIfInBounds_toArray, List.set_cons_zero, List.set_cons_succ, i64_w, i32_w]
                rfl
               refine pure_ (i := 4) (N := some 46) (v := ?_) (a' := ?_) #[true, true, true, true, true, true, true, false, false, true, true, false, false, true, true, false, false, true, true, false, false, false] rfl rfl (any_of HT_.out (by kernel_rfl)) (fun _ _ _ h => h) (Or.inl ⟨by rfl, ?_⟩) ?_ ?_
               rotate_left
               ·intro w'
                go_simp
                with_reducible rfl
               rotate_left
               ·simp only [Act.put, List.setIfInBounds_toArray, List.set_cons_zero, List.set_cons_succ, i64_w, i32_w]
                rfl
               refine one_ (i := 7) (N := some 49) #[true, true, true, true, true, true, true, true, false, true, true, false, false, true, true, false, false, true, true, false, false, false] rfl rfl (one_of HT_.out (by kernel_rfl)) (by decide) (fun K hK => ?_)
               refine goes_ Try.func37 (by kernel_rfl) rfl #[.int .i64 ((rd_T106 l0_5 x4_1).f1)] (by rfl) rfl rfl (by (try simp only [List.map_toArray, List.map_cons, List.map_nil]); first | done | rfl | (simp only [List.length_drop, List.length_take]; rfl)) ?_
               with_reducible refine (steepleref01_Num.calls ((rd_T106 l0_5 x4_1).f1) t274 _ A25.out).mono ?_
               rintro e w40 ⟨rfl, hb⟩
               refine ⟨_, rfl, ?_⟩
               replace BK264 := bb BK264 hb
               replace BK272 := bb BK272 hb
               replace HB := bh HB hb
               (try clear hb)
               (try clear hb2)
               (try clear hk)
               (try clear hi)
               refine hK.out _ _ ⟨(blk_cell BK272.out 0).trans rfl, (blk_cell BK272.out 1).trans rfl, (blk_cell BK272.out 2).trans rfl, (blk_cell BK272.out 3).trans rfl, (blk_cell BK272.out 4).trans rfl⟩ (fun hHeld => ?_)
               clear hK K
               refine norm_ (a' := ?_) ?_ ?_
               rotate_left
               ·show Act.put _ (some 49) _ = _
                simp only [Act.put, List.setIfInBounds_toArray, List.set_cons_zero, List.set_cons_succ, i64_w, i32_w]
                rfl
               refine pure_ (i := 8) (N := some 50) (v := ?_) (a' := ?_) #[true, true, true, true, true, true, true, true, true, true, true, false, false, true, true, false, false, true, true, false, false, false] rfl rfl (any_of HT_.out (by kernel_rfl)) (fun _ _ _ h => h) (Or.inl ⟨by rfl, ?_⟩) ?_ ?_
               rotate_left
               ·intro w'
                go_simp
                with_reducible rfl
               rotate_left
               ·simp only [Act.put, List.setIfInBounds_toArray, List.set_cons_zero, List.set_cons_succ, i64_w, i32_w]
                rfl
               refine one_ (i := 11) (N := some 53) #[true, true, true, true, true, true, true, true, true, true, true, true, false, true, true, false, false, true, true, false, false, false] rfl rfl (one_of HT_.out (by kernel_rfl)) (by decide) (fun K hK => ?_)
               refine goes_ Try.func37 (by kernel_rfl) rfl #[.int .i64 ((rd_T106 l0_5 x4_1).f2)] (by rfl) rfl rfl (by (try simp only [List.map_toArray, List.map_cons, List.map_nil]); first | done | rfl | (simp only [List.length_drop, List.length_take]; rfl)) ?_
               with_reducible refine (steepleref01_Num.calls ((rd_T106 l0_5 x4_1).f2) t275 _ A27.out).mono ?_
               rintro e w41 ⟨rfl, hb⟩
               refine ⟨_, rfl, ?_⟩
               replace BK264 := bb BK264 hb
               replace BK272 := bb BK272 hb
               replace HB := bh HB hb
               (try clear hb)
               (try clear hb2)
               (try clear hk)
               (try clear hi)
               refine hK.out _ _ ⟨(blk_cell BK272.out 0).trans rfl, (blk_cell BK272.out 1).trans rfl, (blk_cell BK272.out 2).trans rfl, (blk_cell BK272.out 3).trans rfl, (blk_cell BK272.out 4).trans rfl⟩ (fun hHeld => ?_)
               clear hK K
               refine norm_ (a' := ?_) ?_ ?_
               rotate_left
               ·show Act.put _ (some 53) _ = _
                simp only [Act.put, List.setIfInBounds_toArray, List.set_cons_zero, List.set_cons_succ, i64_w, i32_w]
                rfl
               refine pure_ (i := 12) (N := some 54) (v := ?_) (a' := ?_) #[true, true, true, true, true, true, true, true, true, true, true, true, true, true, true, false, false, true, true, false, false, false] rfl rfl (any_of HT_.out (by kernel_rfl)) (fun _ _ _ h => h) (Or.inl ⟨by rfl, ?_⟩) ?_ ?_
               rotate_left
               ·intro w'
                go_simp
                with_reducible rfl
               rotate_left
               ·simp only [Act.put, List.setIfInBounds_toArray, List.set_cons_zero, List.set_cons_succ, i64_w, i32_w]
                rfl
               refine one_ (i := 15) (N := some 57) #[true, true, true, true, true, true, true, true, true, true, true, true, true, true, true, true, false, true, true, false, false, false] rfl rfl (one_of HT_.out (by kernel_rfl)) (by decide) (fun K hK => ?_)
               refine goes_ Try.func37 (by kernel_rfl) rfl #[.int .i64 ((rd_T106 l0_5 x4_1).f3)] (by rfl) rfl rfl (by (try simp only [List.map_toArray, List.map_cons, List.map_nil]); first | done | rfl | (simp only [List.length_drop, List.length_take]; rfl)) ?_
               with_reducible refine (steepleref01_Num.calls ((rd_T106 l0_5 x4_1).f3) t276 _ A29.out).mono ?_
               rintro e w42 ⟨rfl, hb⟩
               refine ⟨_, rfl, ?_⟩
               replace BK264 := bb BK264 hb
               replace BK272 := bb BK272 hb
               replace HB := bh HB hb
               (try clear hb)
               (try clear hb2)
               (try clear hk)
               (try clear hi)
               refine hK.out _ _ ⟨(blk_cell BK272.out 0).trans rfl, (blk_cell BK272.out 1).trans rfl, (blk_cell BK272.out 2).trans rfl, (blk_cell BK272.out 3).trans rfl, (blk_cell BK272.out 4).trans rfl⟩ (fun hHeld => ?_)
               clear hK K
               refine norm_ (a' := ?_) ?_ ?_
               rotate_left
               ·show Act.put _ (some 57) _ = _
                simp only [Act.put, List.setIfInBounds_toArray, List.set_cons_zero, List.set_cons_succ, i64_w, i32_w]
                rfl
               refine pure_ (i := 16) (N := some 58) (v := ?_) (a' := ?_) #[true, true, true, true, true, true, true, true, true, true, true, true, true, true, true, true, true, true, true, false, false, false] rfl rfl (any_of HT_.out (by kernel_rfl)) (fun _ _ _ h => h) (Or.inl ⟨by rfl, ?_⟩) ?_ ?_
               rotate_left
               ·intro w'
                go_simp
                with_reducible rfl
               rotate_left
               ·simp only [Act.put, List.setIfInBounds_toArray, List.set_cons_zero, List.set_cons_succ, i64_w, i32_w]
                rfl
               refine one_ (i := 19) (N := some 61) #[true, true, true, true, true, true, true, true, true, true, true, true, true, true, true, true, true, true, true, true, false, false] rfl rfl (one_of HT_.out (by kernel_rfl)) (by decide) (fun K hK => ?_)
               refine goes_ Try.func37 (by kernel_rfl) rfl #[.int .i64 ((rd_T106 l0_5 x4_1).f4)] (by rfl) rfl rfl (by (try simp only [List.map_toArray, List.map_cons, List.map_nil]); first | done | rfl | (simp only [List.length_drop, List.length_take]; rfl)) ?_
               with_reducible refine (steepleref01_Num.calls ((rd_T106 l0_5 x4_1).f4) t277 _ A31.out).mono ?_
               rintro e w43 ⟨rfl, hb⟩
               refine ⟨_, rfl, ?_⟩
               replace BK264 := bb BK264 hb
               replace BK272 := bb BK272 hb
               replace HB := bh HB hb
               (try clear hb)
               (try clear hb2)
               (try clear hk)
               (try clear hi)
               refine hK.out _ _ ⟨(blk_cell BK272.out 0).trans rfl, (blk_cell BK272.out 1).trans rfl, (blk_cell BK272.out 2).trans rfl, (blk_cell BK272.out 3).trans rfl, (blk_cell BK272.out 4).trans rfl⟩ (fun hHeld => ?_)
               clear hK K
               refine norm_ (a' := ?_) ?_ ?_
               rotate_left
               ·show Act.put _ (some 61) _ = _
                simp only [Act.put, List.setIfInBounds_toArray, List.set_cons_zero, List.set_cons_succ, i64_w, i32_w]
                rfl
               refine pure_ (i := 20) (N := some 62) (v := ?_) (a' := ?_) #[true, true, true, true, true, true, true, true, true, true, true, true, true, true, true, true, true, true, true, true, true, false] rfl rfl (any_of HT_.out (by kernel_rfl)) (fun _ _ _ h => h) (Or.inl ⟨by rfl, ?_⟩) ?_ ?_
               rotate_left
               ·intro w'
                go_simp
                with_reducible rfl
               rotate_left
               ·simp only [Act.put, List.setIfInBounds_toArray, List.set_cons_zero, List.set_cons_succ, i64_w, i32_w]
                rfl
               refine pure_ (i := 21) (N := some 3) (v := ?_) (a' := ?_) #[true, true, true, true, true, true, true, true, true, true, true, true, true, true, true, true, true, true, true, true, true, true] rfl rfl (any_of HT_.out (by kernel_rfl)) (fun _ _ _ h => h) (Or.inl ⟨by rfl, ?_⟩) ?_ ?_
               rotate_left
               ·intro w'
                go_simp
                with_reducible rfl
               rotate_left
               ·simp only [Act.put, List.setIfInBounds_toArray, List.set_cons_zero, List.set_cons_succ, i64_w, i32_w]
                rfl
               refine done_ (done_of HT_.out (by kernel_rfl)) ?_
               try go_wp2
               go_roundg k1
               case measure => have := HK1.out; omega
               case rel => exact ⟨(((((x3_1 ++ t273) ++ t274) ++ t275) ++ t276) ++ t277), (wrap64 (x4_1 + 1)), (by first | rfl | (simp; done) | (simp [*]; done)), (by first | rfl | (simp; done) | (simp [*]; done)), H', ⟨by have := HK1.out; omega⟩, ⟨bk BK264.out⟩, ⟨bq HB.out⟩⟩
              ·rw [if_neg c32] at H
               exact absurd H (by simp)
             ·rw [if_neg c30] at H
              exact absurd H (by simp)
            ·rw [if_neg c28] at H
             exact absurd H (by simp)
           ·rw [if_neg c26] at H
            exact absurd H (by simp)
          ·rw [if_neg c24] at H
           exact absurd H (by simp)
         ·rw [if_neg c22] at H
          exact absurd H (by simp)
        ·rw [if_neg c21] at H
         have c21b0 : decide (x4_1 < (l0_5.length : Int)) = false := decide_eq_false c21
         clear c21
         obtain rfl := Option.some.inj H
         have hcz44_0 : wr.cell? ⟨gb264, 0, none⟩ = some (.int .i64 a0_0) := (blk_cell BK264.out 0).trans rfl
         have hcz44_1 : wr.cell? ⟨gb264, 1, none⟩ = some (.int .i64 a0_1) := (blk_cell BK264.out 1).trans rfl
         have hcz44_2 : wr.cell? ⟨gb264, 2, none⟩ = some (.int .i64 a0_2) := (blk_cell BK264.out 2).trans rfl
         have hcz44_3 : wr.cell? ⟨gb264, 3, none⟩ = some (.int .i64 a0_3) := (blk_cell BK264.out 3).trans rfl
         have hcz44_4 : wr.cell? ⟨gb264, 4, none⟩ = some (.int .i64 a0_4) := (blk_cell BK264.out 4).trans rfl
         have hcz44_5 : wr.cell? ⟨gb264, 5, none⟩ = some (.slice A0_5 l0_5.length c0_5) := (blk_cell BK264.out 5).trans rfl
         have hfz44_0 := blk_frozen BK264.out 0
         have hfz44_1 := blk_frozen BK264.out 1
         have hfz44_2 := blk_frozen BK264.out 2
         have hfz44_3 := blk_frozen BK264.out 3
         have hfz44_4 := blk_frozen BK264.out 4
         have hfz44_5 := blk_frozen BK264.out 5
         go_wp2
         go_ret
         exact ⟨by first | rfl | (simp [errW_none, errW_some] <;> rfl) | (simp [*, errW_none, errW_some] <;> rfl), bq HB.out⟩
     ·rw [if_neg c12] at H
      exact absurd H (by simp)
    ·rw [if_neg c10] at H
     exact absurd H (by simp)
   ·rw [if_neg c8] at H
    exact absurd H (by simp)
  ·rw [if_neg c6] at H
   exact absurd H (by simp)
 ·rw [if_neg c4] at H
  exact absurd H (by simp)

end Go.Proofs.Ythgiifakcgjlaaa.P
