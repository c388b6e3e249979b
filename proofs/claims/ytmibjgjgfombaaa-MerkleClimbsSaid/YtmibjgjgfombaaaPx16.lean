/- Written by a program of this session: functions that the law reaches, as Lean functions, and that the code comes to their answers. Conditions: those that each theorem names. -/
import Derived.Test.YtmibjgjgfombaaaPx0
import Derived.Test.YtmibjgjgfombaaaPx4
import Derived.Test.YtmibjgjgfombaaaHDig
import Derived.Test.YtmibjgjgfombaaaHSu
-- HND
namespace Go.Proofs.Ytmibjgjgfombaaa.P
open Go.RowKit Go.Proofs.YtmibjgjgfombaaaX Go.Proofs.YtmibjgjgfombaaaW.PrintWords Go.Proofs.YtmibjgjgfombaaaW.PrintLast Go.Proofs.YtmibjgjgfombaaaW.PrintMore
attribute [local go_sem] max2_int min2_int max_two min_two max_three min_three max_four min_four   -- for this text's walks alone
set_option linter.unusedVariables false
set_option linter.unusedSimpArgs false

/-! ### merkle_Climb: function 22 -/
mutual
def merkle_Climb.j0 : Nat → Int → Int → Int → ByteArray → List ByteArray → Bool → Option (ByteArray × List ByteArray × Int)
 | 0, _, _, _, _, _, _ => none
 | k + 1, x0, x1, x2, x3, x4, x18 => if x18 = true then (some ((⟨#[]⟩ : ByteArray), ([] : List ByteArray), 1)) else (if (x3.size : Int) = 32 then ((merkle_digests.f x4).bind fun t414 => (if t414 = true then (if (x4.length : Int) = x1 then (merkle_Climb.l0 k x0 x2 ([] : List ByteArray) x3 x4 (x4.length : Int) 0) else (some ((⟨#[]⟩ : ByteArray), ([] : List ByteArray), 6))) else (some ((⟨#[]⟩ : ByteArray), ([] : List ByteArray), 6)))) else (some ((⟨#[]⟩ : ByteArray), ([] : List ByteArray), 6)))
def merkle_Climb.l0 : Nat → Int → Int → List ByteArray → ByteArray → List ByteArray → Int → Int → Option (ByteArray × List ByteArray × Int)
 | 0, _, _, _, _, _, _, _ => none
 | k + 1, x0, x2, x13, x14, x55, x56, x57 => if x57 < x56 then (if 0 ≤ x57 then (if x57 < (x55.length : Int) then ((merkle_nodeText.f x14 (rdOf ByteArray.empty x55 x57)).bind fun t416 => (if (Int.tmod x2 2) = 1 then ((merkle_nodeText.f (rdOf ByteArray.empty x55 x57) x14).bind fun t417 => (if x13.length < 8796093022208 then ((sponge_Sum.f x0 t417).bind fun t421 => (merkle_Climb.l0 k x0 (wrap64 (Int.tdiv x2 2)) (x13 ++ [t417]) t421 x55 x56 (wrap64 (x57 + 1)))) else (none))) else (if x13.length < 8796093022208 then ((sponge_Sum.f x0 t416).bind fun t425 => (merkle_Climb.l0 k x0 (wrap64 (Int.tdiv x2 2)) (x13 ++ [t416]) t425 x55 x56 (wrap64 (x57 + 1)))) else (none)))) else (none)) else (none)) else (some (x14, x13, 0))
end
def merkle_Climb.f (k : Nat) (a0 : Int) (a1 : Int) (a2 : Int) (a3 : ByteArray) (l4 : List ByteArray) : Option (ByteArray × List ByteArray × Int) := if a1 < 0 then (merkle_Climb.j0 k a0 a1 a2 a3 l4 true) else (if a1 > 12 then (merkle_Climb.j0 k a0 a1 a2 a3 l4 true) else (if a2 < 0 then (merkle_Climb.j0 k a0 a1 a2 a3 l4 true) else (if 0 ≤ a1 then (merkle_Climb.j0 k a0 a1 a2 a3 l4 (decide (a2 ≥ (shl .i64 1 a1)))) else (none))))
set_option maxHeartbeats 8000000 in
set_option maxRecDepth 100000 in
theorem merkle_Climb.calls (k : Nat) (a0 : Int) (a1 : Int) (a2 : Int) (a3 : ByteArray) (A4 : Option Addr) (c4 : Nat) (l4 : List ByteArray) (r1 : ByteArray) (r2 : List ByteArray) (r3 : Int) (w : World) (gT : Nat) (hT : TabAt w gT) (hr4 : Kd.C Kd.string w A4 l4.length l4) (hc4 : l4.length ≤ c4) (h : merkle_Climb.f k a0 a1 a2 a3 l4 = some (r1, r2, r3)) :
  Calls Try.prog 22 #[.pointer (some ⟨gT, 0, none⟩), .int .i64 a1, .int .i64 a2, .string a3, .slice A4 l4.length c4] w fun e w' => ∃ v1_ : Value, e = .returned (.tuple #[.string r1, v1_, .int .i64 r3]) ∧ Kd.R Kd.string 9 w' w.heap.size (fun _ => True) v1_ r2 ∧ Below w.heap.size w w' := by
 have HR4 := Aside0.mk hr4
 have HC4 := Aside0.mk hc4
 clear hr4 hc4
 have HT := Aside0.mk hT
 clear hT
 have HB := Aside0.mk (Below.refl w.heap.size w)
 have H : (if a1 < 0 then (merkle_Climb.j0 k a0 a1 a2 a3 l4 true) else (if a1 > 12 then (merkle_Climb.j0 k a0 a1 a2 a3 l4 true) else (if a2 < 0 then (merkle_Climb.j0 k a0 a1 a2 a3 l4 true) else (if 0 ≤ a1 then (merkle_Climb.j0 k a0 a1 a2 a3 l4 (decide (a2 ≥ (shl .i64 1 a1)))) else (none))))) = some (r1, r2, r3) := h
 clear h
 have HC6 := Aside0.mk H
 clear H
 go_enter Try.func22, Try.ntmps22
 go_upto_region 1 with (fail)
 go_cut [18] (fun v18 wc => ∃ (kq : Nat) (x18_5 : Bool), v18 = .bool x18_5 ∧ Aside0 (merkle_Climb.j0 kq a0 a1 a2 a3 l4 x18_5 = some (r1, r2, r3)) ∧ Aside0 (kq ≤ k) ∧ Aside0 (Below w.heap.size w wc))
 case first =>
  have H := HC6.out
  clear HC6
  by_cases c7 : a1 < 0
  ·rw [if_pos c7] at H
   have c7b0 : decide (a1 < 0) = true := decide_eq_true c7
   clear c7
   (first | rw [c7b0] | (simp only [i64_w, i32_w]; rw [c7b0]) | skip)
   have H' := Aside0.mk H
   clear H
   go_wp2
   go_meet
   case rel => exact ⟨_, (true), (by first | rfl | (simp; done) | (simp [*]; done)), H', ⟨by first | omega | exact Nat.le_refl _⟩, ⟨bq HB.out⟩⟩
  ·rw [if_neg c7] at H
   have c7b0 : decide (a1 < 0) = false := decide_eq_false c7
   clear c7
   (first | rw [c7b0] | (simp only [i64_w, i32_w]; rw [c7b0]) | skip)
   by_cases c8 : a1 > 12
   ·rw [if_pos c8] at H
    have c8b0 : decide (12 < a1) = true := decide_eq_true c8
    clear c8
    have H' := Aside0.mk H
    clear H
    go_wp2
    go_meet
    case rel => exact ⟨_, (true), (by first | rfl | (simp; done) | (simp [*]; done)), H', ⟨by first | omega | exact Nat.le_refl _⟩, ⟨bq HB.out⟩⟩
   ·rw [if_neg c8] at H
    have c8b0 : decide (12 < a1) = false := decide_eq_false c8
    clear c8
    by_cases c9 : a2 < 0
    ·rw [if_pos c9] at H
     have c9b0 : decide (a2 < 0) = true := decide_eq_true c9
     clear c9
     have H' := Aside0.mk H
     clear H
     go_wp2
     go_meet
     case rel => exact ⟨_, (true), (by first | rfl | (simp; done) | (simp [*]; done)), H', ⟨by first | omega | exact Nat.le_refl _⟩, ⟨bq HB.out⟩⟩
    ·rw [if_neg c9] at H
     have c9b0 : decide (a2 < 0) = false := decide_eq_false c9
     clear c9
     by_cases c10 : 0 ≤ a1
     ·rw [if_pos c10] at H
      have c10b0 := eq_true c10
      have c10b1 : decide (0 ≤ a1) = true := decide_eq_true c10
      clear c10
      obtain ⟨ji11, hji11⟩ : ∃ j_ : Int, (shl .i64 1 a1) = j_ := ⟨_, rfl⟩
      replace H : (merkle_Climb.j0 k a0 a1 a2 a3 l4 (decide (a2 ≥ (ji11)))) = some (r1, r2, r3) := by first | (rw [hji11] at H; exact H) | (simp only [hji11] at H ⊢; exact H)
      have hji11_ : (IntKind.i64.wrap (1 * 2 ^ min a1.toNat 64)) = ji11 := hji11
      have hji11z : a1 ≤ 64 → (IntKind.i64.wrap (1 * 2 ^ a1.toNat)) = ji11 := shl_small hji11
      have hji11u : (IntKind.i64.wrap (2 ^ min a1.toNat 64)) = ji11 := by have h_ := hji11_; rw [Int.one_mul] at h_; exact h_
      have hji11v : a1 ≤ 64 → (IntKind.i64.wrap (2 ^ a1.toNat)) = ji11 := fun hle_ => by have h_ := hji11z hle_; rw [Int.one_mul] at h_; exact h_
      have hji11y : (wrap64 (1 * 2 ^ min a1.toNat 64)) = ji11 := (i64_w _).symm.trans hji11_
      have hji11x : a1 ≤ 64 → (wrap64 (1 * 2 ^ a1.toNat)) = ji11 := fun h_ => (i64_w _).symm.trans (hji11z h_)
      have H' := Aside0.mk H
      clear H
      go_wp2
      go_meet
      case rel => exact ⟨_, (decide (a2 ≥ (ji11))), (by first | rfl | (simp; done) | (simp only [← hji11] <;> (first | rfl | simp)) | (simp [*]; done)), H', ⟨by first | omega | exact Nat.le_refl _⟩, ⟨bq HB.out⟩⟩
     ·rw [if_neg c10] at H
      exact absurd H (by simp)
 case rest =>
  clear HC6
  try clear c1
  try clear c2
  try clear p2
  try clear c4
  try clear p6
  try clear c7
  try clear c7b0
  try clear c8
  try clear c8b0
  try clear c9
  try clear c9b0
  try clear c10
  try clear c10b0
  try clear c10b1
  obtain ⟨kq, x18_5, rfl, HA, HJ5, HB⟩ := hcut
  cases kq with
  | zero => exact absurd HA.out (by simp [merkle_Climb.j0])
  | succ kj5 =>
   have H := HA.out
   clear HA
   simp only [merkle_Climb.j0] at H
   by_cases c12 : x18_5 = true
   ·subst c12
    have H1 : (some ((⟨#[]⟩ : ByteArray), ([] : List ByteArray), 1)) = some (r1, r2, r3) := by rw [if_pos rfl] at H; exact H
    clear H
    have H := H1
    clear H1
    simp only [Option.some.injEq, Prod.mk.injEq] at H
    obtain ⟨rfl, rfl, rfl⟩ := H
    go_wp2
    go_ret3
    exact ⟨_, by first | rfl | (simp [errW_none, errW_some] <;> rfl) | (simp [*, errW_none, errW_some] <;> rfl), by first | exact Kd.R_nil _ _ _ _ _ | exact Kd.N_nil _ _ _ _ _ | exact Kd.V_nil _ _ _ _ _ | exact Kd.Q_nil _ _ _ _ _ | exact Kd.S_nil _ _ _ _ _, bq HB.out⟩
   ·replace c12 := Bool.eq_false_iff.mpr c12
    subst c12
    have H1 : (if (a3.size : Int) = 32 then ((merkle_digests.f l4).bind fun t414 => (if t414 = true then (if (l4.length : Int) = a1 then (merkle_Climb.l0 kj5 a0 a2 ([] : List ByteArray) a3 l4 (l4.length : Int) 0) else (some ((⟨#[]⟩ : ByteArray), ([] : List ByteArray), 6))) else (some ((⟨#[]⟩ : ByteArray), ([] : List ByteArray), 6)))) else (some ((⟨#[]⟩ : ByteArray), ([] : List ByteArray), 6))) = some (r1, r2, r3) := by rw [if_neg (show ¬ (false = true) by decide)] at H; exact H
    clear H
    have H := H1
    clear H1
    by_cases c13 : (a3.size : Int) = 32
    ·rw [if_pos c13] at H
     have c13b0 : ((a3.size : Int) == 32) = true := beq_iff_eq.mpr c13
     have c13b1 : ((a3.size : Int) != 32) = false := bne_eq_false_iff_eq.mpr c13
     clear c13
     replace H := Option.bind_eq_some_iff.mp H
     obtain ⟨t414, A140, H⟩ := H
     replace H : (if t414 = true then (if (l4.length : Int) = a1 then (merkle_Climb.l0 kj5 a0 a2 ([] : List ByteArray) a3 l4 (l4.length : Int) 0) else (some ((⟨#[]⟩ : ByteArray), ([] : List ByteArray), 6))) else (some ((⟨#[]⟩ : ByteArray), ([] : List ByteArray), 6))) = some (r1, r2, r3) := H
     have A14 := Aside0.mk A140
     clear A140
     by_cases c15 : t414 = true
     ·subst c15
      have H1 : (if (l4.length : Int) = a1 then (merkle_Climb.l0 kj5 a0 a2 ([] : List ByteArray) a3 l4 (l4.length : Int) 0) else (some ((⟨#[]⟩ : ByteArray), ([] : List ByteArray), 6))) = some (r1, r2, r3) := by rw [if_pos rfl] at H; exact H
      clear H
      have H := H1
      clear H1
      by_cases c16 : (l4.length : Int) = a1
      ·rw [if_pos c16] at H
       have c16b0 : ((l4.length : Int) == a1) = true := beq_iff_eq.mpr c16
       have c16b1 : ((l4.length : Int) != a1) = false := bne_eq_false_iff_eq.mpr c16
       clear c16
       have H' := Aside0.mk H
       clear H
       go_wp2_with (first | (go_at_call 37; (with_reducible refine (merkle_digests.calls _ _ l4 true _ ?side1 ?side2 A14.out).mono ?_); (case side1 => repeat (first | exact (Kd.C_below HR4.out HB.out) | (with_reducible refine Kd.C_alloc ?_ _) | (with_reducible refine Kd.C_drewN ?_ _) | (with_reducible refine Kd.C_drew ?_))); (case side2 => exact HC4.out); rintro e w17 ⟨rfl, hb⟩; replace HB := bh HB hb; (try clear hb); (try clear hb2); (try clear hk); (try clear hi)))
       go_loopg [2, 13, 14, 57] kj5 (fun kq v2 v13 v14 v57 w' => ∃ (x2_2 : Int) (x13_2 : List ByteArray) (x14_2 : ByteArray) (x57_2 : Int), v2 = .int .i64 x2_2 ∧ v14 = .string x14_2 ∧ v57 = .int .i64 x57_2 ∧ Aside0 (merkle_Climb.l0 kq a0 x2_2 x13_2 x14_2 l4 (l4.length : Int) x57_2 = some (r1, r2, r3)) ∧ Aside0 (kq ≤ kj5) ∧ Aside0 (Kd.R Kd.string 9 w' w.heap.size (fun _ => True) v13 x13_2) ∧ Aside0 (Below w.heap.size w w'))
       case atStart => exact ⟨(a2), (([] : List ByteArray)), (a3), (0), (by first | rfl | (simp; done) | (simp [*]; done)), (by first | rfl | (simp; done) | (simp [*]; done)), (by first | rfl | (simp; done) | (simp [*]; done)), H', ⟨Nat.le_refl _⟩, ⟨by first | exact Kd.R_nil _ _ _ _ _ | exact Kd.N_nil _ _ _ _ _ | exact Kd.V_nil _ _ _ _ _ | exact Kd.Q_nil _ _ _ _ _ | exact Kd.S_nil _ _ _ _ _⟩, ⟨bq HB.out⟩⟩
       case round =>
        clear H'
        try clear c1
        try clear c2
        try clear p2
        try clear c4
        try clear p6
        try clear c7
        try clear c7b0
        try clear c8
        try clear c8b0
        try clear c9
        try clear c9b0
        try clear c10
        try clear c10b0
        try clear c10b1
        try clear c12
        try clear c13
        try clear c13b0
        try clear c13b1
        try clear c15
        try clear c16
        try clear c16b0
        try clear c16b1
        try clear p2
        try clear p6
        obtain ⟨x2_2, x13_2, x14_2, x57_2, rfl, rfl, rfl, HA, HK2, HO_13, HB⟩ := hrel
        cases gk with
        | zero => exact absurd HA.out (by simp [merkle_Climb.l0])
        | succ k2 =>
         have H := HA.out
         clear HA
         simp only [merkle_Climb.l0] at H
         by_cases c18 : x57_2 < (l4.length : Int)
         ·rw [if_pos c18] at H
          have c18b0 : decide (x57_2 < (l4.length : Int)) = true := decide_eq_true c18
          clear c18
          by_cases c19 : 0 ≤ x57_2
          ·rw [if_pos c19] at H
           have c19b0 : decide (0 ≤ x57_2) = true := decide_eq_true c19
           clear c19
           by_cases c20 : x57_2 < (l4.length : Int)
           ·rw [if_pos c20] at H
            have c20b0 : decide (x57_2 < (l4.length : Int)) = true := decide_eq_true c20
            clear c20
            replace H := Option.bind_eq_some_iff.mp H
            obtain ⟨t416, A210, H⟩ := H
            replace H : (if (Int.tmod x2_2 2) = 1 then ((merkle_nodeText.f (rdOf ByteArray.empty l4 x57_2) x14_2).bind fun t417 => (if x13_2.length < 8796093022208 then ((sponge_Sum.f a0 t417).bind fun t421 => (merkle_Climb.l0 k2 a0 (wrap64 (Int.tdiv x2_2 2)) (x13_2 ++ [t417]) t421 l4 (l4.length : Int) (wrap64 (x57_2 + 1)))) else (none))) else (if x13_2.length < 8796093022208 then ((sponge_Sum.f a0 t416).bind fun t425 => (merkle_Climb.l0 k2 a0 (wrap64 (Int.tdiv x2_2 2)) (x13_2 ++ [t416]) t425 l4 (l4.length : Int) (wrap64 (x57_2 + 1)))) else (none))) = some (r1, r2, r3) := H
            have A21 := Aside0.mk A210
            clear A210
            by_cases c22 : (Int.tmod x2_2 2) = 1
            ·rw [if_pos c22] at H
             have c22b0 : ((Int.tmod x2_2 2) == 1) = true := beq_iff_eq.mpr c22
             have c22b1 : ((Int.tmod x2_2 2) != 1) = false := bne_eq_false_iff_eq.mpr c22
             clear c22
             replace H := Option.bind_eq_some_iff.mp H
             obtain ⟨t417, A230, H⟩ := H
             replace H : (if x13_2.length < 8796093022208 then ((sponge_Sum.f a0 t417).bind fun t421 => (merkle_Climb.l0 k2 a0 (wrap64 (Int.tdiv x2_2 2)) (x13_2 ++ [t417]) t421 l4 (l4.length : Int) (wrap64 (x57_2 + 1)))) else (none)) = some (r1, r2, r3) := H
             have A23 := Aside0.mk A230
             clear A230
             by_cases c24 : x13_2.length < 8796093022208
             ·rw [if_pos c24] at H
              have LMc24 := Aside0.mk c24
              clear c24
              obtain ⟨y418, hy418⟩ : ∃ y_ : List ByteArray, y_ = (x13_2 ++ [t417]) := ⟨_, rfl⟩
              replace H : ((sponge_Sum.f a0 t417).bind fun t421 => (merkle_Climb.l0 k2 a0 (wrap64 (Int.tdiv x2_2 2)) y418 t421 l4 (l4.length : Int) (wrap64 (x57_2 + 1)))) = some (r1, r2, r3) := by first | (rw [hy418]; with_reducible exact H) | (have H2_ := (Option.bind_some _ _).symm.trans H; rw [hy418]; with_reducible exact H2_) | (have H2_ := (Option.bind_some _ _).symm.trans H; with_reducible exact H2_) | with_reducible exact H | (rw [hy418]; exact H) | exact H
              have Ny418 := Aside0.mk hy418
              clear hy418
              replace H := Option.bind_eq_some_iff.mp H
              obtain ⟨t421, A250, H⟩ := H
              replace H : (merkle_Climb.l0 k2 a0 (wrap64 (Int.tdiv x2_2 2)) y418 t421 l4 (l4.length : Int) (wrap64 (x57_2 + 1))) = some (r1, r2, r3) := H
              have A25 := Aside0.mk A250
              clear A250
              have H' := Aside0.mk H
              clear H
              have p415 : 0 ≤ (x57_2 : Int) := of_decide_eq_true (by first | (with_reducible assumption) | assumption)
              have q415 : x57_2 < (l4.length : Int) := of_decide_eq_true (by first | (with_reducible assumption) | assumption)
              obtain ⟨ad415, e415, hx415_0⟩ := Kd.at_string HR4.out x57_2 p415 q415
              cases e415
              replace hx415_0 := (HB.out.cell (World.block_lt_of_cell? w _ hx415_0)).trans hx415_0
              replace p415 := eq_true p415
              replace q415 := eq_true q415
              go_wp2_with (first | ((with_reducible refine gate_callee (f := 38) rfl ?_); refine goesL_ (some 63) rfl rfl Try.func38 (by kernel_rfl) rfl #[.string x14_2, .string (rdOf ByteArray.empty l4 x57_2)] rfl (by (try simp only [List.map_toArray, List.map_cons, List.map_nil]); first | done | rfl | (simp only [List.length_drop, List.length_take]; rfl)) ?_; (with_reducible refine (merkle_nodeText.calls x14_2 (rdOf ByteArray.empty l4 x57_2) t416 _ A21.out).mono ?_); rintro e w' ⟨rfl, ⟨nd, rfl⟩⟩; refine ⟨_, rfl, ?_⟩) | ((with_reducible refine gate_callee (f := 38) rfl ?_); refine goesL_ (some 69) rfl rfl Try.func38 (by kernel_rfl) rfl #[.string (rdOf ByteArray.empty l4 x57_2), .string x14_2] rfl (by (try simp only [List.map_toArray, List.map_cons, List.map_nil]); first | done | rfl | (simp only [List.length_drop, List.length_take]; rfl)) ?_; (with_reducible refine (merkle_nodeText.calls (rdOf ByteArray.empty l4 x57_2) x14_2 t417 _ A23.out).mono ?_); rintro e w' ⟨rfl, ⟨nd, rfl⟩⟩; refine ⟨_, rfl, ?_⟩) | ((with_reducible refine gate_builtin (b := .append) (xs := #[.tmp 70, .tmp 72]) rfl ?_); (try (refine gate_guard (by rfl) ?_; dsimp only)); at_builtin; refine Kd.R_append Kd.string (w0 := w) w.heap.size rfl (.tmp 70) (.tmp 72) 22 9 (.string ⟨#[]⟩) 16 rfl Try.underlying22 info9 rfl (by decide) (by omega) u13 x13_2 t417 [.string t417] (fun _ => True) (fun _ => False) rfl rfl ?aP (fun _ hk => hk.elim) ?aF ?aO ?aB ?aS ?aL ?_; (case aP => exact rfl); (case aB => exact (bq HB.out)); (case aF => exact (fun _ _ => trivial)); (case aO => exact (kr HO_13.out)); (case aS => exact (below_size (bq HB.out))); (case aL => have := LMc24.out; omega); intro v419 w26 ho hb hg hat; rw [← Ny418.out] at ho; have HO420 := Aside0.mk ho; replace HB := Aside0.mk hb; clear HO_13; clear ho hb hg hat) | ((with_reducible refine gate_callee (f := 29) rfl ?_); refine goesL_ (some 76) rfl rfl Try.func29 (by kernel_rfl) rfl #[.pointer (some ⟨gT, 0, none⟩), .string t417] rfl (by (try simp only [List.map_toArray, List.map_cons, List.map_nil]); first | done | rfl | (simp only [List.length_drop, List.length_take]; rfl)) ?_; (with_reducible refine (sponge_Sum.calls (gT := gT) (hT := HT.out.below (bq HB.out)) a0 t417 t421 _ A25.out).mono ?_); rintro e w27 ⟨rfl, hb⟩; refine ⟨_, rfl, ?_⟩; replace HO420 := kb HO420 hb; replace HB := bh HB hb; (try clear hb); (try clear hb2); (try clear hk); (try clear hi)))
              go_roundg k2
              case measure => have := HJ5.out; have := HK2.out; omega
              case rel => exact ⟨(wrap64 (Int.tdiv x2_2 2)), (y418), (t421), (wrap64 (x57_2 + 1)), (by first | rfl | (simp; done) | (simp [*]; done)), (by first | rfl | (simp; done) | (simp [*]; done)), (by first | rfl | (simp; done) | (simp [*]; done)), H', ⟨by have := HJ5.out; have := HK2.out; omega⟩, ⟨kr HO420.out⟩, ⟨bq HB.out⟩⟩
             ·rw [if_neg c24] at H
              exact absurd H (by simp)
            ·rw [if_neg c22] at H
             have c22b0 : ((Int.tmod x2_2 2) == 1) = false := beq_eq_false_iff_ne.mpr c22
             have c22b1 : ((Int.tmod x2_2 2) != 1) = true := bne_iff_ne.mpr c22
             by_cases c28 : x13_2.length < 8796093022208
             ·rw [if_pos c28] at H
              have LMc28 := Aside0.mk c28
              clear c28
              obtain ⟨y422, hy422⟩ : ∃ y_ : List ByteArray, y_ = (x13_2 ++ [t416]) := ⟨_, rfl⟩
              replace H : ((sponge_Sum.f a0 t416).bind fun t425 => (merkle_Climb.l0 k2 a0 (wrap64 (Int.tdiv x2_2 2)) y422 t425 l4 (l4.length : Int) (wrap64 (x57_2 + 1)))) = some (r1, r2, r3) := by first | (rw [hy422]; with_reducible exact H) | (have H2_ := (Option.bind_some _ _).symm.trans H; rw [hy422]; with_reducible exact H2_) | (have H2_ := (Option.bind_some _ _).symm.trans H; with_reducible exact H2_) | with_reducible exact H | (rw [hy422]; exact H) | exact H
              have Ny422 := Aside0.mk hy422
              clear hy422
              replace H := Option.bind_eq_some_iff.mp H
              obtain ⟨t425, A290, H⟩ := H
              replace H : (merkle_Climb.l0 k2 a0 (wrap64 (Int.tdiv x2_2 2)) y422 t425 l4 (l4.length : Int) (wrap64 (x57_2 + 1))) = some (r1, r2, r3) := H
              have A29 := Aside0.mk A290
              clear A290
              have H' := Aside0.mk H
              clear H
              have p415 : 0 ≤ (x57_2 : Int) := of_decide_eq_true (by first | (with_reducible assumption) | assumption)
              have q415 : x57_2 < (l4.length : Int) := of_decide_eq_true (by first | (with_reducible assumption) | assumption)
              obtain ⟨ad415, e415, hx415_0⟩ := Kd.at_string HR4.out x57_2 p415 q415
              cases e415
              replace hx415_0 := (HB.out.cell (World.block_lt_of_cell? w _ hx415_0)).trans hx415_0
              replace p415 := eq_true p415
              replace q415 := eq_true q415
              go_wp2_with (first | ((with_reducible refine gate_callee (f := 38) rfl ?_); refine goesL_ (some 63) rfl rfl Try.func38 (by kernel_rfl) rfl #[.string x14_2, .string (rdOf ByteArray.empty l4 x57_2)] rfl (by (try simp only [List.map_toArray, List.map_cons, List.map_nil]); first | done | rfl | (simp only [List.length_drop, List.length_take]; rfl)) ?_; (with_reducible refine (merkle_nodeText.calls x14_2 (rdOf ByteArray.empty l4 x57_2) t416 _ A21.out).mono ?_); rintro e w' ⟨rfl, ⟨nd, rfl⟩⟩; refine ⟨_, rfl, ?_⟩) | ((with_reducible refine gate_builtin (b := .append) (xs := #[.tmp 70, .tmp 72]) rfl ?_); (try (refine gate_guard (by rfl) ?_; dsimp only)); at_builtin; refine Kd.R_append Kd.string (w0 := w) w.heap.size rfl (.tmp 70) (.tmp 72) 22 9 (.string ⟨#[]⟩) 16 rfl Try.underlying22 info9 rfl (by decide) (by omega) u13 x13_2 t416 [.string t416] (fun _ => True) (fun _ => False) rfl rfl ?aP (fun _ hk => hk.elim) ?aF ?aO ?aB ?aS ?aL ?_; (case aP => exact rfl); (case aB => exact (bq HB.out)); (case aF => exact (fun _ _ => trivial)); (case aO => exact (kr HO_13.out)); (case aS => exact (below_size (bq HB.out))); (case aL => have := LMc28.out; omega); intro v423 w30 ho hb hg hat; rw [← Ny422.out] at ho; have HO424 := Aside0.mk ho; replace HB := Aside0.mk hb; clear HO_13; clear ho hb hg hat) | ((with_reducible refine gate_callee (f := 29) rfl ?_); refine goesL_ (some 76) rfl rfl Try.func29 (by kernel_rfl) rfl #[.pointer (some ⟨gT, 0, none⟩), .string t416] rfl (by (try simp only [List.map_toArray, List.map_cons, List.map_nil]); first | done | rfl | (simp only [List.length_drop, List.length_take]; rfl)) ?_; (with_reducible refine (sponge_Sum.calls (gT := gT) (hT := HT.out.below (bq HB.out)) a0 t416 t425 _ A29.out).mono ?_); rintro e w31 ⟨rfl, hb⟩; refine ⟨_, rfl, ?_⟩; replace HO424 := kb HO424 hb; replace HB := bh HB hb; (try clear hb); (try clear hb2); (try clear hk); (try clear hi)))
              go_roundg k2
              case measure => have := HJ5.out; have := HK2.out; omega
              case rel => exact ⟨(wrap64 (Int.tdiv x2_2 2)), (y422), (t425), (wrap64 (x57_2 + 1)), (by first | rfl | (simp; done) | (simp [*]; done)), (by first | rfl | (simp; done) | (simp [*]; done)), (by first | rfl | (simp; done) | (simp [*]; done)), H', ⟨by have := HJ5.out; have := HK2.out; omega⟩, ⟨kr HO424.out⟩, ⟨bq HB.out⟩⟩
             ·rw [if_neg c28] at H
              exact absurd H (by simp)
           ·rw [if_neg c20] at H
            exact absurd H (by simp)
          ·rw [if_neg c19] at H
           exact absurd H (by simp)
         ·rw [if_neg c18] at H
          have c18b0 : decide (x57_2 < (l4.length : Int)) = false := decide_eq_false c18
          clear c18
          simp only [Option.some.injEq, Prod.mk.injEq] at H
          obtain ⟨rfl, rfl, rfl⟩ := H
          go_wp2
          go_ret3
          exact ⟨_, by first | rfl | (simp [errW_none, errW_some] <;> rfl) | (simp [*, errW_none, errW_some] <;> rfl), by (with_reducible repeat refine kl ?_); exact HO_13.out, bq HB.out⟩
      ·rw [if_neg c16] at H
       have c16b0 : ((l4.length : Int) == a1) = false := beq_eq_false_iff_ne.mpr c16
       have c16b1 : ((l4.length : Int) != a1) = true := bne_iff_ne.mpr c16
       simp only [Option.some.injEq, Prod.mk.injEq] at H
       obtain ⟨rfl, rfl, rfl⟩ := H
       go_wp2_with (first | (go_at_call 37; (with_reducible refine (merkle_digests.calls _ _ l4 true _ ?side1 ?side2 A14.out).mono ?_); (case side1 => repeat (first | exact (Kd.C_below HR4.out HB.out) | (with_reducible refine Kd.C_alloc ?_ _) | (with_reducible refine Kd.C_drewN ?_ _) | (with_reducible refine Kd.C_drew ?_))); (case side2 => exact HC4.out); rintro e w32 ⟨rfl, hb⟩; replace HB := bh HB hb; (try clear hb); (try clear hb2); (try clear hk); (try clear hi)))
       go_ret3
       exact ⟨_, by first | rfl | (simp [errW_none, errW_some] <;> rfl) | (simp [*, errW_none, errW_some] <;> rfl), by first | exact Kd.R_nil _ _ _ _ _ | exact Kd.N_nil _ _ _ _ _ | exact Kd.V_nil _ _ _ _ _ | exact Kd.Q_nil _ _ _ _ _ | exact Kd.S_nil _ _ _ _ _, bq HB.out⟩
     ·replace c15 := Bool.eq_false_iff.mpr c15
      subst c15
      have H1 : (some ((⟨#[]⟩ : ByteArray), ([] : List ByteArray), 6)) = some (r1, r2, r3) := by rw [if_neg (show ¬ (false = true) by decide)] at H; exact H
      clear H
      have H := H1
      clear H1
      simp only [Option.some.injEq, Prod.mk.injEq] at H
      obtain ⟨rfl, rfl, rfl⟩ := H
      go_wp2_with (first | (go_at_call 37; (with_reducible refine (merkle_digests.calls _ _ l4 false _ ?side1 ?side2 A14.out).mono ?_); (case side1 => repeat (first | exact (Kd.C_below HR4.out HB.out) | (with_reducible refine Kd.C_alloc ?_ _) | (with_reducible refine Kd.C_drewN ?_ _) | (with_reducible refine Kd.C_drew ?_))); (case side2 => exact HC4.out); rintro e w33 ⟨rfl, hb⟩; replace HB := bh HB hb; (try clear hb); (try clear hb2); (try clear hk); (try clear hi)))
      go_ret3
      exact ⟨_, by first | rfl | (simp [errW_none, errW_some] <;> rfl) | (simp [*, errW_none, errW_some] <;> rfl), by first | exact Kd.R_nil _ _ _ _ _ | exact Kd.N_nil _ _ _ _ _ | exact Kd.V_nil _ _ _ _ _ | exact Kd.Q_nil _ _ _ _ _ | exact Kd.S_nil _ _ _ _ _, bq HB.out⟩
    ·rw [if_neg c13] at H
     have c13b0 : ((a3.size : Int) == 32) = false := beq_eq_false_iff_ne.mpr c13
     have c13b1 : ((a3.size : Int) != 32) = true := bne_iff_ne.mpr c13
     simp only [Option.some.injEq, Prod.mk.injEq] at H
     obtain ⟨rfl, rfl, rfl⟩ := H
     go_wp2
     go_ret3
     exact ⟨_, by first | rfl | (simp [errW_none, errW_some] <;> rfl) | (simp [*, errW_none, errW_some] <;> rfl), by first | exact Kd.R_nil _ _ _ _ _ | exact Kd.N_nil _ _ _ _ _ | exact Kd.V_nil _ _ _ _ _ | exact Kd.Q_nil _ _ _ _ _ | exact Kd.S_nil _ _ _ _ _, bq HB.out⟩

end Go.Proofs.Ytmibjgjgfombaaa.P
