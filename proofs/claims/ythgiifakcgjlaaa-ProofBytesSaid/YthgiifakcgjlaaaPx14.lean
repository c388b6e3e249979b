/- Functions that the law reaches, as Lean functions. Conditions: those that each theorem names. -/
import Derived.Test.YthgiifakcgjlaaaPx0
import Derived.Test.YthgiifakcgjlaaaX2
import Derived.Test.YthgiifakcgjlaaaPx5
import Derived.Test.YthgiifakcgjlaaaPx7
import Derived.Test.YthgiifakcgjlaaaPx13
import Derived.Test.YthgiifakcgjlaaaPx13b
set_option maxHeartbeats 8000000
set_option maxRecDepth 100000
namespace Go.Proofs.Ythgiifakcgjlaaa.P
open Go.RowKit YthgiifakcgjlaaaX YthgiifakcgjlaaaW.PrintWords YthgiifakcgjlaaaW.PrintLast YthgiifakcgjlaaaW.PrintMore
attribute [local go_sem] max2_int min2_int max_two min_two max_three min_three max_four min_four
set_option linter.unusedVariables false
set_option linter.unusedSimpArgs false

def octet_Reader_List.l0 : Nat → Int → Int → List ByteArray → Int → ByteArray → Int → Option (List ByteArray × ByteArray × Int)
 | 0, _, _, _, _, _, _ => none
 | k + 1, x2, x7, x8, x9, x1000, x1001 => if x9 < x7 then ((octet_Reader_Fail.f x1000 x1001).bind fun bt331 => (if bt331.1 = 0 then ((octet_Reader_Text.f bt331.2.1 bt331.2.2 x2).bind fun bt334 => (if x8.length < 8796093022208 then (octet_Reader_List.l0 k x2 x7 (x8 ++ [bt334.1]) (wrap64 (x9 + 1)) bt334.2.1 bt334.2.2) else (none))) else ((octet_Reader_Fail.f bt331.2.1 bt331.2.2).bind fun bt340 => (if bt340.1 = 0 then (some (x8, bt340.2.1, bt340.2.2)) else (some (([] : List ByteArray), bt340.2.1, bt340.2.2)))))) else ((octet_Reader_Fail.f x1000 x1001).bind fun bt343 => (if bt343.1 = 0 then (some (x8, bt343.2.1, bt343.2.2)) else (some (([] : List ByteArray), bt343.2.1, bt343.2.2))))
def octet_Reader_List.f (k : Nat) (s0_0 : ByteArray) (s0_1 : Int) (a1 : Int) (a2 : Int) : Option (List ByteArray × ByteArray × Int) := (octet_Reader_Num.f s0_0 s0_1 a1).bind fun bt328 => (octet_Reader_List.l0 k a2 bt328.1 ([] : List ByteArray) 0 bt328.2.1 bt328.2.2)
theorem octet_Reader_List.calls (k : Nat) (g : Nat) (s0_0 : ByteArray) (s0_1 : Int) (a1 : Int) (a2 : Int) (r1 : List ByteArray) (r2 : ByteArray) (r3 : Int) (w0 w : World) (hI : IsS145 w0 w g s0_0 s0_1) (hB : Below w0.heap.size w0 w) (h : octet_Reader_List.f k s0_0 s0_1 a1 a2 = some (r1, r2, r3)) :
  Calls Try.prog 78 #[.pointer (some ⟨g, 0, none⟩), .int .i64 a1, .int .i64 a2] w fun e w' => ∃ v0_ : Value, e = .returned (v0_) ∧ Kd.R Kd.string 9 w' w.heap.size (fun _ => True) v0_ r1 ∧ IsS145 w0 w' g r2 r3 ∧ Below w0.heap.size w0 w' ∧ KeepBut w w' g none := by
 have HI0 := Aside0.mk hI
 have HK := Aside0.mk (KeepBut.refl w g none)
 have HL := Aside0.mk hB.size
 clear hI
 have HW0 := Aside0.mk hB.size
 have HB := Aside0.mk hB
 clear hB
 have H : ((octet_Reader_Num.f s0_0 s0_1 a1).bind fun bt328 => (octet_Reader_List.l0 k a2 bt328.1 ([] : List ByteArray) 0 bt328.2.1 bt328.2.2)) = some (r1, r2, r3) := h
 clear h
 obtain ⟨⟨t328, t329, t330⟩, A4, H⟩ := bm2 H
 try dsimp only at H
 have H' := Aside0.mk H
 clear H
 go_enter Try.func78, Try.ntmps78
 go_wp2_with (first | ((with_reducible refine gate_callee (f := 35) rfl ?_); refine gL (some 12) rfl Try.func35 #[.pointer (some ⟨g, 0, none⟩), .int .i64 a1] rfl ?_; (with_reducible refine (octet_Reader_Num.calls g s0_0 s0_1 a1 t328 t329 t330 w0 _ ?side1 ?side2 A4.out).mono ?_); (case side1 => repeat (first | (with_reducible first | exact HI0.out | apply ia | apply iN | apply iD | apply i0 | apply i1) | exact HI0.out)); (case side2 => repeat (first | (with_reducible first | exact HB.out | apply ba | apply bN | apply bD | refine bS ?_ (IsS145.ge HI0.out)) | exact HB.out)); rintro e w5 ⟨rfl, hi, hb, hk⟩; refine ⟨_, rfl, ?_⟩; have n0_ := Aside0.mk (KeepBut.trans (by repeat (first | (with_reducible first | exact HK.out | apply kS | apply kN | apply kD | apply kA) | exact HK.out)) hk (.inl rfl)); have n1_ := Aside0.mk (hb); have n2_ := Aside0.mk (hi); clear HK; clear HB; clear HI0; have HK := n0_; have HB := n1_; have HI0 := n2_; clear n0_ n1_ n2_; (try clear hb); (try clear hk hi)))
 go_loopg [8, 9] k (fun kq v8 v9 w' => ∃ (x8_1 : List ByteArray) (x9_1 : Int) (x1000_1 : ByteArray) (x1001_1 : Int), v9 = .int .i64 x9_1 ∧ Aside0 (octet_Reader_List.l0 kq a2 t328 x8_1 x9_1 x1000_1 x1001_1 = some (r1, r2, r3)) ∧ Aside0 (kq ≤ k) ∧ Aside0 (Kd.R Kd.string 9 w' w.heap.size (fun _ => True) v8 x8_1) ∧ Aside0 (IsS145 w0 w' g x1000_1 x1001_1) ∧ Aside0 (KeepBut w w' g none) ∧ Aside0 (Below w0.heap.size w0 w'))
 case atStart => exact ⟨(([] : List ByteArray)), (0), (t329), (t330), (by first | rfl | (simp; done) | (simp [*]; done)), H', ⟨Nat.le_refl _⟩, ⟨by first | exact Kd.R_nil _ _ _ _ _ | exact Kd.N_nil _ _ _ _ _ | exact Kd.V_nil _ _ _ _ _ | exact Kd.Q_nil _ _ _ _ _ | exact Kd.S_nil _ _ _ _ _⟩, ⟨by repeat (first | (with_reducible first | exact HI0.out | apply ia | apply iN | apply iD | apply i0 | apply i1) | exact HI0.out)⟩, ⟨by repeat (first | (with_reducible first | exact HK.out | apply kS | apply kN | apply kD | apply kA) | exact HK.out)⟩, ⟨by repeat (first | (with_reducible first | exact HB.out | apply ba | apply bN | apply bD | refine bS ?_ (IsS145.ge HI0.out)) | exact HB.out)⟩⟩
 case round =>
  clear H'
  try clear p2
  try clear c3
  obtain ⟨x8_1, x9_1, x1000_1, x1001_1, rfl, HA, HK1, HO_8, HI0, HK, HB⟩ := hrel
  cases gk with
  | zero => exact absurd HA.out (by simp [octet_Reader_List.l0])
  | succ k1 =>
   have H := HA.out
   clear HA
   simp only [octet_Reader_List.l0] at H
   by_cases c6 : x9_1 < t328
   rotate_left
   ·rw [if_neg c6] at H
    have c6b0 : decide (x9_1 < t328) = false := decide_eq_false c6
    clear c6
    obtain ⟨⟨t343, t344, t345⟩, A20, H⟩ := bm2 H
    try dsimp only at H
    by_cases c21 : t343 = 0
    ·rw [if_pos c21] at H
     have c21b0 : (t343 == 0) = true := beq_iff_eq.mpr c21
     have c21b1 : (t343 != 0) = false := bne_eq_false_iff_eq.mpr c21
     clear c21
     simp only [Option.some.injEq, Prod.mk.injEq] at H
     obtain ⟨rfl, rfl, rfl⟩ := H
     go_wp2_with (first | ((with_reducible refine gate_callee (f := 88) rfl ?_); refine gL (some 30) rfl Try.func88 #[.pointer (some ⟨g, 0, none⟩)] rfl ?_; (with_reducible refine (octet_Reader_Fail.calls g x1000_1 x1001_1 t343 t344 t345 w0 _ ?side1 ?side2 A20.out).mono ?_); (case side1 => repeat (first | (with_reducible first | exact HI0.out | apply ia | apply iN | apply iD | apply i0 | apply i1) | exact HI0.out)); (case side2 => repeat (first | (with_reducible first | exact HB.out | apply ba | apply bN | apply bD | refine bS ?_ (IsS145.ge HI0.out)) | exact HB.out)); rintro e w22 ⟨rfl, hi, hb, hk⟩; refine ⟨_, rfl, ?_⟩; have n0_ := Aside0.mk (Kd.R_mono (Kd.R_keep (IsS145.apart (show IsS145 w0 _ g x1000_1 x1001_1 from by repeat (first | (with_reducible first | exact HI0.out | apply ia | apply iN | apply iD | apply i0 | apply i1) | exact HI0.out)) (by (with_reducible repeat (first | apply Kd.R_alloc | apply Kd.R_drewN | apply Kd.R_drew)); exact HO_8.out) (by decide)) hk (fun _ h => h.2)) (fun _ h => h.1)); have n1_ := Aside0.mk (KeepBut.trans (by repeat (first | (with_reducible first | exact HK.out | apply kS | apply kN | apply kD | apply kA) | exact HK.out)) hk (.inl rfl)); have n2_ := Aside0.mk (hb); have n3_ := Aside0.mk (hi); clear HO_8; clear HK; clear HB; clear HI0; have HO_8 := n0_; have HK := n1_; have HB := n2_; have HI0 := n3_; clear n0_ n1_ n2_ n3_; (try clear hb); (try clear hk hi)))
     go_ret
     exact ⟨_, er, by (with_reducible repeat (first | apply Kd.R_alloc | apply Kd.R_drewN | apply Kd.R_drew)); exact HO_8.out, by repeat (first | (with_reducible first | exact HI0.out | apply ia | apply iN | apply iD | apply i0 | apply i1) | exact HI0.out), by repeat (first | (with_reducible first | exact HB.out | apply ba | apply bN | apply bD | refine bS ?_ (IsS145.ge HI0.out)) | exact HB.out), by repeat (first | (with_reducible first | exact HK.out | apply kS | apply kN | apply kD | apply kA) | exact HK.out)⟩
    rw [if_neg c21] at H
    have c21b0 : (t343 == 0) = false := beq_eq_false_iff_ne.mpr c21
    have c21b1 : (t343 != 0) = true := bne_iff_ne.mpr c21
    simp only [Option.some.injEq, Prod.mk.injEq] at H
    obtain ⟨rfl, rfl, rfl⟩ := H
    go_wp2_with (first | ((with_reducible refine gate_callee (f := 88) rfl ?_); refine gL (some 30) rfl Try.func88 #[.pointer (some ⟨g, 0, none⟩)] rfl ?_; (with_reducible refine (octet_Reader_Fail.calls g x1000_1 x1001_1 t343 t344 t345 w0 _ ?side1 ?side2 A20.out).mono ?_); (case side1 => repeat (first | (with_reducible first | exact HI0.out | apply ia | apply iN | apply iD | apply i0 | apply i1) | exact HI0.out)); (case side2 => repeat (first | (with_reducible first | exact HB.out | apply ba | apply bN | apply bD | refine bS ?_ (IsS145.ge HI0.out)) | exact HB.out)); rintro e w23 ⟨rfl, hi, hb, hk⟩; refine ⟨_, rfl, ?_⟩; have n0_ := Aside0.mk (Kd.R_mono (Kd.R_keep (IsS145.apart (show IsS145 w0 _ g x1000_1 x1001_1 from by repeat (first | (with_reducible first | exact HI0.out | apply ia | apply iN | apply iD | apply i0 | apply i1) | exact HI0.out)) (by (with_reducible repeat (first | apply Kd.R_alloc | apply Kd.R_drewN | apply Kd.R_drew)); exact HO_8.out) (by decide)) hk (fun _ h => h.2)) (fun _ h => h.1)); have n1_ := Aside0.mk (KeepBut.trans (by repeat (first | (with_reducible first | exact HK.out | apply kS | apply kN | apply kD | apply kA) | exact HK.out)) hk (.inl rfl)); have n2_ := Aside0.mk (hb); have n3_ := Aside0.mk (hi); clear HO_8; clear HK; clear HB; clear HI0; have HK := n1_; have HB := n2_; have HI0 := n3_; clear n0_ n1_ n2_ n3_; (try clear hb); (try clear hk hi)))
    go_ret
    exact ⟨_, er, by first | exact Kd.R_nil _ _ _ _ _ | exact Kd.N_nil _ _ _ _ _ | exact Kd.V_nil _ _ _ _ _ | exact Kd.Q_nil _ _ _ _ _ | exact Kd.S_nil _ _ _ _ _, by repeat (first | (with_reducible first | exact HI0.out | apply ia | apply iN | apply iD | apply i0 | apply i1) | exact HI0.out), by repeat (first | (with_reducible first | exact HB.out | apply ba | apply bN | apply bD | refine bS ?_ (IsS145.ge HI0.out)) | exact HB.out), by repeat (first | (with_reducible first | exact HK.out | apply kS | apply kN | apply kD | apply kA) | exact HK.out)⟩

   rw [if_pos c6] at H
   have c6b0 : decide (x9_1 < t328) = true := decide_eq_true c6
   clear c6
   obtain ⟨⟨t331, t332, t333⟩, A7, H⟩ := bm2 H
   try dsimp only at H
   by_cases c8 : t331 = 0
   ·rw [if_pos c8] at H
    have c8b0 : (t331 == 0) = true := beq_iff_eq.mpr c8
    have c8b1 : (t331 != 0) = false := bne_eq_false_iff_eq.mpr c8
    clear c8
    obtain ⟨⟨t334, t335, t336⟩, A9, H⟩ := bm2 H
    try dsimp only at H
    by_cases c10 : x8_1.length < 8796093022208
    rotate_left
    ·rw [if_neg c10] at H
     exact absurd H (by simp)
    rw [if_pos c10] at H
    have LMc10 := Aside0.mk c10
    clear c10
    obtain ⟨y337, hy337⟩ : ∃ y_ : List ByteArray, y_ = (x8_1 ++ [t334]) := ⟨_, rfl⟩
    replace H : (octet_Reader_List.l0 k1 a2 t328 y337 (wrap64 (x9_1 + 1)) t335 t336) = some (r1, r2, r3) := by first | (rw [hy337]; with_reducible exact H) | (have H2_ := (Option.bind_some _ _).symm.trans H; rw [hy337]; with_reducible exact H2_) | (have H2_ := (Option.bind_some _ _).symm.trans H; with_reducible exact H2_) | with_reducible exact H | (rw [hy337]; exact H) | exact H
    have Ny337 := Aside0.mk hy337
    clear hy337
    have H' := Aside0.mk H
    clear H
    go_wp2_with (first | (go_at_call 88; (with_reducible refine (octet_Reader_Fail.calls g x1000_1 x1001_1 t331 t332 t333 w0 _ ?side1 ?side2 A7.out).mono ?_); (case side1 => repeat (first | (with_reducible first | exact HI0.out | apply ia | apply iN | apply iD | apply i0 | apply i1) | exact HI0.out)); (case side2 => repeat (first | (with_reducible first | exact HB.out | apply ba | apply bN | apply bD | refine bS ?_ (IsS145.ge HI0.out)) | exact HB.out)); rintro e w11 ⟨rfl, hi, hb, hk⟩; have n0_ := Aside0.mk (Kd.R_mono (Kd.R_keep (IsS145.apart (show IsS145 w0 _ g x1000_1 x1001_1 from by repeat (first | (with_reducible first | exact HI0.out | apply ia | apply iN | apply iD | apply i0 | apply i1) | exact HI0.out)) (by (with_reducible repeat (first | apply Kd.R_alloc | apply Kd.R_drewN | apply Kd.R_drew)); exact HO_8.out) (by decide)) hk (fun _ h => h.2)) (fun _ h => h.1)); have n1_ := Aside0.mk (KeepBut.trans (by repeat (first | (with_reducible first | exact HK.out | apply kS | apply kN | apply kD | apply kA) | exact HK.out)) hk (.inl rfl)); have n2_ := Aside0.mk (hb); have n3_ := Aside0.mk (hi); clear HO_8; clear HK; clear HB; clear HI0; have HO_8 := n0_; have HK := n1_; have HB := n2_; have HI0 := n3_; clear n0_ n1_ n2_ n3_; (try clear hb); (try clear hk hi)) | ((with_reducible refine gate_callee (f := 76) rfl ?_); refine gL (some 26) rfl Try.func76 #[.pointer (some ⟨g, 0, none⟩), .int .i64 a2] rfl ?_; (with_reducible refine (octet_Reader_Text.calls g t332 t333 a2 t334 t335 t336 w0 _ ?side1 ?side2 A9.out).mono ?_); (case side1 => repeat (first | (with_reducible first | exact HI0.out | apply ia | apply iN | apply iD | apply i0 | apply i1) | exact HI0.out)); (case side2 => repeat (first | (with_reducible first | exact HB.out | apply ba | apply bN | apply bD | refine bS ?_ (IsS145.ge HI0.out)) | exact HB.out)); rintro e w12 ⟨rfl, hi, hb, hk⟩; refine ⟨_, rfl, ?_⟩; have n0_ := Aside0.mk (Kd.R_mono (Kd.R_keep (IsS145.apart (show IsS145 w0 _ g t332 t333 from by repeat (first | (with_reducible first | exact HI0.out | apply ia | apply iN | apply iD | apply i0 | apply i1) | exact HI0.out)) (by (with_reducible repeat (first | apply Kd.R_alloc | apply Kd.R_drewN | apply Kd.R_drew)); exact HO_8.out) (by decide)) hk (fun _ h => h.2)) (fun _ h => h.1)); have n1_ := Aside0.mk (KeepBut.trans (by repeat (first | (with_reducible first | exact HK.out | apply kS | apply kN | apply kD | apply kA) | exact HK.out)) hk (.inl rfl)); have n2_ := Aside0.mk (hb); have n3_ := Aside0.mk (hi); clear HO_8; clear HK; clear HB; clear HI0; have HO_8 := n0_; have HK := n1_; have HB := n2_; have HI0 := n3_; clear n0_ n1_ n2_ n3_; (try clear hb); (try clear hk hi)) | ((with_reducible refine gate_builtin (b := .append) (xs := #[.tmp 23, .tmp 27]) rfl ?_); at_builtin; refine Kd.R_append Kd.string w.heap.size rfl (.tmp 23) (.tmp 27) 62 9 (.string ⟨#[]⟩) 16 rfl Try.underlying62 info9 rfl (by decide) (by omega) u8 x8_1 t334 [.string t334] (fun _ => True) (fun _ => False) rfl rfl ?aP (fun _ hk => hk.elim) ?aF ?aO (Below.refl _ _) ?aS ?aL ?_; (case aP => exact rfl); (case aF => exact (fun _ _ => trivial)); (case aO => exact (by (with_reducible repeat (first | apply Kd.R_alloc | apply Kd.R_drewN | apply Kd.R_drew)); exact HO_8.out)); (case aS => exact (keep_size (w := w) (g := g) (row := none) (by repeat (first | (with_reducible first | exact HK.out | apply kS | apply kN | apply kD | apply kA) | exact HK.out)))); (case aL => have := LMc10.out; omega); intro v338 w13 ho hb hg hat; rw [← Ny337.out] at ho; have n0_ := Aside0.mk (IsS145.grown (by repeat (first | (with_reducible first | exact HI0.out | apply ia | apply iN | apply iD | apply i0 | apply i1) | exact HI0.out)) hg (IsS145.own_ne HI0.out HO_8.out (by decide))); have n1_ := Aside0.mk (below_weaken (by repeat (first | (with_reducible first | exact HB.out | apply ba | apply bN | apply bD | refine bS ?_ (IsS145.ge HI0.out)) | exact HB.out)) HL.out hb); have n2_ := Aside0.mk (KeepBut.trans (by repeat (first | (with_reducible first | exact HK.out | apply kS | apply kN | apply kD | apply kA) | exact HK.out)) (KeepBut.of_grown hg g) (Kd.R_base2 HO_8.out)); have n3_ := Aside0.mk (ho); clear HI0; clear HB; clear HK; clear HO_8; have HI0 := n0_; have HB := n1_; have HK := n2_; have HO339 := n3_; clear n0_ n1_ n2_ n3_; clear ho hb hg hat))
    go_roundg k1
    case measure => have := HK1.out; omega
    case rel => exact ⟨(y337), (wrap64 (x9_1 + 1)), (t335), (t336), (by first | rfl | (simp; done) | (simp [*]; done)), H', ⟨by have := HK1.out; omega⟩, ⟨by (with_reducible repeat (first | apply Kd.R_alloc | apply Kd.R_drewN | apply Kd.R_drew)); exact HO339.out⟩, ⟨by repeat (first | (with_reducible first | exact HI0.out | apply ia | apply iN | apply iD | apply i0 | apply i1) | exact HI0.out)⟩, ⟨by repeat (first | (with_reducible first | exact HK.out | apply kS | apply kN | apply kD | apply kA) | exact HK.out)⟩, ⟨by repeat (first | (with_reducible first | exact HB.out | apply ba | apply bN | apply bD | refine bS ?_ (IsS145.ge HI0.out)) | exact HB.out)⟩⟩
   rw [if_neg c8] at H
   have c8b0 : (t331 == 0) = false := beq_eq_false_iff_ne.mpr c8
   have c8b1 : (t331 != 0) = true := bne_iff_ne.mpr c8
   obtain ⟨⟨t340, t341, t342⟩, A14, H⟩ := bm2 H
   try dsimp only at H
   by_cases c15 : t340 = 0
   rotate_left
   ·rw [if_neg c15] at H
    have c15b0 : (t340 == 0) = false := beq_eq_false_iff_ne.mpr c15
    have c15b1 : (t340 != 0) = true := bne_iff_ne.mpr c15
    simp only [Option.some.injEq, Prod.mk.injEq] at H
    obtain ⟨rfl, rfl, rfl⟩ := H
    go_wp2_with (first | (go_at_call 88; (with_reducible refine (octet_Reader_Fail.calls g x1000_1 x1001_1 t331 t332 t333 w0 _ ?side1 ?side2 A7.out).mono ?_); (case side1 => repeat (first | (with_reducible first | exact HI0.out | apply ia | apply iN | apply iD | apply i0 | apply i1) | exact HI0.out)); (case side2 => repeat (first | (with_reducible first | exact HB.out | apply ba | apply bN | apply bD | refine bS ?_ (IsS145.ge HI0.out)) | exact HB.out)); rintro e w18 ⟨rfl, hi, hb, hk⟩; have n0_ := Aside0.mk (Kd.R_mono (Kd.R_keep (IsS145.apart (show IsS145 w0 _ g x1000_1 x1001_1 from by repeat (first | (with_reducible first | exact HI0.out | apply ia | apply iN | apply iD | apply i0 | apply i1) | exact HI0.out)) (by (with_reducible repeat (first | apply Kd.R_alloc | apply Kd.R_drewN | apply Kd.R_drew)); exact HO_8.out) (by decide)) hk (fun _ h => h.2)) (fun _ h => h.1)); have n1_ := Aside0.mk (KeepBut.trans (by repeat (first | (with_reducible first | exact HK.out | apply kS | apply kN | apply kD | apply kA) | exact HK.out)) hk (.inl rfl)); have n2_ := Aside0.mk (hb); have n3_ := Aside0.mk (hi); clear HO_8; clear HK; clear HB; clear HI0; have HO_8 := n0_; have HK := n1_; have HB := n2_; have HI0 := n3_; clear n0_ n1_ n2_ n3_; (try clear hb); (try clear hk hi)) | ((with_reducible refine gate_callee (f := 88) rfl ?_); refine gL (some 30) rfl Try.func88 #[.pointer (some ⟨g, 0, none⟩)] rfl ?_; (with_reducible refine (octet_Reader_Fail.calls g t332 t333 t340 t341 t342 w0 _ ?side1 ?side2 A14.out).mono ?_); (case side1 => repeat (first | (with_reducible first | exact HI0.out | apply ia | apply iN | apply iD | apply i0 | apply i1) | exact HI0.out)); (case side2 => repeat (first | (with_reducible first | exact HB.out | apply ba | apply bN | apply bD | refine bS ?_ (IsS145.ge HI0.out)) | exact HB.out)); rintro e w19 ⟨rfl, hi, hb, hk⟩; refine ⟨_, rfl, ?_⟩; have n0_ := Aside0.mk (Kd.R_mono (Kd.R_keep (IsS145.apart (show IsS145 w0 _ g t332 t333 from by repeat (first | (with_reducible first | exact HI0.out | apply ia | apply iN | apply iD | apply i0 | apply i1) | exact HI0.out)) (by (with_reducible repeat (first | apply Kd.R_alloc | apply Kd.R_drewN | apply Kd.R_drew)); exact HO_8.out) (by decide)) hk (fun _ h => h.2)) (fun _ h => h.1)); have n1_ := Aside0.mk (KeepBut.trans (by repeat (first | (with_reducible first | exact HK.out | apply kS | apply kN | apply kD | apply kA) | exact HK.out)) hk (.inl rfl)); have n2_ := Aside0.mk (hb); have n3_ := Aside0.mk (hi); clear HO_8; clear HK; clear HB; clear HI0; have HK := n1_; have HB := n2_; have HI0 := n3_; clear n0_ n1_ n2_ n3_; (try clear hb); (try clear hk hi)))
    go_ret
    exact ⟨_, er, by first | exact Kd.R_nil _ _ _ _ _ | exact Kd.N_nil _ _ _ _ _ | exact Kd.V_nil _ _ _ _ _ | exact Kd.Q_nil _ _ _ _ _ | exact Kd.S_nil _ _ _ _ _, by repeat (first | (with_reducible first | exact HI0.out | apply ia | apply iN | apply iD | apply i0 | apply i1) | exact HI0.out), by repeat (first | (with_reducible first | exact HB.out | apply ba | apply bN | apply bD | refine bS ?_ (IsS145.ge HI0.out)) | exact HB.out), by repeat (first | (with_reducible first | exact HK.out | apply kS | apply kN | apply kD | apply kA) | exact HK.out)⟩
   rw [if_pos c15] at H
   have c15b0 : (t340 == 0) = true := beq_iff_eq.mpr c15
   have c15b1 : (t340 != 0) = false := bne_eq_false_iff_eq.mpr c15
   clear c15
   simp only [Option.some.injEq, Prod.mk.injEq] at H
   obtain ⟨rfl, rfl, rfl⟩ := H
   go_wp2_with (first | (go_at_call 88; (with_reducible refine (octet_Reader_Fail.calls g x1000_1 x1001_1 t331 t332 t333 w0 _ ?side1 ?side2 A7.out).mono ?_); (case side1 => repeat (first | (with_reducible first | exact HI0.out | apply ia | apply iN | apply iD | apply i0 | apply i1) | exact HI0.out)); (case side2 => repeat (first | (with_reducible first | exact HB.out | apply ba | apply bN | apply bD | refine bS ?_ (IsS145.ge HI0.out)) | exact HB.out)); rintro e w16 ⟨rfl, hi, hb, hk⟩; have n0_ := Aside0.mk (Kd.R_mono (Kd.R_keep (IsS145.apart (show IsS145 w0 _ g x1000_1 x1001_1 from by repeat (first | (with_reducible first | exact HI0.out | apply ia | apply iN | apply iD | apply i0 | apply i1) | exact HI0.out)) (by (with_reducible repeat (first | apply Kd.R_alloc | apply Kd.R_drewN | apply Kd.R_drew)); exact HO_8.out) (by decide)) hk (fun _ h => h.2)) (fun _ h => h.1)); have n1_ := Aside0.mk (KeepBut.trans (by repeat (first | (with_reducible first | exact HK.out | apply kS | apply kN | apply kD | apply kA) | exact HK.out)) hk (.inl rfl)); have n2_ := Aside0.mk (hb); have n3_ := Aside0.mk (hi); clear HO_8; clear HK; clear HB; clear HI0; have HO_8 := n0_; have HK := n1_; have HB := n2_; have HI0 := n3_; clear n0_ n1_ n2_ n3_; (try clear hb); (try clear hk hi)) | ((with_reducible refine gate_callee (f := 88) rfl ?_); refine gL (some 30) rfl Try.func88 #[.pointer (some ⟨g, 0, none⟩)] rfl ?_; (with_reducible refine (octet_Reader_Fail.calls g t332 t333 t340 t341 t342 w0 _ ?side1 ?side2 A14.out).mono ?_); (case side1 => repeat (first | (with_reducible first | exact HI0.out | apply ia | apply iN | apply iD | apply i0 | apply i1) | exact HI0.out)); (case side2 => repeat (first | (with_reducible first | exact HB.out | apply ba | apply bN | apply bD | refine bS ?_ (IsS145.ge HI0.out)) | exact HB.out)); rintro e w17 ⟨rfl, hi, hb, hk⟩; refine ⟨_, rfl, ?_⟩; have n0_ := Aside0.mk (Kd.R_mono (Kd.R_keep (IsS145.apart (show IsS145 w0 _ g t332 t333 from by repeat (first | (with_reducible first | exact HI0.out | apply ia | apply iN | apply iD | apply i0 | apply i1) | exact HI0.out)) (by (with_reducible repeat (first | apply Kd.R_alloc | apply Kd.R_drewN | apply Kd.R_drew)); exact HO_8.out) (by decide)) hk (fun _ h => h.2)) (fun _ h => h.1)); have n1_ := Aside0.mk (KeepBut.trans (by repeat (first | (with_reducible first | exact HK.out | apply kS | apply kN | apply kD | apply kA) | exact HK.out)) hk (.inl rfl)); have n2_ := Aside0.mk (hb); have n3_ := Aside0.mk (hi); clear HO_8; clear HK; clear HB; clear HI0; have HO_8 := n0_; have HK := n1_; have HB := n2_; have HI0 := n3_; clear n0_ n1_ n2_ n3_; (try clear hb); (try clear hk hi)))
   go_ret
   exact ⟨_, er, by (with_reducible repeat (first | apply Kd.R_alloc | apply Kd.R_drewN | apply Kd.R_drew)); exact HO_8.out, by repeat (first | (with_reducible first | exact HI0.out | apply ia | apply iN | apply iD | apply i0 | apply i1) | exact HI0.out), by repeat (first | (with_reducible first | exact HB.out | apply ba | apply bN | apply bD | refine bS ?_ (IsS145.ge HI0.out)) | exact HB.out), by repeat (first | (with_reducible first | exact HK.out | apply kS | apply kN | apply kD | apply kA) | exact HK.out)⟩
def steepleref01_Num.f (a0 : Int) : Option (ByteArray) := if a0 < 0 then (some (⟨#[]⟩ : ByteArray)) else (if a0 > 2147483647 then (some (⟨#[]⟩ : ByteArray)) else (some (strOfNums (([(wrap64 (Int.tdiv a0 16777216)) % 256, (Int.tmod (wrap64 (Int.tdiv a0 65536)) 256) % 256, (Int.tmod (wrap64 (Int.tdiv a0 256)) 256) % 256, (Int.tmod a0 256) % 256] : List Int)))))
theorem steepleref01_Num.calls (a0 : Int) (r : ByteArray) (w : World) (h : steepleref01_Num.f a0 = some r) :
  Calls Try.prog 37 #[.int .i64 a0] w fun e w' => e = .returned (.string r) ∧ Below w.heap.size w w' := by
 have HB := Aside0.mk (Below.refl w.heap.size w)
 have H : (if a0 < 0 then (some (⟨#[]⟩ : ByteArray)) else (if a0 > 2147483647 then (some (⟨#[]⟩ : ByteArray)) else (some (strOfNums (([(wrap64 (Int.tdiv a0 16777216)) % 256, (Int.tmod (wrap64 (Int.tdiv a0 65536)) 256) % 256, (Int.tmod (wrap64 (Int.tdiv a0 256)) 256) % 256, (Int.tmod a0 256) % 256] : List Int)))))) = some r := h
 clear h
 by_cases c2 : a0 < 0
 ·rw [if_pos c2] at H
  have c2b0 : decide (a0 < 0) = true := decide_eq_true c2
  clear c2
  obtain rfl := Option.some.inj H
  go_enter Try.func37, Try.ntmps37
  go_wp2
  go_ret
  exact ⟨er, bq HB.out⟩
 rw [if_neg c2] at H
 have c2b0 : decide (a0 < 0) = false := decide_eq_false c2
 clear c2
 by_cases c3 : a0 > 2147483647
 ·rw [if_pos c3] at H
  have c3b0 : decide (2147483647 < a0) = true := decide_eq_true c3
  clear c3
  obtain rfl := Option.some.inj H
  go_enter Try.func37, Try.ntmps37
  go_wp2
  go_ret
  exact ⟨er, bq HB.out⟩
 rw [if_neg c3] at H
 have c3b0 : decide (2147483647 < a0) = false := decide_eq_false c3
 clear c3
 obtain ⟨y411, hy411⟩ : ∃ y_ : List Int, y_ = (([(wrap64 (Int.tdiv a0 16777216)) % 256, (Int.tmod (wrap64 (Int.tdiv a0 65536)) 256) % 256, (Int.tmod (wrap64 (Int.tdiv a0 256)) 256) % 256, (Int.tmod a0 256) % 256] : List Int)) := ⟨_, rfl⟩
 replace H : (some (strOfNums y411)) = some r := by first | (rw [hy411]; with_reducible exact H) | (have H2_ := (Option.bind_some _ _).symm.trans H; rw [hy411]; with_reducible exact H2_) | (have H2_ := (Option.bind_some _ _).symm.trans H; with_reducible exact H2_) | with_reducible exact H | (rw [hy411]; exact H) | exact H
 have Ny411 := Aside0.mk hy411
 clear hy411
 obtain rfl := Option.some.inj H
 go_enter Try.func37, Try.ntmps37
 go_wp2_with (first | ((with_reducible refine gate_dst (N := 23) rfl ?_); refine Kd.R_lit (Kd.int .u8) _ 5 ?hg (N := 23) ?hd (xs := ([(wrap64 (Int.tdiv a0 16777216)) % 256, (Int.tmod (wrap64 (Int.tdiv a0 65536)) 256) % 256, (Int.tmod (wrap64 (Int.tdiv a0 256)) 256) % 256, (Int.tmod a0 256) % 256] : List Int)) (inner := [.int .u8 ((wrap64 (Int.tdiv a0 16777216)) % 256), .int .u8 ((Int.tmod (wrap64 (Int.tdiv a0 65536)) 256) % 256), .int .u8 ((Int.tmod (wrap64 (Int.tdiv a0 256)) 256) % 256), .int .u8 ((Int.tmod a0 256) % 256)]) (ok := fun _ => True) (okp := fun _ => True) ?hr ?hp (fun _ hk => hk) trivial (Below.refl _ _) (Nat.le_refl _) (by simp) ?_; (case hd => rfl); (case hg => rfl); (case hr => go_simp <;> rfl); (case hp => exact (Reps.one (show Kd.M (Kd.int .u8) _ _ _ ((wrap64 (Int.tdiv a0 16777216)) % 256) [.int .u8 ((wrap64 (Int.tdiv a0 16777216)) % 256)] from rfl) (Reps.one (show Kd.M (Kd.int .u8) _ _ _ ((Int.tmod (wrap64 (Int.tdiv a0 65536)) 256) % 256) [.int .u8 ((Int.tmod (wrap64 (Int.tdiv a0 65536)) 256) % 256)] from rfl) (Reps.one (show Kd.M (Kd.int .u8) _ _ _ ((Int.tmod (wrap64 (Int.tdiv a0 256)) 256) % 256) [.int .u8 ((Int.tmod (wrap64 (Int.tdiv a0 256)) 256) % 256)] from rfl) (Reps.one (show Kd.M (Kd.int .u8) _ _ _ ((Int.tmod a0 256) % 256) [.int .u8 ((Int.tmod a0 256) % 256)] from rfl) (Reps.none _ _)))))); intro v412 w4 ho5 hb hg_ hnew_; clear hg_ hnew_; (first | rw [← Ny411.out] at ho5 | (simp only [Int.reduceToNat] at ho5; rw [← Ny411.out] at ho5)); have HO413 := kw ho5 HB; replace HB := bh HB hb; clear hb ho5; have hcv6 := own_string (P := Try.prog) Try.underlying84 Try.underlying5 Try.underlying9 (Kd.own_of_R HO413.out)))
 go_ret
 exact ⟨er, bq HB.out⟩

def steepleref01_Text.f (a0 : ByteArray) : Option (ByteArray) := (steepleref01_Num.f (a0.size : Int)).bind fun t414 => (if t414.size + a0.size ≤ 9223372036854775807 then (some (t414 ++ a0)) else (none))
theorem steepleref01_Text.calls (a0 : ByteArray) (r : ByteArray) (w : World) (h : steepleref01_Text.f a0 = some r) :
  Calls Try.prog 79 #[.string a0] w fun e w' => e = .returned (.string r) ∧ Below w.heap.size w w' := by
 have HB := Aside0.mk (Below.refl w.heap.size w)
 have H : ((steepleref01_Num.f (a0.size : Int)).bind fun t414 => (if t414.size + a0.size ≤ 9223372036854775807 then (some (t414 ++ a0)) else (none))) = some r := h
 clear h
 obtain ⟨t414, A2, H⟩ := bm2 H
 try dsimp only at H
 by_cases c3 : t414.size + a0.size ≤ 9223372036854775807
 rotate_left
 ·rw [if_neg c3] at H
  exact absurd H (by simp)

 rw [if_pos c3] at H
 have c3b0 := eq_true c3
 have c3b1 : decide (t414.size + a0.size ≤ 9223372036854775807) = true := decide_eq_true c3
 try have c3b2 : (9223372036854775807 < t414.size + a0.size) = False := eq_false (Nat.not_lt.2 c3)
 obtain rfl := Option.some.inj H
 go_enter Try.func79, Try.ntmps79
 go_wp2_with (first | ((with_reducible refine gate_callee (f := 37) rfl ?_); refine gL (some 5) rfl Try.func37 #[.int .i64 (a0.size : Int)] rfl ?_; (with_reducible refine (steepleref01_Num.calls (a0.size : Int) t414 _ A2.out).mono ?_); rintro e w4 ⟨rfl, hb⟩; refine ⟨_, rfl, ?_⟩; replace HB := bh HB hb; (try clear hb); (try clear hk hi)))
 go_ret
 exact ⟨er, bq HB.out⟩
def steepleref01_Wide.f (a0 : Int) : Option (Int) := (some (([1, 1, 1, 1, 2, 4, 8, 16] : List Int) : List Int)).bind fun y415 => (if a0 < 0 then (some 0) else (if a0 > 7 then (some 0) else (if 0 ≤ a0 then (if a0 < (y415.length : Int) then (some (rd y415 a0)) else (none)) else (none))))
theorem steepleref01_Wide.calls (a0 : Int) (r : Int) (w : World) (h : steepleref01_Wide.f a0 = some r) :
  Calls Try.prog 93 #[.int .i64 a0] w fun e w' => e = .returned (.int .i64 r) ∧ Below w.heap.size w w' := by
 have HB := Aside0.mk (Below.refl w.heap.size w)
 have H : ((some (([1, 1, 1, 1, 2, 4, 8, 16] : List Int) : List Int)).bind fun y415 => (if a0 < 0 then (some 0) else (if a0 > 7 then (some 0) else (if 0 ≤ a0 then (if a0 < (y415.length : Int) then (some (rd y415 a0)) else (none)) else (none))))) = some r := h
 clear h
 obtain ⟨y415, hy415⟩ : ∃ y_ : List Int, y_ = (([1, 1, 1, 1, 2, 4, 8, 16] : List Int)) := ⟨_, rfl⟩
 replace H : (if a0 < 0 then (some 0) else (if a0 > 7 then (some 0) else (if 0 ≤ a0 then (if a0 < (y415.length : Int) then (some (rd y415 a0)) else (none)) else (none)))) = some r := by first | (rw [hy415]; with_reducible exact H) | (have H2_ := (Option.bind_some _ _).symm.trans H; rw [hy415]; with_reducible exact H2_) | (have H2_ := (Option.bind_some _ _).symm.trans H; with_reducible exact H2_) | with_reducible exact H | (rw [hy415]; exact H) | exact H
 have Ny415 := Aside0.mk hy415
 clear hy415
 by_cases c2 : a0 < 0
 ·rw [if_pos c2] at H
  have c2b0 : decide (a0 < 0) = true := decide_eq_true c2
  clear c2
  obtain rfl := Option.some.inj H
  go_enter Try.func93, Try.ntmps93
  go_wp2_with (first | ((with_reducible refine gate_dst (N := 4) rfl ?_); refine Kd.R_lit (Kd.int .i64) _ 3 ?hg (N := 4) ?hd (xs := ([1, 1, 1, 1, 2, 4, 8, 16] : List Int)) (inner := [.int .i64 1, .int .i64 1, .int .i64 1, .int .i64 1, .int .i64 2, .int .i64 4, .int .i64 8, .int .i64 16]) (ok := fun _ => True) (okp := fun _ => True) ?hr ?hp (fun _ hk => hk) trivial (Below.refl _ _) (Nat.le_refl _) (by simp) ?_; (case hd => rfl); (case hg => rfl); (case hr => go_simp <;> rfl); (case hp => exact (Reps.one (show Kd.M (Kd.int .i64) _ _ _ 1 [.int .i64 1] from rfl) (Reps.one (show Kd.M (Kd.int .i64) _ _ _ 1 [.int .i64 1] from rfl) (Reps.one (show Kd.M (Kd.int .i64) _ _ _ 1 [.int .i64 1] from rfl) (Reps.one (show Kd.M (Kd.int .i64) _ _ _ 1 [.int .i64 1] from rfl) (Reps.one (show Kd.M (Kd.int .i64) _ _ _ 2 [.int .i64 2] from rfl) (Reps.one (show Kd.M (Kd.int .i64) _ _ _ 4 [.int .i64 4] from rfl) (Reps.one (show Kd.M (Kd.int .i64) _ _ _ 8 [.int .i64 8] from rfl) (Reps.one (show Kd.M (Kd.int .i64) _ _ _ 16 [.int .i64 16] from rfl) (Reps.none _ _)))))))))); intro v416 w3 ho4 hb hg_ hnew_; clear hg_ hnew_; (first | rw [← Ny415.out] at ho4 | (simp only [Int.reduceToNat] at ho4; rw [← Ny415.out] at ho4)); replace HB := bh HB hb; clear hb ho4))
  go_ret
  exact ⟨er, bq HB.out⟩
 rw [if_neg c2] at H
 have c2b0 : decide (a0 < 0) = false := decide_eq_false c2
 clear c2
 by_cases c5 : a0 > 7
 ·rw [if_pos c5] at H
  have c5b0 : decide (7 < a0) = true := decide_eq_true c5
  clear c5
  obtain rfl := Option.some.inj H
  go_enter Try.func93, Try.ntmps93
  go_wp2_with (first | ((with_reducible refine gate_dst (N := 4) rfl ?_); refine Kd.R_lit (Kd.int .i64) _ 3 ?hg (N := 4) ?hd (xs := ([1, 1, 1, 1, 2, 4, 8, 16] : List Int)) (inner := [.int .i64 1, .int .i64 1, .int .i64 1, .int .i64 1, .int .i64 2, .int .i64 4, .int .i64 8, .int .i64 16]) (ok := fun _ => True) (okp := fun _ => True) ?hr ?hp (fun _ hk => hk) trivial (Below.refl _ _) (Nat.le_refl _) (by simp) ?_; (case hd => rfl); (case hg => rfl); (case hr => go_simp <;> rfl); (case hp => exact (Reps.one (show Kd.M (Kd.int .i64) _ _ _ 1 [.int .i64 1] from rfl) (Reps.one (show Kd.M (Kd.int .i64) _ _ _ 1 [.int .i64 1] from rfl) (Reps.one (show Kd.M (Kd.int .i64) _ _ _ 1 [.int .i64 1] from rfl) (Reps.one (show Kd.M (Kd.int .i64) _ _ _ 1 [.int .i64 1] from rfl) (Reps.one (show Kd.M (Kd.int .i64) _ _ _ 2 [.int .i64 2] from rfl) (Reps.one (show Kd.M (Kd.int .i64) _ _ _ 4 [.int .i64 4] from rfl) (Reps.one (show Kd.M (Kd.int .i64) _ _ _ 8 [.int .i64 8] from rfl) (Reps.one (show Kd.M (Kd.int .i64) _ _ _ 16 [.int .i64 16] from rfl) (Reps.none _ _)))))))))); intro v416 w6 ho7 hb hg_ hnew_; clear hg_ hnew_; (first | rw [← Ny415.out] at ho7 | (simp only [Int.reduceToNat] at ho7; rw [← Ny415.out] at ho7)); replace HB := bh HB hb; clear hb ho7))
  go_ret
  exact ⟨er, bq HB.out⟩
 rw [if_neg c5] at H
 have c5b0 : decide (7 < a0) = false := decide_eq_false c5
 clear c5
 by_cases c8 : 0 ≤ a0
 rotate_left
 ·rw [if_neg c8] at H
  exact absurd H (by simp)

 rw [if_pos c8] at H
 have c8b0 : decide (0 ≤ a0) = true := decide_eq_true c8
 clear c8
 by_cases c9 : a0 < (y415.length : Int)
 rotate_left
 ·rw [if_neg c9] at H
  exact absurd H (by simp)
 rw [if_pos c9] at H
 have c9b0 : decide (a0 < (y415.length : Int)) = true := decide_eq_true c9
 clear c9
 obtain rfl := Option.some.inj H
 go_enter Try.func93, Try.ntmps93
 go_wp2_with (first | ((with_reducible refine gate_dst (N := 4) rfl ?_); refine Kd.R_lit (Kd.int .i64) _ 3 ?hg (N := 4) ?hd (xs := ([1, 1, 1, 1, 2, 4, 8, 16] : List Int)) (inner := [.int .i64 1, .int .i64 1, .int .i64 1, .int .i64 1, .int .i64 2, .int .i64 4, .int .i64 8, .int .i64 16]) (ok := fun _ => True) (okp := fun _ => True) ?hr ?hp (fun _ hk => hk) trivial (Below.refl _ _) (Nat.le_refl _) (by simp) ?_; (case hd => rfl); (case hg => rfl); (case hr => go_simp <;> rfl); (case hp => exact (Reps.one (show Kd.M (Kd.int .i64) _ _ _ 1 [.int .i64 1] from rfl) (Reps.one (show Kd.M (Kd.int .i64) _ _ _ 1 [.int .i64 1] from rfl) (Reps.one (show Kd.M (Kd.int .i64) _ _ _ 1 [.int .i64 1] from rfl) (Reps.one (show Kd.M (Kd.int .i64) _ _ _ 1 [.int .i64 1] from rfl) (Reps.one (show Kd.M (Kd.int .i64) _ _ _ 2 [.int .i64 2] from rfl) (Reps.one (show Kd.M (Kd.int .i64) _ _ _ 4 [.int .i64 4] from rfl) (Reps.one (show Kd.M (Kd.int .i64) _ _ _ 8 [.int .i64 8] from rfl) (Reps.one (show Kd.M (Kd.int .i64) _ _ _ 16 [.int .i64 16] from rfl) (Reps.none _ _)))))))))); intro v416 w10 ho11 hb hg_ hnew_; clear hg_ hnew_; (first | rw [← Ny415.out] at ho11 | (simp only [Int.reduceToNat] at ho11; rw [← Ny415.out] at ho11)); have HO417 := kw ho11 HB; replace HB := bh HB hb; clear hb ho11; obtain ⟨Ao12, co12, eo12⟩ := Kd.R_slice HO417.out; subst eo12; have p418 : 0 ≤ (a0 : Int) := dt; have q418 : a0 < (y415.length : Int) := dt; obtain ⟨ad418, e418, hx418_0⟩ := Kd.at_int (Kd.R_reads' HO417.out).2.2 a0 p418 q418; cases e418; replace p418 := eq_true p418; replace q418 := eq_true q418))
 go_ret
 exact ⟨er, bq HB.out⟩
mutual
def steepleref01_Bytes.l0 : Nat → Int → List Int → Int → Int → Int → Option (ByteArray)
 | 0, _, _, _, _, _ => none
 | k + 1, x0, x5, x6, x420000, x420001 => (steepleref01_Wide.f x0).bind fun t421 => (if x6 < t421 then (steepleref01_Bytes.l1 k x0 x5 x6 0 7 x420000 x420001) else (some (strOfNums x5)))
def steepleref01_Bytes.l1 : Nat → Int → List Int → Int → Int → Int → Int → Int → Option (ByteArray)
 | 0, _, _, _, _, _, _, _ => none
 | k + 1, x0, x5, x6, x7, x8, x420000, x420001 => if x8 ≥ 0 then ((steepleref01_bit.f x420000 x420001 (wrap64 ((wrap64 (8 * x6)) + x8))).bind fun t422 => (steepleref01_Bytes.l1 k x0 x5 x6 (wrap64 ((wrap64 (2 * x7)) + (wrap64 (t422)))) (wrap64 (x8 - 1)) x420000 x420001)) else (if x5.length < 140737488355328 then (steepleref01_Bytes.l0 k x0 (x5 ++ [(x7) % 256]) (wrap64 (x6 + 1)) x420000 x420001) else (none))
end
def steepleref01_Bytes.f (k : Nat) (a0 : Int) (a1_0 : Int) (a1_1 : Int) : Option (ByteArray) := (steepleref01_Of.f k a0 a1_0 a1_1).bind fun t420 => (if t420 = true then (steepleref01_Bytes.l0 k a0 ([] : List Int) 0 a1_0 a1_1) else (some (⟨#[]⟩ : ByteArray)))
theorem steepleref01_Bytes.calls (k : Nat) (a0 : Int) (a1_0 : Int) (a1_1 : Int) (r : ByteArray) (w : World) (h : steepleref01_Bytes.f k a0 a1_0 a1_1 = some r) :
  Calls Try.prog 49 #[.int .i64 a0, .agg #[.int .u64 a1_0, .int .u64 a1_1]] w fun e w' => e = .returned (.string r) ∧ Below w.heap.size w w' := by
 have hu70 := Try.underlying70
 have HB := Aside0.mk (Below.refl w.heap.size w)
 have H : ((steepleref01_Of.f k a0 a1_0 a1_1).bind fun t420 => (if t420 = true then (steepleref01_Bytes.l0 k a0 ([] : List Int) 0 a1_0 a1_1) else (some (⟨#[]⟩ : ByteArray)))) = some r := h
 clear h
 obtain ⟨t420, A3, H⟩ := bm2 H
 try dsimp only at H
 by_cases c4 : t420 = true
 rotate_left
 ·replace c4 := Bool.eq_false_iff.mpr c4
  subst c4
  have H1 : (some (⟨#[]⟩ : ByteArray)) = some r := by rw [if_neg (show ¬ (false = true) by decide)] at H; exact H
  clear H
  have H := H1
  clear H1
  obtain rfl := Option.some.inj H
  go_enter Try.func49, Try.ntmps49
  go_wp2_with (first | ((with_reducible refine gate_dst (N := 3) rfl ?_); refine box_event ?hg (N := 3) ?hd (cs := #[.int .u64 a1_0, .int .u64 a1_1]) (t := 70) ?hr ?_; (case hd => rfl); (case hg => rfl); (case hr => go_simp <;> rfl); intro gb419 hg w19 hbox hb; have BK419 := Aside0.mk hbox; have GW419 := ge hg HB; have GE419 := ge hg HB; replace HB := bh HB hb; clear hb hbox hg; obtain ⟨hcz20_0, hcz20_1⟩ := zc2 BK419; obtain ⟨hfz20_0, hfz20_1⟩ := zf2 BK419) | ((with_reducible refine gate_callee (f := 92) rfl ?_); refine gL (some 11) rfl Try.func92 #[.int .i64 a0, .agg #[.int .u64 a1_0, .int .u64 a1_1]] rfl ?_; (with_reducible refine (steepleref01_Of.calls k a0 a1_0 a1_1 false _ A3.out).mono ?_); rintro e w21 ⟨rfl, hb⟩; refine ⟨_, rfl, ?_⟩; replace HB := bh HB hb; (try clear hb); (try clear hk hi)))
  go_ret
  exact ⟨er, bq HB.out⟩

 subst c4
 have H1 : (steepleref01_Bytes.l0 k a0 ([] : List Int) 0 a1_0 a1_1) = some r := by rw [if_pos rfl] at H; exact H
 clear H
 have H := H1
 clear H1
 have H' := Aside0.mk H
 clear H
 go_enter Try.func49, Try.ntmps49
 go_wp2_with (first | ((with_reducible refine gate_dst (N := 3) rfl ?_); refine box_event ?hg (N := 3) ?hd (cs := #[.int .u64 a1_0, .int .u64 a1_1]) (t := 70) ?hr ?_; (case hd => rfl); (case hg => rfl); (case hr => go_simp <;> rfl); intro gb419 hg w5 hbox hb; have BK419 := Aside0.mk hbox; have GW419 := ge hg HB; have GE419 := ge hg HB; replace HB := bh HB hb; clear hb hbox hg; obtain ⟨hcz6_0, hcz6_1⟩ := zc2 BK419; obtain ⟨hfz6_0, hfz6_1⟩ := zf2 BK419) | ((with_reducible refine gate_callee (f := 92) rfl ?_); refine gL (some 11) rfl Try.func92 #[.int .i64 a0, .agg #[.int .u64 a1_0, .int .u64 a1_1]] rfl ?_; (with_reducible refine (steepleref01_Of.calls k a0 a1_0 a1_1 true _ A3.out).mono ?_); rintro e w7 ⟨rfl, hb⟩; refine ⟨_, rfl, ?_⟩; replace BK419 := bb BK419 hb; replace HB := bh HB hb; (try clear hb); (try clear hk hi)))
 go_loopg [5, 6] k (fun kq v5 v6 w' => ∃ (x5_1 : List Int) (x6_1 : Int), v6 = .int .i64 x6_1 ∧ Aside0 (steepleref01_Bytes.l0 kq a0 x5_1 x6_1 a1_0 a1_1 = some r) ∧ Aside0 (kq ≤ k) ∧ Aside0 (Kd.R (Kd.int .u8) 5 w' w.heap.size (fun _ => True) v5 x5_1) ∧ Aside0 (w'.heap[gb419]? = some (.cells #[.int .u64 a1_0, .int .u64 a1_1] 70 (0, 0))) ∧ Aside0 (Below w.heap.size w w'))
 case atStart => exact ⟨(([] : List Int)), (0), (by first | rfl | (simp; done) | (simp [*]; done)), H', ⟨Nat.le_refl _⟩, ⟨by first | exact Kd.R_nil _ _ _ _ _ | exact Kd.N_nil _ _ _ _ _ | exact Kd.V_nil _ _ _ _ _ | exact Kd.Q_nil _ _ _ _ _ | exact Kd.S_nil _ _ _ _ _⟩, ⟨bk BK419.out⟩, ⟨bq HB.out⟩⟩
 case round =>
  clear H'
  try clear p2
  try clear c4
  try clear hcz6_0 hcz6_1
  try clear hfz6_0 hfz6_1
  obtain ⟨x5_1, x6_1, rfl, HA, HK1, HO_5, BK419, HB⟩ := hrel
  cases gk with
  | zero => exact absurd HA.out (by simp [steepleref01_Bytes.l0])
  | succ k1 =>
   have H := HA.out
   clear HA
   simp only [steepleref01_Bytes.l0] at H
   obtain ⟨t421, A8, H⟩ := bm2 H
   try dsimp only at H
   by_cases c9 : x6_1 < t421
   rotate_left
   ·rw [if_neg c9] at H
    have c9b0 : decide (x6_1 < t421) = false := decide_eq_false c9
    clear c9
    obtain rfl := Option.some.inj H
    go_wp2_with (first | ((with_reducible refine gate_callee (f := 93) rfl ?_); refine gL (some 15) rfl Try.func93 #[.int .i64 a0] rfl ?_; (with_reducible refine (steepleref01_Wide.calls a0 t421 _ A8.out).mono ?_); rintro e w17 ⟨rfl, hb⟩; refine ⟨_, rfl, ?_⟩; replace HO_5 := kb HO_5 hb; replace HB := bh HB hb; (try clear hb); (try clear hk hi); have hcv18 := own_string (P := Try.prog) Try.underlying84 Try.underlying5 Try.underlying9 (Kd.own_of_R HO_5.out)))
    go_ret
    exact ⟨er, bq HB.out⟩
   rw [if_pos c9] at H
   have c9b0 : decide (x6_1 < t421) = true := decide_eq_true c9
   clear c9
   have H' := Aside0.mk H
   clear H
   go_wp2_with (first | ((with_reducible refine gate_callee (f := 93) rfl ?_); refine gL (some 15) rfl Try.func93 #[.int .i64 a0] rfl ?_; (with_reducible refine (steepleref01_Wide.calls a0 t421 _ A8.out).mono ?_); rintro e w10 ⟨rfl, hb⟩; refine ⟨_, rfl, ?_⟩; replace HO_5 := kb HO_5 hb; replace BK419 := bb BK419 hb; replace HB := bh HB hb; (try clear hb); (try clear hk hi)))
   go_loopg [7, 8] k1 (fun kq v7 v8 w' => ∃ (x7_2 : Int) (x8_2 : Int), v7 = .int .i64 x7_2 ∧ v8 = .int .i64 x8_2 ∧ Aside0 (steepleref01_Bytes.l1 kq a0 x5_1 x6_1 x7_2 x8_2 a1_0 a1_1 = some r) ∧ Aside0 (kq ≤ k1) ∧ Aside0 (Kd.R (Kd.int .u8) 5 w' w.heap.size (fun _ => True) u5 x5_1) ∧ Aside0 (w'.heap[gb419]? = some (.cells #[.int .u64 a1_0, .int .u64 a1_1] 70 (0, 0))) ∧ Aside0 (Below w.heap.size w w'))
   case atStart => exact ⟨(0), (7), (by first | rfl | (simp; done) | (simp [*]; done)), (by first | rfl | (simp; done) | (simp [*]; done)), H', ⟨Nat.le_refl _⟩, ⟨kr HO_5.out⟩, ⟨bk BK419.out⟩, ⟨bq HB.out⟩⟩
   case round =>
    clear H'
    try clear p2
    try clear c4
    try clear c9
    try clear c9b0
    try clear hcz6_0 hcz6_1
    try clear hfz6_0 hfz6_1
    try clear p2
    obtain ⟨x7_2, x8_2, rfl, rfl, HA, HK2, HO_5, BK419, HB⟩ := hrel
    cases gk with
    | zero => exact absurd HA.out (by simp [steepleref01_Bytes.l1])
    | succ k2 =>
     have H := HA.out
     clear HA
     simp only [steepleref01_Bytes.l1] at H
     by_cases c11 : x8_2 ≥ 0
     ·rw [if_pos c11] at H
      have c11b0 : decide (0 ≤ x8_2) = true := decide_eq_true c11
      clear c11
      obtain ⟨t422, A12, H⟩ := bm2 H
      try dsimp only at H
      have H' := Aside0.mk H
      clear H
      obtain ⟨hcz13_0, hcz13_1⟩ := zc2 BK419
      obtain ⟨hfz13_0, hfz13_1⟩ := zf2 BK419
      go_wp2_with (first | ((with_reducible refine gate_callee (f := 94) rfl ?_); refine gL (some 30) rfl Try.func94 #[.agg #[.int .u64 a1_0, .int .u64 a1_1], .int .i64 (wrap64 ((wrap64 (8 * x6_1)) + x8_2))] rfl ?_; (with_reducible refine (steepleref01_bit.calls a1_0 a1_1 (wrap64 ((wrap64 (8 * x6_1)) + x8_2)) t422 _ A12.out).mono ?_); rintro e w14 ⟨rfl, hb⟩; refine ⟨_, rfl, ?_⟩; replace HO_5 := kb HO_5 hb; replace BK419 := bb BK419 hb; replace HB := bh HB hb; (try clear hb); (try clear hk hi)))
      go_roundg k2
      case measure => have := HK1.out; have := HK2.out; omega
      case rel => exact ⟨(wrap64 ((wrap64 (2 * x7_2)) + (wrap64 (t422)))), (wrap64 (x8_2 - 1)), (by first | rfl | (simp; done) | (simp [*]; done)), (by first | rfl | (simp; done) | (simp [*]; done)), H', ⟨by have := HK1.out; have := HK2.out; omega⟩, ⟨kr HO_5.out⟩, ⟨bk BK419.out⟩, ⟨bq HB.out⟩⟩
     rw [if_neg c11] at H
     have c11b0 : decide (0 ≤ x8_2) = false := decide_eq_false c11
     clear c11
     by_cases c15 : x5_1.length < 140737488355328
     rotate_left
     ·rw [if_neg c15] at H
      exact absurd H (by simp)
     rw [if_pos c15] at H
     have LMc15 := Aside0.mk c15
     clear c15
     obtain ⟨y423, hy423⟩ : ∃ y_ : List Int, y_ = (x5_1 ++ [(x7_2) % 256]) := ⟨_, rfl⟩
     replace H : (steepleref01_Bytes.l0 k2 a0 y423 (wrap64 (x6_1 + 1)) a1_0 a1_1) = some r := by first | (rw [hy423]; with_reducible exact H) | (have H2_ := (Option.bind_some _ _).symm.trans H; rw [hy423]; with_reducible exact H2_) | (have H2_ := (Option.bind_some _ _).symm.trans H; with_reducible exact H2_) | with_reducible exact H | (rw [hy423]; exact H) | exact H
     have Ny423 := Aside0.mk hy423
     clear hy423
     have H' := Aside0.mk H
     clear H
     go_wp2_with (first | ((with_reducible refine gate_builtin (b := .append) (xs := #[.tmp 33, .tmp 36]) rfl ?_); at_builtin; refine Kd.R_append (Kd.int .u8) (w0 := w) w.heap.size rfl (.tmp 33) (.tmp 36) 84 5 (.int .u8 0) 1 rfl Try.underlying84 info5 rfl (by decide) (by omega) u5 x5_1 ((x7_2) % 256) [.int .u8 ((x7_2) % 256)] (fun _ => True) (fun _ => False) rfl rfl ?aP (fun _ hk => hk.elim) ?aF ?aO ?aB ?aS ?aL ?_; (case aP => exact rfl); (case aB => exact (bq HB.out)); (case aF => exact (fun _ _ => trivial)); (case aO => exact (kr HO_5.out)); (case aS => exact (below_size (bq HB.out))); (case aL => have := LMc15.out; omega); intro v424 w16 ho hb hg hat; rw [← Ny423.out] at ho; have HO425 := Aside0.mk ho; replace BK419 := Aside0.mk (blk_grown (g := gb419) (o := .cells #[.int .u64 a1_0, .int .u64 a1_1] 70 (0, 0)) (bk BK419.out) hg (Kd.R_ne HO_5.out BK419.out (by decide))); replace HB := Aside0.mk hb; clear HO_5; clear ho hb hg hat))
     go_roundg k2
     case measure => have := HK1.out; have := HK2.out; omega
     case rel => exact ⟨(y423), (wrap64 (x6_1 + 1)), (by first | rfl | (simp; done) | (simp [*]; done)), H', ⟨by have := HK1.out; have := HK2.out; omega⟩, ⟨kr HO425.out⟩, ⟨bk BK419.out⟩, ⟨bq HB.out⟩⟩
end Go.Proofs.Ythgiifakcgjlaaa.P
