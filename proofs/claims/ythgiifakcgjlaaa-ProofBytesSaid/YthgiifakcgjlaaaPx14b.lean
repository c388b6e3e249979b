/- Functions that the law reaches, as Lean functions. Conditions: those that each theorem names. -/
import Derived.Test.YthgiifakcgjlaaaPx0
import Derived.Test.YthgiifakcgjlaaaX2
import Derived.Test.YthgiifakcgjlaaaHBox
import Derived.Test.YthgiifakcgjlaaaPx5
import Derived.Test.YthgiifakcgjlaaaPx7
import Derived.Test.YthgiifakcgjlaaaPx13
namespace Go.Proofs.Ythgiifakcgjlaaa.P
open Go.RowKit YthgiifakcgjlaaaX YthgiifakcgjlaaaW.PrintWords YthgiifakcgjlaaaW.PrintLast YthgiifakcgjlaaaW.PrintMore
attribute [local go_sem] max2_int min2_int max_two min_two max_three min_three max_four min_four
set_option linter.unusedVariables false
set_option linter.unusedSimpArgs false

def api_Elem_77.l0 : Nat → Int → List (List (S61)) → Int → Int → ByteArray → Int → Option ((List (List (S61))) × ByteArray × Int)
 | 0, _, _, _, _, _, _ => none
 | k + 1, x1, x5, x8, x9, x1000, x1001 => if x9 < x8 then ((proof_ReadProof_1.f k x1000 x1001 x1).bind fun bt317 => ((octet_Reader_Fail.f bt317.2.1 bt317.2.2).bind fun bt322 => (if bt322.1 = 0 then (if x5.length < 5864062014805 then (api_Elem_77.l0 k x1 (x5 ++ [bt317.1]) x8 (wrap64 (x9 + 1)) bt322.2.1 bt322.2.2) else (none)) else (some (([] : List (List (S61))), bt322.2.1, bt322.2.2))))) else (some (x5, x1000, x1001))
def api_Elem_77.f (k : Nat) (s0_0 : ByteArray) (s0_1 : Int) (a1 : Int) : Option ((List (List (S61))) × ByteArray × Int) := (octet_Reader_Num.f s0_0 s0_1 4096).bind fun bt314 => (api_Elem_77.l0 k a1 ([] : List (List (S61))) bt314.1 0 bt314.2.1 bt314.2.2)
set_option maxHeartbeats 8000000 in
set_option maxRecDepth 100000 in
theorem api_Elem_77.calls (k : Nat) (g : Nat) (s0_0 : ByteArray) (s0_1 : Int) (a1 : Int) (r1 : List (List (S61))) (r2 : ByteArray) (r3 : Int) (w0 w : World) (gb gl : Nat) (hX : Boxed w gb g) (hY : BoxedI w gl g a1) (hI : IsS145 w0 w g s0_0 s0_1) (hB : Below w0.heap.size w0 w) (h : api_Elem_77.f k s0_0 s0_1 a1 = some (r1, r2, r3)) :
  Calls Try.prog 77 #[.pointer (some ⟨g, 0, none⟩), .func (.func 73) #[] #[.pointer (some ⟨gb, 0, none⟩), .pointer (some ⟨gl, 0, none⟩)]] w fun e w' => ∃ v0_ : Value, e = .returned (v0_) ∧ Kd.S (Kd.slice 61 k61) 58 w' w.heap.size (fun _ => True) v0_ r1 ∧ IsS145 w0 w' g r2 r3 ∧ Below w0.heap.size w0 w' ∧ KeepBut w w' g none := by
 have HX0 := Aside0.mk hX
 have hcX := hX.cell
 clear hX
 have HY0 := Aside0.mk hY
 have hcY := hY.cell
 clear hY
 have HI0 := Aside0.mk hI
 have HK := Aside0.mk (KeepBut.refl w g none)
 have HL := Aside0.mk hB.size
 clear hI
 have HW0 := Aside0.mk hB.size
 have HB := Aside0.mk hB
 clear hB
 have H : ((octet_Reader_Num.f s0_0 s0_1 4096).bind fun bt314 => (api_Elem_77.l0 k a1 ([] : List (List (S61))) bt314.1 0 bt314.2.1 bt314.2.2)) = some (r1, r2, r3) := h
 clear h
 obtain ⟨⟨t314, t315, t316⟩, A3, H⟩ := bm2 H
 try dsimp only at H
 have H' := Aside0.mk H
 clear H
 go_enter Try.func77, Try.ntmps77
 go_wp2_with (first | ((with_reducible refine gate_callee (f := 35) rfl ?_); refine gL (some 8) rfl Try.func35 #[.pointer (some ⟨g, 0, none⟩), .int .i64 4096] rfl ?_; (with_reducible refine (octet_Reader_Num.calls g s0_0 s0_1 4096 t314 t315 t316 w0 _ ?side1 ?side2 A3.out).mono ?_); (case side1 => repeat (first | (with_reducible first | exact HI0.out | apply ia | apply iN | apply iD | apply i0 | apply i1) | exact HI0.out)); (case side2 => repeat (first | (with_reducible first | exact HB.out | apply ba | apply bN | apply bD | refine bS ?_ (IsS145.ge HI0.out)) | exact HB.out)); rintro e w4 ⟨rfl, hi, hb, hk⟩; refine ⟨_, rfl, ?_⟩; have n0_ := Aside0.mk (KeepBut.trans (by repeat (first | (with_reducible first | exact HK.out | apply kS | apply kN | apply kD | apply kA) | exact HK.out)) hk (.inl rfl)); have n1_ := Aside0.mk (hb); have n2_ := Aside0.mk (hi); clear HK; clear HB; clear HI0; have HK := n0_; have HB := n1_; have HI0 := n2_; clear n0_ n1_ n2_; (try clear hb); (try clear hk hi)))
 go_loopg [5, 9] k (fun kq v5 v9 w' => ∃ (x5_1 : List (List (S61))) (x9_1 : Int) (x1000_1 : ByteArray) (x1001_1 : Int), v9 = .int .i64 x9_1 ∧ Aside0 (api_Elem_77.l0 kq a1 x5_1 t314 x9_1 x1000_1 x1001_1 = some (r1, r2, r3)) ∧ Aside0 (kq ≤ k) ∧ Aside0 (Kd.S (Kd.slice 61 k61) 58 w' w.heap.size (fun _ => True) v5 x5_1) ∧ Aside0 (IsS145 w0 w' g x1000_1 x1001_1) ∧ Aside0 (KeepBut w w' g none) ∧ Aside0 (Below w0.heap.size w0 w'))
 case atStart => exact ⟨(([] : List (List (S61)))), (0), (t315), (t316), (by first | rfl | (simp; done) | (simp [*]; done)), H', ⟨Nat.le_refl _⟩, ⟨by first | exact Kd.S_nil _ _ _ _ _ | exact Kd.N_nil _ _ _ _ _ | exact Kd.V_nil _ _ _ _ _ | exact Kd.Q_nil _ _ _ _ _ | exact Kd.R_nil _ _ _ _ _⟩, ⟨by repeat (first | (with_reducible first | exact HI0.out | apply ia | apply iN | apply iD | apply i0 | apply i1) | exact HI0.out)⟩, ⟨by repeat (first | (with_reducible first | exact HK.out | apply kS | apply kN | apply kD | apply kA) | exact HK.out)⟩, ⟨by repeat (first | (with_reducible first | exact HB.out | apply ba | apply bN | apply bD | refine bS ?_ (IsS145.ge HI0.out)) | exact HB.out)⟩⟩
 case round =>
  clear H'
  try clear p2
  try clear c3
  obtain ⟨x5_1, x9_1, x1000_1, x1001_1, rfl, HA, HK1, HO_5, HI0, HK, HB⟩ := hrel
  cases gk with
  | zero => exact absurd HA.out (by simp [api_Elem_77.l0])
  | succ k1 =>
   have H := HA.out
   clear HA
   simp only [api_Elem_77.l0] at H
   by_cases c5 : x9_1 < t314
   rotate_left
   ·rw [if_neg c5] at H
    have c5b0 : decide (x9_1 < t314) = false := decide_eq_false c5
    clear c5
    simp only [Option.some.injEq, Prod.mk.injEq] at H
    obtain ⟨rfl, rfl, rfl⟩ := H
    go_wp2
    go_ret
    exact ⟨_, er, by (with_reducible repeat (first | apply Kd.S_alloc | apply Kd.S_drewN | apply Kd.S_drew)); exact HO_5.out, by repeat (first | (with_reducible first | exact HI0.out | apply ia | apply iN | apply iD | apply i0 | apply i1) | exact HI0.out), by repeat (first | (with_reducible first | exact HB.out | apply ba | apply bN | apply bD | refine bS ?_ (IsS145.ge HI0.out)) | exact HB.out), by repeat (first | (with_reducible first | exact HK.out | apply kS | apply kN | apply kD | apply kA) | exact HK.out)⟩

   rw [if_pos c5] at H
   have c5b0 : decide (x9_1 < t314) = true := decide_eq_true c5
   clear c5
   obtain ⟨⟨t317, t320, t321⟩, A6, H⟩ := bm2 H
   try dsimp only at H
   obtain ⟨⟨t322, t323, t324⟩, A7, H⟩ := bm2 H
   try dsimp only at H
   by_cases c8 : t322 = 0
   rotate_left
   ·rw [if_neg c8] at H
    have c8b0 : (t322 == 0) = false := beq_eq_false_iff_ne.mpr c8
    have c8b1 : (t322 != 0) = true := bne_iff_ne.mpr c8
    simp only [Option.some.injEq, Prod.mk.injEq] at H
    obtain ⟨rfl, rfl, rfl⟩ := H
    go_wp2_with (first | (go_at_call 73; (with_reducible refine (proof_ReadProof_1.calls k1 g x1000_1 x1001_1 a1 t317 t320 t321 w0 _ (gb := gb) (gl := gl) (hX := ?side9) (hY := ?side8) ?side1 ?side2 A6.out).mono ?_); (case side9 => exact HX0.out.keep (by repeat (first | (with_reducible first | exact HK.out | apply kS | apply kN | apply kD | apply kA) | exact HK.out))); (case side8 => exact HY0.out.keep (by repeat (first | (with_reducible first | exact HK.out | apply kS | apply kN | apply kD | apply kA) | exact HK.out))); (case side1 => repeat (first | (with_reducible first | exact HI0.out | apply ia | apply iN | apply iD | apply i0 | apply i1) | exact HI0.out)); (case side2 => repeat (first | (with_reducible first | exact HB.out | apply ba | apply bN | apply bD | refine bS ?_ (IsS145.ge HI0.out)) | exact HB.out)); rintro e w14 ⟨v318, rfl, ho0, hi, hb, hk⟩; have n0_ := Aside0.mk (Kd.S_mono (Kd.S_told (Kd.S_oldK (IsS145.apartS (show IsS145 w0 _ g x1000_1 x1001_1 from by repeat (first | (with_reducible first | exact HI0.out | apply ia | apply iN | apply iD | apply i0 | apply i1) | exact HI0.out)) (by (with_reducible repeat (first | apply Kd.S_alloc | apply Kd.S_drewN | apply Kd.S_drew)); exact HO_5.out) (by decide)) hk) (Kd.R_base ho0)) (fun _ h_ => h_.1)); have n1_ := Aside0.mk (Kd.R_lower ho0 (keep_size (w := w) (g := g) (row := none) (by repeat (first | (with_reducible first | exact HK.out | apply kS | apply kN | apply kD | apply kA) | exact HK.out)))); have n2_ := Aside0.mk (KeepBut.trans (by repeat (first | (with_reducible first | exact HK.out | apply kS | apply kN | apply kD | apply kA) | exact HK.out)) hk (.inl rfl)); have n3_ := Aside0.mk (hb); have n4_ := Aside0.mk (hi); clear HO_5; clear HK; clear HB; clear HI0; have HO_5 := n0_; have HO319 := n1_; have HK := n2_; have HB := n3_; have HI0 := n4_; clear n0_ n1_ n2_ n3_ n4_; (try clear hb); (try clear hk hi); (try clear ho0)) | ((with_reducible refine gate_callee (f := 88) rfl ?_); refine gL (some 14) rfl Try.func88 #[.pointer (some ⟨g, 0, none⟩)] rfl ?_; (with_reducible refine (octet_Reader_Fail.calls g t320 t321 t322 t323 t324 w0 _ ?side1 ?side2 A7.out).mono ?_); (case side1 => repeat (first | (with_reducible first | exact HI0.out | apply ia | apply iN | apply iD | apply i0 | apply i1) | exact HI0.out)); (case side2 => repeat (first | (with_reducible first | exact HB.out | apply ba | apply bN | apply bD | refine bS ?_ (IsS145.ge HI0.out)) | exact HB.out)); rintro e w15 ⟨rfl, hi, hb, hk⟩; refine ⟨_, rfl, ?_⟩; have n0_ := Aside0.mk (Kd.S_mono (Kd.S_keep (IsS145.apartS (show IsS145 w0 _ g t320 t321 from by repeat (first | (with_reducible first | exact HI0.out | apply ia | apply iN | apply iD | apply i0 | apply i1) | exact HI0.out)) (by (with_reducible repeat (first | apply Kd.S_alloc | apply Kd.S_drewN | apply Kd.S_drew)); exact HO_5.out) (by decide)) hk (fun _ h => h.2)) (fun _ h => h.1)); have n1_ := Aside0.mk (Kd.R_mono (Kd.R_keep (IsS145.apart (show IsS145 w0 _ g t320 t321 from by repeat (first | (with_reducible first | exact HI0.out | apply ia | apply iN | apply iD | apply i0 | apply i1) | exact HI0.out)) (by (with_reducible repeat (first | apply Kd.R_alloc | apply Kd.R_drewN | apply Kd.R_drew)); exact HO319.out) (by decide)) hk (fun _ h => h.2)) (fun _ h => h.1)); have n2_ := Aside0.mk (KeepBut.trans (by repeat (first | (with_reducible first | exact HK.out | apply kS | apply kN | apply kD | apply kA) | exact HK.out)) hk (.inl rfl)); have n3_ := Aside0.mk (hb); have n4_ := Aside0.mk (hi); clear HO_5; clear HO319; clear HK; clear HB; clear HI0; have HK := n2_; have HB := n3_; have HI0 := n4_; clear n0_ n1_ n2_ n3_ n4_; (try clear hb); (try clear hk hi)))
    go_ret
    exact ⟨_, er, by first | exact Kd.S_nil _ _ _ _ _ | exact Kd.N_nil _ _ _ _ _ | exact Kd.V_nil _ _ _ _ _ | exact Kd.Q_nil _ _ _ _ _ | exact Kd.R_nil _ _ _ _ _, by repeat (first | (with_reducible first | exact HI0.out | apply ia | apply iN | apply iD | apply i0 | apply i1) | exact HI0.out), by repeat (first | (with_reducible first | exact HB.out | apply ba | apply bN | apply bD | refine bS ?_ (IsS145.ge HI0.out)) | exact HB.out), by repeat (first | (with_reducible first | exact HK.out | apply kS | apply kN | apply kD | apply kA) | exact HK.out)⟩
   rw [if_pos c8] at H
   have c8b0 : (t322 == 0) = true := beq_iff_eq.mpr c8
   have c8b1 : (t322 != 0) = false := bne_eq_false_iff_eq.mpr c8
   clear c8
   by_cases c9 : x5_1.length < 5864062014805
   rotate_left
   ·rw [if_neg c9] at H
    exact absurd H (by simp)
   rw [if_pos c9] at H
   have LMc9 := Aside0.mk c9
   clear c9
   obtain ⟨y325, hy325⟩ : ∃ y_ : List (List (S61)), y_ = (x5_1 ++ [t317]) := ⟨_, rfl⟩
   replace H : (api_Elem_77.l0 k1 a1 y325 t314 (wrap64 (x9_1 + 1)) t323 t324) = some (r1, r2, r3) := by first | (rw [hy325]; with_reducible exact H) | (have H2_ := (Option.bind_some _ _).symm.trans H; rw [hy325]; with_reducible exact H2_) | (have H2_ := (Option.bind_some _ _).symm.trans H; with_reducible exact H2_) | with_reducible exact H | (rw [hy325]; exact H) | exact H
   have Ny325 := Aside0.mk hy325
   clear hy325
   have H' := Aside0.mk H
   clear H
   go_wp2_with (first | (go_at_call 73; (with_reducible refine (proof_ReadProof_1.calls k1 g x1000_1 x1001_1 a1 t317 t320 t321 w0 _ (gb := gb) (gl := gl) (hX := ?side9) (hY := ?side8) ?side1 ?side2 A6.out).mono ?_); (case side9 => exact HX0.out.keep (by repeat (first | (with_reducible first | exact HK.out | apply kS | apply kN | apply kD | apply kA) | exact HK.out))); (case side8 => exact HY0.out.keep (by repeat (first | (with_reducible first | exact HK.out | apply kS | apply kN | apply kD | apply kA) | exact HK.out))); (case side1 => repeat (first | (with_reducible first | exact HI0.out | apply ia | apply iN | apply iD | apply i0 | apply i1) | exact HI0.out)); (case side2 => repeat (first | (with_reducible first | exact HB.out | apply ba | apply bN | apply bD | refine bS ?_ (IsS145.ge HI0.out)) | exact HB.out)); rintro e w10 ⟨v318, rfl, ho0, hi, hb, hk⟩; have n0_ := Aside0.mk (Kd.S_mono (Kd.S_told (Kd.S_oldK (IsS145.apartS (show IsS145 w0 _ g x1000_1 x1001_1 from by repeat (first | (with_reducible first | exact HI0.out | apply ia | apply iN | apply iD | apply i0 | apply i1) | exact HI0.out)) (by (with_reducible repeat (first | apply Kd.S_alloc | apply Kd.S_drewN | apply Kd.S_drew)); exact HO_5.out) (by decide)) hk) (Kd.R_base ho0)) (fun _ h_ => h_.1)); have n1_ := Aside0.mk (Kd.R_lower ho0 (keep_size (w := w) (g := g) (row := none) (by repeat (first | (with_reducible first | exact HK.out | apply kS | apply kN | apply kD | apply kA) | exact HK.out)))); have n2_ := Aside0.mk (KeepBut.trans (by repeat (first | (with_reducible first | exact HK.out | apply kS | apply kN | apply kD | apply kA) | exact HK.out)) hk (.inl rfl)); have n3_ := Aside0.mk (hb); have n4_ := Aside0.mk (hi); clear HO_5; clear HK; clear HB; clear HI0; have HO_5 := n0_; have HO319 := n1_; have HK := n2_; have HB := n3_; have HI0 := n4_; clear n0_ n1_ n2_ n3_ n4_; (try clear hb); (try clear hk hi); (try clear ho0)) | ((with_reducible refine gate_callee (f := 88) rfl ?_); refine gL (some 14) rfl Try.func88 #[.pointer (some ⟨g, 0, none⟩)] rfl ?_; (with_reducible refine (octet_Reader_Fail.calls g t320 t321 t322 t323 t324 w0 _ ?side1 ?side2 A7.out).mono ?_); (case side1 => repeat (first | (with_reducible first | exact HI0.out | apply ia | apply iN | apply iD | apply i0 | apply i1) | exact HI0.out)); (case side2 => repeat (first | (with_reducible first | exact HB.out | apply ba | apply bN | apply bD | refine bS ?_ (IsS145.ge HI0.out)) | exact HB.out)); rintro e w11 ⟨rfl, hi, hb, hk⟩; refine ⟨_, rfl, ?_⟩; have n0_ := Aside0.mk (Kd.S_mono (Kd.S_keep (IsS145.apartS (show IsS145 w0 _ g t320 t321 from by repeat (first | (with_reducible first | exact HI0.out | apply ia | apply iN | apply iD | apply i0 | apply i1) | exact HI0.out)) (by (with_reducible repeat (first | apply Kd.S_alloc | apply Kd.S_drewN | apply Kd.S_drew)); exact HO_5.out) (by decide)) hk (fun _ h => h.2)) (fun _ h => h.1)); have n1_ := Aside0.mk (Kd.R_mono (Kd.R_keep (IsS145.apart (show IsS145 w0 _ g t320 t321 from by repeat (first | (with_reducible first | exact HI0.out | apply ia | apply iN | apply iD | apply i0 | apply i1) | exact HI0.out)) (by (with_reducible repeat (first | apply Kd.R_alloc | apply Kd.R_drewN | apply Kd.R_drew)); exact HO319.out) (by decide)) hk (fun _ h => h.2)) (fun _ h => h.1)); have n2_ := Aside0.mk (KeepBut.trans (by repeat (first | (with_reducible first | exact HK.out | apply kS | apply kN | apply kD | apply kA) | exact HK.out)) hk (.inl rfl)); have n3_ := Aside0.mk (hb); have n4_ := Aside0.mk (hi); clear HO_5; clear HO319; clear HK; clear HB; clear HI0; have HO_5 := n0_; have HO319 := n1_; have HK := n2_; have HB := n3_; have HI0 := n4_; clear n0_ n1_ n2_ n3_ n4_; (try clear hb); (try clear hk hi); obtain ⟨Ao13, co13, eo13⟩ := Kd.R_slice HO319.out; subst eo13) | ((with_reducible refine gate_builtin (b := .append) (xs := #[.tmp 16, .tmp 18]) rfl ?_); at_builtin; refine Kd.S_append (Kd.slice 61 k61) w.heap.size rfl (.tmp 16) (.tmp 18) 57 58 (.slice none 0 0) 24 rfl Try.underlying57 info58 rfl (by decide) (by omega) u5 x5_1 t317 [.slice Ao13 t317.length co13] (fun _ => True) (fun k_ => some k_ = (.slice Ao13 t317.length co13 : Value).ownBlock) rfl rfl ?aP (fun k_ hk_ => ((Kd.R_mono (ok' := fun k_ => ((fun _ => True)) k_ ∧ some k_ ≠ (u5 : Value).ownBlock) (Kd.R_apart' (HO319.out) (Kd.S_typed HO_5.out) (by decide)) (fun k_ hk => ⟨trivial, hk.2⟩))).1 k_ hk_.symm) ?aF ?aO (Below.refl _ _) ?aS ?aL ?_; (case aP => exact Kd.M_row (Kd.R_mono (Kd.R_tight rfl (Kd.R_mono (ok' := fun k_ => ((fun _ => True)) k_ ∧ some k_ ≠ (u5 : Value).ownBlock) (Kd.R_apart' (HO319.out) (Kd.S_typed HO_5.out) (by decide)) (fun k_ hk => ⟨trivial, hk.2⟩))) (fun _ h_ => h_))); (case aF => exact (fun _ _ => trivial)); (case aO => exact (by (with_reducible repeat (first | apply Kd.S_alloc | apply Kd.S_drewN | apply Kd.S_drew)); exact Kd.S_mono HO_5.out (fun k_ hk => ⟨trivial, fun e_ => hk.2 e_⟩))); (case aS => exact (keep_size (w := w) (g := g) (row := none) (by repeat (first | (with_reducible first | exact HK.out | apply kS | apply kN | apply kD | apply kA) | exact HK.out)))); (case aL => have := LMc9.out; omega); intro v326 w12 ho hb hg hat; rw [← Ny325.out] at ho; have n0_ := Aside0.mk (IsS145.grown (by repeat (first | (with_reducible first | exact HI0.out | apply ia | apply iN | apply iD | apply i0 | apply i1) | exact HI0.out)) hg (IsS145.own_neS HI0.out HO_5.out (by decide))); have n1_ := Aside0.mk (below_weaken (by repeat (first | (with_reducible first | exact HB.out | apply ba | apply bN | apply bD | refine bS ?_ (IsS145.ge HI0.out)) | exact HB.out)) HL.out hb); have n2_ := Aside0.mk (KeepBut.trans (by repeat (first | (with_reducible first | exact HK.out | apply kS | apply kN | apply kD | apply kA) | exact HK.out)) (KeepBut.of_grown hg g) (Kd.S_base2 HO_5.out)); have n3_ := Aside0.mk (ho); clear HI0; clear HB; clear HK; clear HO_5; clear HO319; have HI0 := n0_; have HB := n1_; have HK := n2_; have HO327 := n3_; clear n0_ n1_ n2_ n3_; clear ho hb hg hat))
   go_roundg k1
   case measure => have := HK1.out; omega
   case rel => exact ⟨(y325), (wrap64 (x9_1 + 1)), (t323), (t324), (by first | rfl | (simp; done) | (simp [*]; done)), H', ⟨by have := HK1.out; omega⟩, ⟨by (with_reducible repeat (first | apply Kd.S_alloc | apply Kd.S_drewN | apply Kd.S_drew)); exact HO327.out⟩, ⟨by repeat (first | (with_reducible first | exact HI0.out | apply ia | apply iN | apply iD | apply i0 | apply i1) | exact HI0.out)⟩, ⟨by repeat (first | (with_reducible first | exact HK.out | apply kS | apply kN | apply kD | apply kA) | exact HK.out)⟩, ⟨by repeat (first | (with_reducible first | exact HB.out | apply ba | apply bN | apply bD | refine bS ?_ (IsS145.ge HI0.out)) | exact HB.out)⟩⟩
end Go.Proofs.Ythgiifakcgjlaaa.P
