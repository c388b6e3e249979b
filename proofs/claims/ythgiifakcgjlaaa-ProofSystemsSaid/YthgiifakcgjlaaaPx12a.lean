/- Written by a program of this session: functions that the law reaches, as Lean functions, and that the code comes to their answers. Conditions: those that each theorem names. -/
import Derived.Test.YthgiifakcgjlaaaPx0
import Derived.Test.YthgiifakcgjlaaaHBox
import Derived.Test.YthgiifakcgjlaaaPx4
import Derived.Test.YthgiifakcgjlaaaPx12
import Derived.Test.YthgiifakcgjlaaaPx8
-- TURN29
-- TURN22
namespace Go.Proofs.Ythgiifakcgjlaaa.P
open Go.RowKit Go.Proofs.YthgiifakcgjlaaaX Go.Proofs.YthgiifakcgjlaaaW.PrintWords Go.Proofs.YthgiifakcgjlaaaW.PrintLast Go.Proofs.YthgiifakcgjlaaaW.PrintMore
attribute [local go_sem] max2_int min2_int max_two min_two max_three min_three max_four min_four   -- for this text's walks alone
set_option linter.unusedVariables false
set_option linter.unusedSimpArgs false

/-! ### proof_ReadSystem: function 22 -/
def proof_ReadSystem.l0 : Nat → Int → Int → ByteArray → Int → Int → Int → Int → Int → Int → List (S107) → Option (Int × Int × Int × Int × Int × (List (S107)) × Int)
 | 0, _, _, _, _, _, _, _, _, _, _ => none
 | k + 1, x29, x30, x220000, x220001, x236000, x236001, x236002, x236003, x236004, x236005 => if x30 < x29 then ((proof_ReadSystem_1.f x220000 x220001).bind fun bt239 => ((proof_ReadSystem_1.f bt239.2.1 bt239.2.2).bind fun bt242 => ((proof_ReadSystem_1.f bt242.2.1 bt242.2.2).bind fun bt245 => ((proof_ReadSystem_1.f bt245.2.1 bt245.2.2).bind fun bt248 => ((proof_ReadSystem_1.f bt248.2.1 bt248.2.2).bind fun bt251 => (if x236005.length < 3518437208883 then (proof_ReadSystem.l0 k x29 (wrap64 (x30 + 1)) bt251.2.1 bt251.2.2 x236000 x236001 x236002 x236003 x236004 (x236005 ++ [(⟨bt239.1, bt242.1, bt245.1, bt248.1, bt251.1⟩ : S107)])) else (none))))))) else ((octet_Reader_End.f x220000 x220001).bind fun bt257 => (if bt257.1 = 0 then ((circuit_Check.f k x236000 x236001 x236002 x236003 x236004 x236005).bind fun t260 => (if t260 = 0 then (some (x236000, x236001, x236002, x236003, x236004, x236005, 0)) else (some (0, 0, 0, 0, 0, ([] : List (S107)), 3)))) else (some (0, 0, 0, 0, 0, ([] : List (S107)), 3))))
def proof_ReadSystem.f (k : Nat) (a0 : ByteArray) : Option (Int × Int × Int × Int × Int × (List (S107)) × Int) := (proof_ask.f a0).bind fun t216 => (if t216 = 0 then ((octet_Read.f a0).bind fun bt217 => ((proof_ReadSystem_1.f bt217.1 bt217.2).bind fun bt220 => ((proof_ReadSystem_1.f bt220.2.1 bt220.2.2).bind fun bt223 => ((proof_ReadSystem_1.f bt223.2.1 bt223.2.2).bind fun bt226 => ((proof_ReadSystem_1.f bt226.2.1 bt226.2.2).bind fun bt229 => ((proof_ReadSystem_1.f bt229.2.1 bt229.2.2).bind fun bt232 => ((octet_Reader_Num.f bt232.2.1 bt232.2.2 30).bind fun bt236 => (proof_ReadSystem.l0 k bt236.1 0 bt236.2.1 bt236.2.2 bt220.1 bt223.1 bt226.1 bt229.1 bt232.1 ([] : List (S107)))))))))) else (some (0, 0, 0, 0, 0, ([] : List (S107)), t216)))
theorem proof_ReadSystem.mono_l : ∀ k, (∀ y0 y1 y2 y3 y4 y5 y6 y7 y8 y9, LeO (proof_ReadSystem.l0 k y0 y1 y2 y3 y4 y5 y6 y7 y8 y9) (proof_ReadSystem.l0 (k + 1) y0 y1 y2 y3 y4 y5 y6 y7 y8 y9))
 | 0 => fun _ _ _ _ _ _ _ _ _ _ r h => by simp [proof_ReadSystem.l0] at h
 | k + 1 => by
  have ih0 := proof_ReadSystem.mono_l k
  ·intro y0 y1 y2 y3 y4 y5 y6 y7 y8 y9
   unfold proof_ReadSystem.l0
   repeat' first
   | (with_reducible exact ih0 _ _ _ _ _ _ _ _ _ _)
   | (with_reducible exact circuit_Check.mono _ _ _ _ _ _ _)
   | (with_reducible exact LeO.refl _)
   | (with_reducible exact LeO.none _)
   | (with_reducible refine LeO.ite ?_ ?_)
   | (with_reducible refine LeO.bind ?_ (fun _ => ?_))
   | exact ih0 _ _ _ _ _ _ _ _ _ _
   | exact circuit_Check.mono _ _ _ _ _ _ _
   | exact LeO.none _
   | refine LeO.ite ?_ ?_
   | refine LeO.bind ?_ (fun _ => ?_)
theorem proof_ReadSystem.mono : ∀ a0 k, LeO (proof_ReadSystem.f k a0) (proof_ReadSystem.f (k + 1) a0) := by
 intro a0 k
 have ih0 := proof_ReadSystem.mono_l k
 unfold proof_ReadSystem.f
 repeat' first
   | (with_reducible exact ih0 _ _ _ _ _ _ _ _ _ _)
   | (with_reducible exact circuit_Check.mono _ _ _ _ _ _ _)
   | (with_reducible exact LeO.refl _)
   | (with_reducible exact LeO.none _)
   | (with_reducible refine LeO.ite ?_ ?_)
   | (with_reducible refine LeO.bind ?_ (fun _ => ?_))
   | exact ih0 _ _ _ _ _ _ _ _ _ _
   | exact circuit_Check.mono _ _ _ _ _ _ _
   | exact LeO.none _
   | refine LeO.ite ?_ ?_
   | refine LeO.bind ?_ (fun _ => ?_)
def proof_ReadSystem.T9 : Bool × List (List Nat × List Nat) := (true, [([], []), ([0], [0]), ([], []), ([2], [2]), ([], []), ([4, 3], [4]), ([], []), ([6, 5], [6]), ([], []), ([8, 7], [8]), ([], []), ([10, 9], [10]), ([3, 5, 7, 9, 11], [3, 5, 7, 9, 11]), ([12], [12]), ([1, 13, 11], [1, 13]), ([0, 1, 2, 3, 4, 5, 6, 7, 8, 9, 10, 11, 12, 13, 14], []), ([15, 14, 14, 0, 1, 2, 3, 4, 5, 6, 7, 8, 9, 10, 11, 12, 13, 14], [14, 15])])
def proof_ReadSystem.B9 : List Nat := [0, 1, 0, 4, 0, 28, 0, 124, 0, 508, 0, 2044, 4092, 8188, 16383, 32767, 65535]
theorem proof_ReadSystem.tab9 : rtab .any (opsOf Try.f22 9) = proof_ReadSystem.T9 := by kernel_rfl
theorem proof_ReadSystem.bits9 : waitsOk proof_ReadSystem.T9.2 proof_ReadSystem.B9 = true := by kernel_rfl
set_option maxHeartbeats 8000000 in
set_option maxRecDepth 100000 in
theorem proof_ReadSystem.calls (k : Nat) (a0 : ByteArray) (r1 : Int) (r2 : Int) (r3 : Int) (r4 : Int) (r5 : Int) (r6 : List (S107)) (r7 : Int) (w : World) (h : proof_ReadSystem.f k a0 = some (r1, r2, r3, r4, r5, r6, r7)) :
  Calls Try.prog 22 #[.string a0] w fun e w' => ∃ v5_ : Value, e = .returned (.tuple #[.agg #[.int .i64 r1, .int .i64 r2, .int .i64 r3, .int .i64 r4, .int .i64 r5, v5_], .int .i64 r7]) ∧ Kd.R k107 107 w' w.heap.size (fun _ => True) v5_ r6 ∧ Below w.heap.size w w' := by
 have hu45 := Try.underlying45
 have hu107 := Try.underlying107
 have HB := Aside0.mk (Below.refl w.heap.size w)
 have H : ((proof_ask.f a0).bind fun t216 => (if t216 = 0 then ((octet_Read.f a0).bind fun bt217 => ((proof_ReadSystem_1.f bt217.1 bt217.2).bind fun bt220 => ((proof_ReadSystem_1.f bt220.2.1 bt220.2.2).bind fun bt223 => ((proof_ReadSystem_1.f bt223.2.1 bt223.2.2).bind fun bt226 => ((proof_ReadSystem_1.f bt226.2.1 bt226.2.2).bind fun bt229 => ((proof_ReadSystem_1.f bt229.2.1 bt229.2.2).bind fun bt232 => ((octet_Reader_Num.f bt232.2.1 bt232.2.2 30).bind fun bt236 => (proof_ReadSystem.l0 k bt236.1 0 bt236.2.1 bt236.2.2 bt220.1 bt223.1 bt226.1 bt229.1 bt232.1 ([] : List (S107)))))))))) else (some (0, 0, 0, 0, 0, ([] : List (S107)), t216)))) = some (r1, r2, r3, r4, r5, r6, r7) := h
 clear h
 replace H := Option.bind_eq_some_iff.mp H
 obtain ⟨t216, A20, H⟩ := H
 replace H : (if t216 = 0 then ((octet_Read.f a0).bind fun bt217 => ((proof_ReadSystem_1.f bt217.1 bt217.2).bind fun bt220 => ((proof_ReadSystem_1.f bt220.2.1 bt220.2.2).bind fun bt223 => ((proof_ReadSystem_1.f bt223.2.1 bt223.2.2).bind fun bt226 => ((proof_ReadSystem_1.f bt226.2.1 bt226.2.2).bind fun bt229 => ((proof_ReadSystem_1.f bt229.2.1 bt229.2.2).bind fun bt232 => ((octet_Reader_Num.f bt232.2.1 bt232.2.2 30).bind fun bt236 => (proof_ReadSystem.l0 k bt236.1 0 bt236.2.1 bt236.2.2 bt220.1 bt223.1 bt226.1 bt229.1 bt232.1 ([] : List (S107)))))))))) else (some (0, 0, 0, 0, 0, ([] : List (S107)), t216))) = some (r1, r2, r3, r4, r5, r6, r7) := H
 have A2 := Aside0.mk A20
 clear A20
 by_cases c3 : t216 = 0
 ·rw [if_pos c3] at H
  have c3b0 : (t216 == 0) = true := beq_iff_eq.mpr c3
  have c3b1 : (t216 != 0) = false := bne_eq_false_iff_eq.mpr c3
  clear c3
  replace H := Option.bind_eq_some_iff.mp H
  obtain ⟨⟨t217, t218⟩, A40, H⟩ := H
  replace H : ((proof_ReadSystem_1.f t217 t218).bind fun bt220 => ((proof_ReadSystem_1.f bt220.2.1 bt220.2.2).bind fun bt223 => ((proof_ReadSystem_1.f bt223.2.1 bt223.2.2).bind fun bt226 => ((proof_ReadSystem_1.f bt226.2.1 bt226.2.2).bind fun bt229 => ((proof_ReadSystem_1.f bt229.2.1 bt229.2.2).bind fun bt232 => ((octet_Reader_Num.f bt232.2.1 bt232.2.2 30).bind fun bt236 => (proof_ReadSystem.l0 k bt236.1 0 bt236.2.1 bt236.2.2 bt220.1 bt223.1 bt226.1 bt229.1 bt232.1 ([] : List (S107))))))))) = some (r1, r2, r3, r4, r5, r6, r7) := H
  have A4 := Aside0.mk A40
  clear A40
  replace H := Option.bind_eq_some_iff.mp H
  obtain ⟨⟨t220, t221, t222⟩, A50, H⟩ := H
  replace H : ((proof_ReadSystem_1.f t221 t222).bind fun bt223 => ((proof_ReadSystem_1.f bt223.2.1 bt223.2.2).bind fun bt226 => ((proof_ReadSystem_1.f bt226.2.1 bt226.2.2).bind fun bt229 => ((proof_ReadSystem_1.f bt229.2.1 bt229.2.2).bind fun bt232 => ((octet_Reader_Num.f bt232.2.1 bt232.2.2 30).bind fun bt236 => (proof_ReadSystem.l0 k bt236.1 0 bt236.2.1 bt236.2.2 t220 bt223.1 bt226.1 bt229.1 bt232.1 ([] : List (S107)))))))) = some (r1, r2, r3, r4, r5, r6, r7) := H
  have A5 := Aside0.mk A50
  clear A50
  replace H := Option.bind_eq_some_iff.mp H
  obtain ⟨⟨t223, t224, t225⟩, A60, H⟩ := H
  replace H : ((proof_ReadSystem_1.f t224 t225).bind fun bt226 => ((proof_ReadSystem_1.f bt226.2.1 bt226.2.2).bind fun bt229 => ((proof_ReadSystem_1.f bt229.2.1 bt229.2.2).bind fun bt232 => ((octet_Reader_Num.f bt232.2.1 bt232.2.2 30).bind fun bt236 => (proof_ReadSystem.l0 k bt236.1 0 bt236.2.1 bt236.2.2 t220 t223 bt226.1 bt229.1 bt232.1 ([] : List (S107))))))) = some (r1, r2, r3, r4, r5, r6, r7) := H
  have A6 := Aside0.mk A60
  clear A60
  replace H := Option.bind_eq_some_iff.mp H
  obtain ⟨⟨t226, t227, t228⟩, A70, H⟩ := H
  replace H : ((proof_ReadSystem_1.f t227 t228).bind fun bt229 => ((proof_ReadSystem_1.f bt229.2.1 bt229.2.2).bind fun bt232 => ((octet_Reader_Num.f bt232.2.1 bt232.2.2 30).bind fun bt236 => (proof_ReadSystem.l0 k bt236.1 0 bt236.2.1 bt236.2.2 t220 t223 t226 bt229.1 bt232.1 ([] : List (S107)))))) = some (r1, r2, r3, r4, r5, r6, r7) := H
  have A7 := Aside0.mk A70
  clear A70
  replace H := Option.bind_eq_some_iff.mp H
  obtain ⟨⟨t229, t230, t231⟩, A80, H⟩ := H
  replace H : ((proof_ReadSystem_1.f t230 t231).bind fun bt232 => ((octet_Reader_Num.f bt232.2.1 bt232.2.2 30).bind fun bt236 => (proof_ReadSystem.l0 k bt236.1 0 bt236.2.1 bt236.2.2 t220 t223 t226 t229 bt232.1 ([] : List (S107))))) = some (r1, r2, r3, r4, r5, r6, r7) := H
  have A8 := Aside0.mk A80
  clear A80
  replace H := Option.bind_eq_some_iff.mp H
  obtain ⟨⟨t232, t233, t234⟩, A90, H⟩ := H
  replace H : ((octet_Reader_Num.f t233 t234 30).bind fun bt236 => (proof_ReadSystem.l0 k bt236.1 0 bt236.2.1 bt236.2.2 t220 t223 t226 t229 t232 ([] : List (S107)))) = some (r1, r2, r3, r4, r5, r6, r7) := H
  have A9 := Aside0.mk A90
  clear A90
  replace H := Option.bind_eq_some_iff.mp H
  obtain ⟨⟨t236, t237, t238⟩, A100, H⟩ := H
  replace H : (proof_ReadSystem.l0 k t236 0 t237 t238 t220 t223 t226 t229 t232 ([] : List (S107))) = some (r1, r2, r3, r4, r5, r6, r7) := H
  have A10 := Aside0.mk A100
  clear A100
  have H' := Aside0.mk H
  clear H
  go_enter Try.func22, Try.ntmps22
  go_upto_region 5 with (first | ((with_reducible refine gate_dst (N := 2) rfl ?_); refine box_event ?hg (N := 2) ?hd (cs := #[.int .i64 0, .int .i64 0, .int .i64 0, .int .i64 0, .int .i64 0, .slice none 0 0]) (t := 45) ?hr ?_; (case hd => rfl); (case hg => rfl); (case hr => first | (go_simp; done) | (go_simp; rfl)); intro gb215 hg w11 hbox hb; have BK215 := Aside0.mk hbox; have GW215 := ge hg HB; have GE215 := ge hg HB; replace HB := bh HB hb; clear hb hbox hg) | ((with_reducible refine gate_callee (f := 33) rfl ?_); refine goesL_ (some 9) rfl rfl Try.func33 (by kernel_rfl) rfl #[.string a0] rfl (by (try simp only [List.map_toArray, List.map_cons, List.map_nil]); first | done | rfl | (simp only [List.length_drop, List.length_take]; rfl)) ?_; (with_reducible refine (proof_ask.calls a0 t216 _ A2.out).mono ?_); rintro e w' ⟨rfl, ⟨nd, rfl⟩⟩; refine ⟨_, rfl, ?_⟩; (try (rw [drewN_self w11]; generalize hq_ : World.drewN w11 _ = w11; have n0_ : Aside0 (w11.heap[gb215]? = some (.cells #[.int .i64 0, .int .i64 0, .int .i64 0, .int .i64 0, .int .i64 0, .slice none 0 0] 45 (0, 0))) := ⟨by rw [← hq_]; exact (bk BK215.out)⟩; have n1_ : Aside0 (Below w.heap.size w w11) := ⟨by rw [← hq_]; exact (bq HB.out)⟩; clear BK215 HB hq_; have BK215 := n0_; have HB := n1_; clear n0_ n1_))) | ((with_reducible refine gate_callee (f := 34) rfl ?_); refine goesL_ (some 15) rfl rfl Try.func34 (by kernel_rfl) rfl #[.string a0] rfl (by (try simp only [List.map_toArray, List.map_cons, List.map_nil]); first | done | rfl | (simp only [List.length_drop, List.length_take]; rfl)) ?_; (with_reducible refine (octet_Read.calls a0 t217 t218 w _ ?side1 A4.out).mono ?_); (case side1 => repeat (first | (with_reducible first | exact HB.out | apply below_alloc | apply pw_below_drewN | apply below_drew1 | refine below_set ?_ GE215.out) | exact HB.out)); rintro e w12 ⟨g219, rfl, hi, hb, hb2⟩; refine ⟨_, rfl, ?_⟩; have HI219 := Aside0.mk hi; have NB219_215 := Aside0.mk (IsS145.ne_blk hi (blk_below (g := gb215) (o := .cells #[.int .i64 0, .int .i64 0, .int .i64 0, .int .i64 0, .int .i64 0, .slice none 0 0] 45 (0, 0)) (bk BK215.out) hb2) (by decide)); have NB215_219 := Aside0.mk (Ne.symm (IsS145.ne_blk hi (blk_below (g := gb215) (o := .cells #[.int .i64 0, .int .i64 0, .int .i64 0, .int .i64 0, .int .i64 0, .slice none 0 0] 45 (0, 0)) (bk BK215.out) hb2) (by decide))); replace BK215 := Aside0.mk (blk_below (g := gb215) (o := .cells #[.int .i64 0, .int .i64 0, .int .i64 0, .int .i64 0, .int .i64 0, .slice none 0 0] 45 (0, 0)) (bk BK215.out) hb2); replace HB := Aside0.mk hb; (try clear hb); (try clear hb2); (try clear hk); (try clear hi)) | ((with_reducible refine gate_dst (N := 5) rfl ?_); refine box_event ?hg (N := 5) ?hd (cs := #[.pointer none]) (t := 88) ?hr ?_; (case hd => rfl); (case hg => rfl); (case hr => first | (go_simp; done) | (go_simp; rfl)); intro gx hgx wx hbox hb; have GX := Aside0.mk (show gx ≠ g219 from by rw [hgx]; exact Nat.ne_of_gt HI219.out.lt); have GE := Aside0.mk (show w.heap.size ≤ gx from by rw [hgx]; exact below_size HB.out); have NX2 := nl hgx BK215; replace BK215 := bb BK215 hb; replace HI219 := Aside0.mk (HI219.out.below hb); replace HB := Aside0.mk (below_step HB.out hb); have BX := Aside0.mk hbox; clear hb hbox hgx; have cx := zc1 BX; have fx := blk_frozen BX.out 0))
  obtain ⟨wr, hwr⟩ : ∃ wr, wr = wx.setCell ⟨gx, 0, none⟩ (.pointer (some ⟨g219, 0, none⟩)) := ⟨_, rfl⟩
  have HX0 : Aside0 (Boxed wr gx g219) := ⟨by rw [hwr]; exact Boxed.made BX.out GX.out⟩
  have n0_ : Aside0 (IsS145 w wr g219 _ _) := ⟨by rw [hwr]; exact HI219.out.far GX.out.symm _⟩
  have n1_ : Aside0 (Below w.heap.size w wr) := ⟨by rw [hwr]; exact below_set HB.out GE.out⟩
  have n2_ : Aside0 (wr.heap[gb215]? = some (.cells #[.int .i64 0, .int .i64 0, .int .i64 0, .int .i64 0, .int .i64 0, .slice none 0 0] 45 (0, 0))) := ⟨by rw [hwr]; exact blk_far (p := ⟨gx, 0, none⟩) BK215.out NX2.out _⟩
  rw [← hwr]
  clear HI219 HB BX cx fx GE GX NX2 BK215 hwr
  have HI219 := n0_
  have HB := n1_
  have BK215 := n2_
  clear n0_ n1_ n2_
  have hcX := HX0.out.cell
  go_wp2_with (first | ((with_reducible refine gate_callee (f := 56) rfl ?_); refine goesL_ (some 18) rfl rfl Try.func56 (by kernel_rfl) rfl #[.pointer (some ⟨gx, 0, none⟩)] rfl (by (try simp only [List.map_toArray, List.map_cons, List.map_nil]); first | done | rfl | (simp only [List.length_drop, List.length_take]; rfl)) ?_; (with_reducible refine (proof_ReadSystem_1.calls g219 t217 t218 t220 t221 t222 w _ (gb := gx) (hX := ?side9) ?side1 ?side2 A5.out).mono ?_); (case side9 => exact HX0.out); (case side1 => repeat (first | (with_reducible first | exact HI219.out | apply IsS145.alloc | apply IsS145.drewN | apply IsS145.drew | apply IsS145.set_0 | apply IsS145.set_1 | refine IsS145.far ?_ NB219_215.out _) | exact HI219.out)); (case side2 => repeat (first | (with_reducible first | exact HB.out | apply below_alloc | apply pw_below_drewN | apply below_drew1 | refine below_set ?_ (IsS145.ge HI219.out) | refine below_set ?_ GE215.out) | exact HB.out)); rintro e w13 ⟨rfl, hi, hb, hk⟩; refine ⟨_, rfl, ?_⟩; replace HX0 := Aside0.mk (Boxed.keep HX0.out hk); (try clear hcX); have hcX := HX0.out.cell; replace BK215 := Aside0.mk (KeepBut.blk hk (g' := gb215) (o := .cells #[.int .i64 0, .int .i64 0, .int .i64 0, .int .i64 0, .int .i64 0, .slice none 0 0] 45 (0, 0)) (bk BK215.out) NB215_219.out (by simp)); replace HB := Aside0.mk hb; replace HI219 := Aside0.mk hi; (try clear hb); (try clear hb2); (try clear hk); (try clear hi)) | (go_at_call 56; (with_reducible refine (proof_ReadSystem_1.calls g219 t217 t218 t220 t221 t222 w _ (gb := gx) (hX := ?side9) ?side1 ?side2 A5.out).mono ?_); (case side9 => exact HX0.out); (case side1 => repeat (first | (with_reducible first | exact HI219.out | apply IsS145.alloc | apply IsS145.drewN | apply IsS145.drew | apply IsS145.set_0 | apply IsS145.set_1 | refine IsS145.far ?_ NB219_215.out _) | exact HI219.out)); (case side2 => repeat (first | (with_reducible first | exact HB.out | apply below_alloc | apply pw_below_drewN | apply below_drew1 | refine below_set ?_ (IsS145.ge HI219.out) | refine below_set ?_ GE215.out) | exact HB.out)); rintro e w13 ⟨rfl, hi, hb, hk⟩; replace HX0 := Aside0.mk (Boxed.keep HX0.out hk); (try clear hcX); have hcX := HX0.out.cell; replace BK215 := Aside0.mk (KeepBut.blk hk (g' := gb215) (o := .cells #[.int .i64 0, .int .i64 0, .int .i64 0, .int .i64 0, .int .i64 0, .slice none 0 0] 45 (0, 0)) (bk BK215.out) NB215_219.out (by simp)); replace HB := Aside0.mk hb; replace HI219 := Aside0.mk hi; (try clear hb); (try clear hb2); (try clear hk); (try clear hi)) | ((with_reducible refine gate_callee (f := 56) rfl ?_); refine goesL_ (some 20) rfl rfl Try.func56 (by kernel_rfl) rfl #[.pointer (some ⟨gx, 0, none⟩)] rfl (by (try simp only [List.map_toArray, List.map_cons, List.map_nil]); first | done | rfl | (simp only [List.length_drop, List.length_take]; rfl)) ?_; (with_reducible refine (proof_ReadSystem_1.calls g219 t221 t222 t223 t224 t225 w _ (gb := gx) (hX := ?side9) ?side1 ?side2 A6.out).mono ?_); (case side9 => exact HX0.out); (case side1 => repeat (first | (with_reducible first | exact HI219.out | apply IsS145.alloc | apply IsS145.drewN | apply IsS145.drew | apply IsS145.set_0 | apply IsS145.set_1 | refine IsS145.far ?_ NB219_215.out _) | exact HI219.out)); (case side2 => repeat (first | (with_reducible first | exact HB.out | apply below_alloc | apply pw_below_drewN | apply below_drew1 | refine below_set ?_ (IsS145.ge HI219.out) | refine below_set ?_ GE215.out) | exact HB.out)); rintro e w14 ⟨rfl, hi, hb, hk⟩; refine ⟨_, rfl, ?_⟩; replace HX0 := Aside0.mk (Boxed.keep HX0.out hk); (try clear hcX); have hcX := HX0.out.cell; replace BK215 := Aside0.mk (KeepBut.blk hk (g' := gb215) (o := .cells #[.int .i64 0, .int .i64 0, .int .i64 0, .int .i64 0, .int .i64 0, .slice none 0 0] 45 (0, 0)) (bk BK215.out) NB215_219.out (by simp)); replace HB := Aside0.mk hb; replace HI219 := Aside0.mk hi; (try clear hb); (try clear hb2); (try clear hk); (try clear hi)) | (go_at_call 56; (with_reducible refine (proof_ReadSystem_1.calls g219 t221 t222 t223 t224 t225 w _ (gb := gx) (hX := ?side9) ?side1 ?side2 A6.out).mono ?_); (case side9 => exact HX0.out); (case side1 => repeat (first | (with_reducible first | exact HI219.out | apply IsS145.alloc | apply IsS145.drewN | apply IsS145.drew | apply IsS145.set_0 | apply IsS145.set_1 | refine IsS145.far ?_ NB219_215.out _) | exact HI219.out)); (case side2 => repeat (first | (with_reducible first | exact HB.out | apply below_alloc | apply pw_below_drewN | apply below_drew1 | refine below_set ?_ (IsS145.ge HI219.out) | refine below_set ?_ GE215.out) | exact HB.out)); rintro e w14 ⟨rfl, hi, hb, hk⟩; replace HX0 := Aside0.mk (Boxed.keep HX0.out hk); (try clear hcX); have hcX := HX0.out.cell; replace BK215 := Aside0.mk (KeepBut.blk hk (g' := gb215) (o := .cells #[.int .i64 0, .int .i64 0, .int .i64 0, .int .i64 0, .int .i64 0, .slice none 0 0] 45 (0, 0)) (bk BK215.out) NB215_219.out (by simp)); replace HB := Aside0.mk hb; replace HI219 := Aside0.mk hi; (try clear hb); (try clear hb2); (try clear hk); (try clear hi)) | ((with_reducible refine gate_callee (f := 56) rfl ?_); refine goesL_ (some 22) rfl rfl Try.func56 (by kernel_rfl) rfl #[.pointer (some ⟨gx, 0, none⟩)] rfl (by (try simp only [List.map_toArray, List.map_cons, List.map_nil]); first | done | rfl | (simp only [List.length_drop, List.length_take]; rfl)) ?_; (with_reducible refine (proof_ReadSystem_1.calls g219 t224 t225 t226 t227 t228 w _ (gb := gx) (hX := ?side9) ?side1 ?side2 A7.out).mono ?_); (case side9 => exact HX0.out); (case side1 => repeat (first | (with_reducible first | exact HI219.out | apply IsS145.alloc | apply IsS145.drewN | apply IsS145.drew | apply IsS145.set_0 | apply IsS145.set_1 | refine IsS145.far ?_ NB219_215.out _) | exact HI219.out)); (case side2 => repeat (first | (with_reducible first | exact HB.out | apply below_alloc | apply pw_below_drewN | apply below_drew1 | refine below_set ?_ (IsS145.ge HI219.out) | refine below_set ?_ GE215.out) | exact HB.out)); rintro e w15 ⟨rfl, hi, hb, hk⟩; refine ⟨_, rfl, ?_⟩; replace HX0 := Aside0.mk (Boxed.keep HX0.out hk); (try clear hcX); have hcX := HX0.out.cell; replace BK215 := Aside0.mk (KeepBut.blk hk (g' := gb215) (o := .cells #[.int .i64 0, .int .i64 0, .int .i64 0, .int .i64 0, .int .i64 0, .slice none 0 0] 45 (0, 0)) (bk BK215.out) NB215_219.out (by simp)); replace HB := Aside0.mk hb; replace HI219 := Aside0.mk hi; (try clear hb); (try clear hb2); (try clear hk); (try clear hi)) | (go_at_call 56; (with_reducible refine (proof_ReadSystem_1.calls g219 t224 t225 t226 t227 t228 w _ (gb := gx) (hX := ?side9) ?side1 ?side2 A7.out).mono ?_); (case side9 => exact HX0.out); (case side1 => repeat (first | (with_reducible first | exact HI219.out | apply IsS145.alloc | apply IsS145.drewN | apply IsS145.drew | apply IsS145.set_0 | apply IsS145.set_1 | refine IsS145.far ?_ NB219_215.out _) | exact HI219.out)); (case side2 => repeat (first | (with_reducible first | exact HB.out | apply below_alloc | apply pw_below_drewN | apply below_drew1 | refine below_set ?_ (IsS145.ge HI219.out) | refine below_set ?_ GE215.out) | exact HB.out)); rintro e w15 ⟨rfl, hi, hb, hk⟩; replace HX0 := Aside0.mk (Boxed.keep HX0.out hk); (try clear hcX); have hcX := HX0.out.cell; replace BK215 := Aside0.mk (KeepBut.blk hk (g' := gb215) (o := .cells #[.int .i64 0, .int .i64 0, .int .i64 0, .int .i64 0, .int .i64 0, .slice none 0 0] 45 (0, 0)) (bk BK215.out) NB215_219.out (by simp)); replace HB := Aside0.mk hb; replace HI219 := Aside0.mk hi; (try clear hb); (try clear hb2); (try clear hk); (try clear hi)) | ((with_reducible refine gate_callee (f := 56) rfl ?_); refine goesL_ (some 24) rfl rfl Try.func56 (by kernel_rfl) rfl #[.pointer (some ⟨gx, 0, none⟩)] rfl (by (try simp only [List.map_toArray, List.map_cons, List.map_nil]); first | done | rfl | (simp only [List.length_drop, List.length_take]; rfl)) ?_; (with_reducible refine (proof_ReadSystem_1.calls g219 t227 t228 t229 t230 t231 w _ (gb := gx) (hX := ?side9) ?side1 ?side2 A8.out).mono ?_); (case side9 => exact HX0.out); (case side1 => repeat (first | (with_reducible first | exact HI219.out | apply IsS145.alloc | apply IsS145.drewN | apply IsS145.drew | apply IsS145.set_0 | apply IsS145.set_1 | refine IsS145.far ?_ NB219_215.out _) | exact HI219.out)); (case side2 => repeat (first | (with_reducible first | exact HB.out | apply below_alloc | apply pw_below_drewN | apply below_drew1 | refine below_set ?_ (IsS145.ge HI219.out) | refine below_set ?_ GE215.out) | exact HB.out)); rintro e w16 ⟨rfl, hi, hb, hk⟩; refine ⟨_, rfl, ?_⟩; replace HX0 := Aside0.mk (Boxed.keep HX0.out hk); (try clear hcX); have hcX := HX0.out.cell; replace BK215 := Aside0.mk (KeepBut.blk hk (g' := gb215) (o := .cells #[.int .i64 0, .int .i64 0, .int .i64 0, .int .i64 0, .int .i64 0, .slice none 0 0] 45 (0, 0)) (bk BK215.out) NB215_219.out (by simp)); replace HB := Aside0.mk hb; replace HI219 := Aside0.mk hi; (try clear hb); (try clear hb2); (try clear hk); (try clear hi)) | (go_at_call 56; (with_reducible refine (proof_ReadSystem_1.calls g219 t227 t228 t229 t230 t231 w _ (gb := gx) (hX := ?side9) ?side1 ?side2 A8.out).mono ?_); (case side9 => exact HX0.out); (case side1 => repeat (first | (with_reducible first | exact HI219.out | apply IsS145.alloc | apply IsS145.drewN | apply IsS145.drew | apply IsS145.set_0 | apply IsS145.set_1 | refine IsS145.far ?_ NB219_215.out _) | exact HI219.out)); (case side2 => repeat (first | (with_reducible first | exact HB.out | apply below_alloc | apply pw_below_drewN | apply below_drew1 | refine below_set ?_ (IsS145.ge HI219.out) | refine below_set ?_ GE215.out) | exact HB.out)); rintro e w16 ⟨rfl, hi, hb, hk⟩; replace HX0 := Aside0.mk (Boxed.keep HX0.out hk); (try clear hcX); have hcX := HX0.out.cell; replace BK215 := Aside0.mk (KeepBut.blk hk (g' := gb215) (o := .cells #[.int .i64 0, .int .i64 0, .int .i64 0, .int .i64 0, .int .i64 0, .slice none 0 0] 45 (0, 0)) (bk BK215.out) NB215_219.out (by simp)); replace HB := Aside0.mk hb; replace HI219 := Aside0.mk hi; (try clear hb); (try clear hb2); (try clear hk); (try clear hi)) | ((with_reducible refine gate_callee (f := 56) rfl ?_); refine goesL_ (some 26) rfl rfl Try.func56 (by kernel_rfl) rfl #[.pointer (some ⟨gx, 0, none⟩)] rfl (by (try simp only [List.map_toArray, List.map_cons, List.map_nil]); first | done | rfl | (simp only [List.length_drop, List.length_take]; rfl)) ?_; (with_reducible refine (proof_ReadSystem_1.calls g219 t230 t231 t232 t233 t234 w _ (gb := gx) (hX := ?side9) ?side1 ?side2 A9.out).mono ?_); (case side9 => exact HX0.out); (case side1 => repeat (first | (with_reducible first | exact HI219.out | apply IsS145.alloc | apply IsS145.drewN | apply IsS145.drew | apply IsS145.set_0 | apply IsS145.set_1 | refine IsS145.far ?_ NB219_215.out _) | exact HI219.out)); (case side2 => repeat (first | (with_reducible first | exact HB.out | apply below_alloc | apply pw_below_drewN | apply below_drew1 | refine below_set ?_ (IsS145.ge HI219.out) | refine below_set ?_ GE215.out) | exact HB.out)); rintro e w17 ⟨rfl, hi, hb, hk⟩; refine ⟨_, rfl, ?_⟩; replace HX0 := Aside0.mk (Boxed.keep HX0.out hk); (try clear hcX); have hcX := HX0.out.cell; replace BK215 := Aside0.mk (KeepBut.blk hk (g' := gb215) (o := .cells #[.int .i64 0, .int .i64 0, .int .i64 0, .int .i64 0, .int .i64 0, .slice none 0 0] 45 (0, 0)) (bk BK215.out) NB215_219.out (by simp)); replace HB := Aside0.mk hb; replace HI219 := Aside0.mk hi; (try clear hb); (try clear hb2); (try clear hk); (try clear hi)) | (go_at_call 56; (with_reducible refine (proof_ReadSystem_1.calls g219 t230 t231 t232 t233 t234 w _ (gb := gx) (hX := ?side9) ?side1 ?side2 A9.out).mono ?_); (case side9 => exact HX0.out); (case side1 => repeat (first | (with_reducible first | exact HI219.out | apply IsS145.alloc | apply IsS145.drewN | apply IsS145.drew | apply IsS145.set_0 | apply IsS145.set_1 | refine IsS145.far ?_ NB219_215.out _) | exact HI219.out)); (case side2 => repeat (first | (with_reducible first | exact HB.out | apply below_alloc | apply pw_below_drewN | apply below_drew1 | refine below_set ?_ (IsS145.ge HI219.out) | refine below_set ?_ GE215.out) | exact HB.out)); rintro e w17 ⟨rfl, hi, hb, hk⟩; replace HX0 := Aside0.mk (Boxed.keep HX0.out hk); (try clear hcX); have hcX := HX0.out.cell; replace BK215 := Aside0.mk (KeepBut.blk hk (g' := gb215) (o := .cells #[.int .i64 0, .int .i64 0, .int .i64 0, .int .i64 0, .int .i64 0, .slice none 0 0] 45 (0, 0)) (bk BK215.out) NB215_219.out (by simp)); replace HB := Aside0.mk hb; replace HI219 := Aside0.mk hi; (try clear hb); (try clear hb2); (try clear hk); (try clear hi)) | ((with_reducible refine gate_dst (N := 7) rfl ?_); refine box_event ?hg (N := 7) ?hd (cs := #[.int .i64 0, .int .i64 0, .int .i64 0, .int .i64 0, .int .i64 0, .slice none 0 0]) (t := 45) ?hr ?_; (case hd => rfl); (case hg => rfl); (case hr => first | (go_simp; done) | (go_simp; rfl)); intro gb235 hg w18 hbox hb; have BK235 := Aside0.mk hbox; have GW235 := Aside1.mk ((by rw [hg]; exact (below_size (by repeat (first | (with_reducible first | exact HB.out | apply below_alloc | apply pw_below_drewN | apply below_drew1 | refine below_set ?_ (IsS145.ge HI219.out) | refine below_set ?_ GE215.out) | exact HB.out))) : w.heap.size ≤ gb235)); have GE235 := Aside1.mk ((by rw [hg]; exact (below_size (by repeat (first | (with_reducible first | exact HB.out | apply below_alloc | apply pw_below_drewN | apply below_drew1 | refine below_set ?_ (IsS145.ge HI219.out) | refine below_set ?_ GE215.out) | exact HB.out))) : w.heap.size ≤ gb235)); have NB215_235 := nl hg BK215; have NB235_215 := ng hg BK215; have NB219_235 := Aside0.mk ((by rw [hg]; exact Nat.ne_of_lt (IsS145.lt (show IsS145 w _ g219 t233 t234 from by repeat (first | (with_reducible first | exact HI219.out | apply IsS145.alloc | apply IsS145.drewN | apply IsS145.drew | apply IsS145.set_0 | apply IsS145.set_1 | refine IsS145.far ?_ NB219_215.out _) | exact HI219.out))) : g219 ≠ gb235)); have NB235_219 := Aside0.mk ((by rw [hg]; exact Nat.ne_of_gt (IsS145.lt (show IsS145 w _ g219 t233 t234 from by repeat (first | (with_reducible first | exact HI219.out | apply IsS145.alloc | apply IsS145.drewN | apply IsS145.drew | apply IsS145.set_0 | apply IsS145.set_1 | refine IsS145.far ?_ NB219_215.out _) | exact HI219.out))) : gb235 ≠ g219)); replace BK215 := bb BK215 hb; replace HB := Aside0.mk (below_step (by repeat (first | (with_reducible first | exact HB.out | apply below_alloc | apply pw_below_drewN | apply below_drew1 | refine below_set ?_ (IsS145.ge HI219.out) | refine below_set ?_ GE215.out) | exact HB.out)) hb); replace HI219 := Aside0.mk (IsS145.below (by repeat (first | (with_reducible first | exact HI219.out | apply IsS145.alloc | apply IsS145.drewN | apply IsS145.drew | apply IsS145.set_0 | apply IsS145.set_1 | refine IsS145.far ?_ NB219_215.out _) | exact HI219.out)) hb); have NX7 := Aside0.mk (show gx ≠ gb235 from by rw [hg]; exact Nat.ne_of_lt HX0.out.lt); replace HX0 := Aside0.mk (HX0.out.below hb); clear hcX; have hcX := HX0.out.cell; have hnbX := NX7.out; have hncX := NX7.out.symm; clear hb hbox hg; have hnb19 := NB235_215.out; have hnc19 := NB215_235.out; have hnb20 := NB235_219.out; have hnc20 := NB219_235.out; have hcz21_0 : w18.cell? ⟨gb235, 0, none⟩ = some (.int .i64 0) := (blk_cell BK235.out 0).trans rfl; have hcz21_1 : w18.cell? ⟨gb235, 1, none⟩ = some (.int .i64 0) := (blk_cell BK235.out 1).trans rfl; have hcz21_2 : w18.cell? ⟨gb235, 2, none⟩ = some (.int .i64 0) := (blk_cell BK235.out 2).trans rfl; have hcz21_3 : w18.cell? ⟨gb235, 3, none⟩ = some (.int .i64 0) := (blk_cell BK235.out 3).trans rfl; have hcz21_4 : w18.cell? ⟨gb235, 4, none⟩ = some (.int .i64 0) := (blk_cell BK235.out 4).trans rfl; have hcz21_5 : w18.cell? ⟨gb235, 5, none⟩ = some (.slice none 0 0) := (blk_cell BK235.out 5).trans rfl; have hfz21_0 := blk_frozen BK235.out 0; have hfz21_1 := blk_frozen BK235.out 1; have hfz21_2 := blk_frozen BK235.out 2; have hfz21_3 := blk_frozen BK235.out 3; have hfz21_4 := blk_frozen BK235.out 4; have hfz21_5 := blk_frozen BK235.out 5) | ((with_reducible refine gate_callee (f := 35) rfl ?_); refine goesL_ (some 29) rfl rfl Try.func35 (by kernel_rfl) rfl #[.pointer (some ⟨g219, 0, none⟩), .int .i64 30] rfl (by (try simp only [List.map_toArray, List.map_cons, List.map_nil]); first | done | rfl | (simp only [List.length_drop, List.length_take]; rfl)) ?_; (with_reducible refine (octet_Reader_Num.calls g219 t233 t234 30 t236 t237 t238 w _ ?side1 ?side2 A10.out).mono ?_); (case side1 => repeat (first | (with_reducible first | exact HI219.out | apply IsS145.alloc | apply IsS145.drewN | apply IsS145.drew | apply IsS145.set_0 | apply IsS145.set_1 | refine IsS145.far ?_ NB219_215.out _ | refine IsS145.far ?_ NB219_235.out _) | exact HI219.out)); (case side2 => repeat (first | (with_reducible first | exact HB.out | apply below_alloc | apply pw_below_drewN | apply below_drew1 | refine below_set ?_ (IsS145.ge HI219.out) | refine below_set ?_ GE215.out | refine below_set ?_ GE235.out) | exact HB.out)); rintro e w22 ⟨rfl, hi, hb, hk⟩; refine ⟨_, rfl, ?_⟩; replace HX0 := Aside0.mk (Boxed.keep (by repeat (first | (with_reducible exact HX0.out) | (refine Boxed.far ?_ NX7.out _) | (refine Boxed.drewN ?_ _) | (refine Boxed.drew ?_) | (refine Boxed.alloc ?_ _))) hk); (try clear hcX); have hcX := HX0.out.cell; replace BK215 := Aside0.mk (KeepBut.blk hk (g' := gb215) (o := .cells #[.int .i64 0, .int .i64 0, .int .i64 0, .int .i64 0, .int .i64 0, .slice none 0 0] 45 (0, 0)) (by (with_reducible repeat refine bl ?_); refine blk_far ?_ NB215_235.out _; (with_reducible repeat refine bl ?_); refine blk_far ?_ NB215_235.out _; (with_reducible repeat refine bl ?_); refine blk_far ?_ NB215_235.out _; (with_reducible repeat refine bl ?_); refine blk_far ?_ NB215_235.out _; (with_reducible repeat refine bl ?_); refine blk_far ?_ NB215_235.out _; (with_reducible repeat refine bl ?_); refine blk_far ?_ NB215_235.out _; (with_reducible repeat refine bl ?_); exact BK215.out) NB215_219.out (by simp)); replace BK235 := Aside0.mk (KeepBut.blk hk (g' := gb235) (o := .cells #[.int .i64 t220, .int .i64 t223, .int .i64 t226, .int .i64 t229, .int .i64 t232, .slice none 0 0] 45 (0, 0)) (by (with_reducible repeat refine bl ?_); refine blk_put (cs := #[.int .i64 t220, .int .i64 t223, .int .i64 t226, .int .i64 t229, .int .i64 t232, .slice none 0 0]) ?_ 5 _ rfl; (with_reducible repeat refine bl ?_); refine blk_put (cs := #[.int .i64 t220, .int .i64 t223, .int .i64 t226, .int .i64 t229, .int .i64 0, .slice none 0 0]) ?_ 4 _ rfl; (with_reducible repeat refine bl ?_); refine blk_put (cs := #[.int .i64 t220, .int .i64 t223, .int .i64 t226, .int .i64 0, .int .i64 0, .slice none 0 0]) ?_ 3 _ rfl; (with_reducible repeat refine bl ?_); refine blk_put (cs := #[.int .i64 t220, .int .i64 t223, .int .i64 0, .int .i64 0, .int .i64 0, .slice none 0 0]) ?_ 2 _ rfl; (with_reducible repeat refine bl ?_); refine blk_put (cs := #[.int .i64 t220, .int .i64 0, .int .i64 0, .int .i64 0, .int .i64 0, .slice none 0 0]) ?_ 1 _ rfl; (with_reducible repeat refine bl ?_); refine blk_put (cs := #[.int .i64 0, .int .i64 0, .int .i64 0, .int .i64 0, .int .i64 0, .slice none 0 0]) ?_ 0 _ rfl; (with_reducible repeat refine bl ?_); exact BK235.out) NB235_219.out (by simp)); replace HB := Aside0.mk hb; replace HI219 := Aside0.mk hi; (try clear hb); (try clear hb2); (try clear hk); (try clear hi)))
  go_loopg [30] k (fun kq v30 w' => ∃ (x30_1 : Int) (x220000_1 : ByteArray) (x220001_1 : Int) (x236005_1 : List (S107)) (u236005 : Value), v30 = .int .i64 x30_1 ∧ Aside0 (proof_ReadSystem.l0 kq t236 x30_1 x220000_1 x220001_1 t220 t223 t226 t229 t232 x236005_1 = some (r1, r2, r3, r4, r5, r6, r7)) ∧ Aside0 (kq ≤ k) ∧ Aside0 (Kd.R k107 107 w' w.heap.size (fun _ => True) u236005 x236005_1) ∧ Aside0 (w'.heap[gb215]? = some (.cells #[.int .i64 0, .int .i64 0, .int .i64 0, .int .i64 0, .int .i64 0, (.slice none 0 0)] 45 (0, 0))) ∧ Aside0 (w'.heap[gb235]? = some (.cells #[.int .i64 t220, .int .i64 t223, .int .i64 t226, .int .i64 t229, .int .i64 t232, u236005] 45 (0, 0))) ∧ Aside0 (IsS145 w w' g219 x220000_1 x220001_1) ∧ Aside0 (Boxed w' gx g219) ∧ Aside0 (Below w.heap.size w w'))
  case atStart => exact ⟨(0), (t237), (t238), (([] : List (S107))), (.slice none 0 0), (by first | rfl | (simp; done) | (simp [*]; done)), H', ⟨Nat.le_refl _⟩, ⟨by first | exact Kd.R_nil _ _ _ _ _ | exact Kd.N_nil _ _ _ _ _ | exact Kd.V_nil _ _ _ _ _ | exact Kd.Q_nil _ _ _ _ _ | exact Kd.S_nil _ _ _ _ _⟩, ⟨bk BK215.out⟩, ⟨bk BK235.out⟩, ⟨by repeat (first | (with_reducible first | exact HI219.out | apply IsS145.alloc | apply IsS145.drewN | apply IsS145.drew | apply IsS145.set_0 | apply IsS145.set_1 | refine IsS145.far ?_ NB219_215.out _ | refine IsS145.far ?_ NB219_235.out _) | exact HI219.out)⟩, ⟨by repeat (first | (with_reducible exact HX0.out) | (refine Boxed.far ?_ NX7.out _) | (refine Boxed.drewN ?_ _) | (refine Boxed.drew ?_) | (refine Boxed.alloc ?_ _))⟩, ⟨by repeat (first | (with_reducible first | exact HB.out | apply below_alloc | apply pw_below_drewN | apply below_drew1 | refine below_set ?_ (IsS145.ge HI219.out) | refine below_set ?_ GE215.out | refine below_set ?_ GE235.out) | exact HB.out)⟩⟩
  case round =>
   clear H'
   try clear c1
   try clear c2
   try clear p2
   try clear c3
   try clear c3b0
   try clear c3b1
   try clear c5
   try clear c19
   try clear c20
   try clear c22
   try clear hcz21_0
   try clear hcz21_1
   try clear hcz21_2
   try clear hcz21_3
   try clear hcz21_4
   try clear hcz21_5
   try clear hfz21_0
   try clear hfz21_1
   try clear hfz21_2
   try clear hfz21_3
   try clear hfz21_4
   try clear hfz21_5
   obtain ⟨x30_1, x220000_1, x220001_1, x236005_1, u236005, rfl, HA, HK1, HO_236005, BK215, BK235, HI219, HX0, HB⟩ := hrel
   have hcX := HX0.out.cell
   cases gk with
   | zero => exact absurd HA.out (by simp [proof_ReadSystem.l0])
   | succ k1 =>
    have H := HA.out
    clear HA
    simp only [proof_ReadSystem.l0] at H
    by_cases c23 : x30_1 < t236
    ·rw [if_pos c23] at H
     have c23b0 : decide (x30_1 < t236) = true := decide_eq_true c23
     clear c23
     replace H := Option.bind_eq_some_iff.mp H
     obtain ⟨⟨t239, t240, t241⟩, A240, H⟩ := H
     replace H : ((proof_ReadSystem_1.f t240 t241).bind fun bt242 => ((proof_ReadSystem_1.f bt242.2.1 bt242.2.2).bind fun bt245 => ((proof_ReadSystem_1.f bt245.2.1 bt245.2.2).bind fun bt248 => ((proof_ReadSystem_1.f bt248.2.1 bt248.2.2).bind fun bt251 => (if x236005_1.length < 3518437208883 then (proof_ReadSystem.l0 k1 t236 (wrap64 (x30_1 + 1)) bt251.2.1 bt251.2.2 t220 t223 t226 t229 t232 (x236005_1 ++ [(⟨t239, bt242.1, bt245.1, bt248.1, bt251.1⟩ : S107)])) else (none)))))) = some (r1, r2, r3, r4, r5, r6, r7) := H
     have A24 := Aside0.mk A240
     clear A240
     replace H := Option.bind_eq_some_iff.mp H
     obtain ⟨⟨t242, t243, t244⟩, A250, H⟩ := H
     replace H : ((proof_ReadSystem_1.f t243 t244).bind fun bt245 => ((proof_ReadSystem_1.f bt245.2.1 bt245.2.2).bind fun bt248 => ((proof_ReadSystem_1.f bt248.2.1 bt248.2.2).bind fun bt251 => (if x236005_1.length < 3518437208883 then (proof_ReadSystem.l0 k1 t236 (wrap64 (x30_1 + 1)) bt251.2.1 bt251.2.2 t220 t223 t226 t229 t232 (x236005_1 ++ [(⟨t239, t242, bt245.1, bt248.1, bt251.1⟩ : S107)])) else (none))))) = some (r1, r2, r3, r4, r5, r6, r7) := H
     have A25 := Aside0.mk A250
     clear A250
     replace H := Option.bind_eq_some_iff.mp H
     obtain ⟨⟨t245, t246, t247⟩, A260, H⟩ := H
     replace H : ((proof_ReadSystem_1.f t246 t247).bind fun bt248 => ((proof_ReadSystem_1.f bt248.2.1 bt248.2.2).bind fun bt251 => (if x236005_1.length < 3518437208883 then (proof_ReadSystem.l0 k1 t236 (wrap64 (x30_1 + 1)) bt251.2.1 bt251.2.2 t220 t223 t226 t229 t232 (x236005_1 ++ [(⟨t239, t242, t245, bt248.1, bt251.1⟩ : S107)])) else (none)))) = some (r1, r2, r3, r4, r5, r6, r7) := H
     have A26 := Aside0.mk A260
     clear A260
     replace H := Option.bind_eq_some_iff.mp H
     obtain ⟨⟨t248, t249, t250⟩, A270, H⟩ := H
     replace H : ((proof_ReadSystem_1.f t249 t250).bind fun bt251 => (if x236005_1.length < 3518437208883 then (proof_ReadSystem.l0 k1 t236 (wrap64 (x30_1 + 1)) bt251.2.1 bt251.2.2 t220 t223 t226 t229 t232 (x236005_1 ++ [(⟨t239, t242, t245, t248, bt251.1⟩ : S107)])) else (none))) = some (r1, r2, r3, r4, r5, r6, r7) := H
     have A27 := Aside0.mk A270
     clear A270
     replace H := Option.bind_eq_some_iff.mp H
     obtain ⟨⟨t251, t252, t253⟩, A280, H⟩ := H
     replace H : (if x236005_1.length < 3518437208883 then (proof_ReadSystem.l0 k1 t236 (wrap64 (x30_1 + 1)) t252 t253 t220 t223 t226 t229 t232 (x236005_1 ++ [(⟨t239, t242, t245, t248, t251⟩ : S107)])) else (none)) = some (r1, r2, r3, r4, r5, r6, r7) := H
     have A28 := Aside0.mk A280
     clear A280
     by_cases c29 : x236005_1.length < 3518437208883
     ·rw [if_pos c29] at H
      have LMc29 := Aside0.mk c29
      clear c29
      obtain ⟨y254, hy254⟩ : ∃ y_ : List (S107), y_ = (x236005_1 ++ [(⟨t239, t242, t245, t248, t251⟩ : S107)]) := ⟨_, rfl⟩
      replace H : (proof_ReadSystem.l0 k1 t236 (wrap64 (x30_1 + 1)) t252 t253 t220 t223 t226 t229 t232 y254) = some (r1, r2, r3, r4, r5, r6, r7) := by first | (rw [hy254]; with_reducible exact H) | (have H2_ := (Option.bind_some _ _).symm.trans H; rw [hy254]; with_reducible exact H2_) | (have H2_ := (Option.bind_some _ _).symm.trans H; with_reducible exact H2_) | with_reducible exact H | (rw [hy254]; exact H) | exact H
      have Ny254 := Aside0.mk hy254
      clear hy254
      have H' := Aside0.mk H
      clear H
      try go_wp2
      replace HO_236005 := Aside0.mk (Kd.R_drew HO_236005.out)
      replace BK215 := Aside0.mk (blk_drew BK215.out)
      replace BK235 := Aside0.mk (blk_drew BK235.out)
      replace HI219 := Aside0.mk (IsS145.drew HI219.out)
      replace HX0 := Aside0.mk HX0.out.drew
      replace HB := Aside0.mk (below_drew1 HB.out)
      refine start_ (n := 17) (S := fun w' => w'.cell? ⟨gb235, 0, none⟩ = some (.int .i64 t220) ∧ w'.cell? ⟨gb235, 1, none⟩ = some (.int .i64 t223) ∧ w'.cell? ⟨gb235, 2, none⟩ = some (.int .i64 t226) ∧ w'.cell? ⟨gb235, 3, none⟩ = some (.int .i64 t229) ∧ w'.cell? ⟨gb235, 4, none⟩ = some (.int .i64 t232) ∧ w'.cell? ⟨gb235, 5, none⟩ = some (u236005)) (ds := [16]) #[false, false, false, false, false, false, false, false, false, false, false, false, false, false, false, false, false] (by kernel_rfl) rfl rfl ⟨(blk_cell BK235.out 0).trans rfl, (blk_cell BK235.out 1).trans rfl, (blk_cell BK235.out 2).trans rfl, (blk_cell BK235.out 3).trans rfl, (blk_cell BK235.out 4).trans rfl, (blk_cell BK235.out 5).trans rfl⟩ (fun hHeld => ?_); refine with_tabW proof_ReadSystem.tab9 proof_ReadSystem.bits9 (fun HT_ HW_ => ?_)
      generalize wr.drew = w30 at HO_236005 BK215 BK235 HI219 HX0 HB hHeld ⊢
      refine pure_ (i := 0) (N := some 32) (v := ?_) (a' := ?_) #[true, false, false, false, false, false, false, false, false, false, false, false, false, false, false, false, false] rfl rfl (any_of HT_.out (by kernel_rfl)) (fun _ _ _ h => h) (Or.inl ⟨by rfl, ?_⟩) ?_ ?_
      rotate_left
      ·intro w'
       go_simp
       with_reducible rfl
      rotate_left
      ·simp only [Act.put, List.setIfInBounds_toArray, List.set_cons_zero, List.set_cons_succ, i64_w, i32_w]
       rfl
      refine pure_ (i := 2) (N := some 34) (v := ?_) (a' := ?_) #[true, false, true, false, false, false, false, false, false, false, false, false, false, false, false, false, false] rfl rfl (any_of HT_.out (by kernel_rfl)) (fun _ _ _ h => h) (Or.inl ⟨by rfl, ?_⟩) ?_ ?_
      rotate_left
      ·intro w'
       go_simp
       with_reducible rfl
      rotate_left
      ·simp only [Act.put, List.setIfInBounds_toArray, List.set_cons_zero, List.set_cons_succ, i64_w, i32_w]
       rfl
      refine pure_ (i := 4) (N := some 36) (v := ?_) (a' := ?_) #[true, false, true, false, true, false, false, false, false, false, false, false, false, false, false, false, false] rfl rfl (any_of HT_.out (by kernel_rfl)) (fun _ _ _ h => h) (Or.inl ⟨by rfl, ?_⟩) ?_ ?_
      rotate_left
      ·intro w'
       go_simp
       with_reducible rfl
      rotate_left
      ·simp only [Act.put, List.setIfInBounds_toArray, List.set_cons_zero, List.set_cons_succ, i64_w, i32_w]
       rfl
      refine pure_ (i := 6) (N := some 38) (v := ?_) (a' := ?_) #[true, false, true, false, true, false, true, false, false, false, false, false, false, false, false, false, false] rfl rfl (any_of HT_.out (by kernel_rfl)) (fun _ _ _ h => h) (Or.inl ⟨by rfl, ?_⟩) ?_ ?_
      rotate_left
      ·intro w'
       go_simp
       with_reducible rfl
      rotate_left
      ·simp only [Act.put, List.setIfInBounds_toArray, List.set_cons_zero, List.set_cons_succ, i64_w, i32_w]
       rfl
      refine pure_ (i := 8) (N := some 40) (v := ?_) (a' := ?_) #[true, false, true, false, true, false, true, false, true, false, false, false, false, false, false, false, false] rfl rfl (any_of HT_.out (by kernel_rfl)) (fun _ _ _ h => h) (Or.inl ⟨by rfl, ?_⟩) ?_ ?_
      rotate_left
      ·intro w'
       go_simp
       with_reducible rfl
      rotate_left
      ·simp only [Act.put, List.setIfInBounds_toArray, List.set_cons_zero, List.set_cons_succ, i64_w, i32_w]
       rfl
      refine pure_ (i := 10) (N := some 42) (v := ?_) (a' := ?_) #[true, false, true, false, true, false, true, false, true, false, true, false, false, false, false, false, false] rfl rfl (any_of HT_.out (by kernel_rfl)) (fun _ _ _ h => h) (Or.inl ⟨by rfl, ?_⟩) ?_ ?_
      rotate_left
      ·intro w'
       go_simp
       with_reducible rfl
      rotate_left
      ·simp only [Act.put, List.setIfInBounds_toArray, List.set_cons_zero, List.set_cons_succ, i64_w, i32_w]
       rfl
      refine take_ (i := 1) (N := some 33) (v := ?_) (a' := ?_) #[true, true, true, false, true, false, true, false, true, false, true, false, false, false, false, false, false] rfl rfl (take_ofW HT_.out HW_.out (by kernel_rfl)) (fun _ _ _ h => h) (Or.inl ⟨by rfl, ?_⟩) hHeld ?_ ?_
      rotate_left
      ·rintro w' ⟨s0, s1, s2, s3, s4, s5⟩
       go_simp
       with_reducible rfl
      rotate_left
      ·simp only [Act.put, List.setIfInBounds_toArray, List.set_cons_zero, List.set_cons_succ, i64_w, i32_w]
       rfl
      refine one_ (i := 3) (N := some 35) #[true, true, true, true, true, false, true, false, true, false, true, false, false, false, false, false, false] rfl rfl (one_of HT_.out (by kernel_rfl)) (by decide) (fun K hK => ?_)
      refine goesV_ Try.func56 (by kernel_rfl) rfl (args := #[.pointer (some ⟨gx, 0, none⟩)]) (cap := #[.pointer (some ⟨gx, 0, none⟩)]) (by rfl) rfl rfl (by rfl) (by simp) ?_
      with_reducible refine (proof_ReadSystem_1.calls g219 x220000_1 x220001_1 t239 t240 t241 w _ (gb := gx) (hX := ?side9) ?side1 ?side2 A24.out).mono ?_
      (case side9 => exact HX0.out)
      (case side1 => repeat (first | (with_reducible first | exact HI219.out | apply IsS145.alloc | apply IsS145.drewN | apply IsS145.drew | apply IsS145.set_0 | apply IsS145.set_1 | refine IsS145.far ?_ NB219_215.out _ | refine IsS145.far ?_ NB219_235.out _) | exact HI219.out))
      (case side2 => repeat (first | (with_reducible first | exact HB.out | apply below_alloc | apply pw_below_drewN | apply below_drew1 | refine below_set ?_ (IsS145.ge HI219.out) | refine below_set ?_ GE215.out | refine below_set ?_ GE235.out) | exact HB.out))
      rintro e w31 ⟨rfl, hi, hb, hk⟩
      refine ⟨_, rfl, ?_⟩
      replace HO_236005 := Aside0.mk (Kd.R_mono (Kd.R_keep (IsS145.apart (show IsS145 w _ g219 x220000_1 x220001_1 from by repeat (first | (with_reducible first | exact HI219.out | apply IsS145.alloc | apply IsS145.drewN | apply IsS145.drew | apply IsS145.set_0 | apply IsS145.set_1 | refine IsS145.far ?_ NB219_215.out _ | refine IsS145.far ?_ NB219_235.out _) | exact HI219.out)) (kr HO_236005.out) (by decide)) hk (fun _ h => h.2)) (fun _ h => h.1))
      replace BK215 := Aside0.mk (KeepBut.blk hk (g' := gb215) (o := .cells #[.int .i64 0, .int .i64 0, .int .i64 0, .int .i64 0, .int .i64 0, .slice none 0 0] 45 (0, 0)) (bk BK215.out) NB215_219.out (by simp))
      replace BK235 := Aside0.mk (KeepBut.blk hk (g' := gb235) (o := .cells #[.int .i64 t220, .int .i64 t223, .int .i64 t226, .int .i64 t229, .int .i64 t232, u236005] 45 (0, 0)) (bk BK235.out) NB235_219.out (by simp))
      replace HX0 := Aside0.mk (HX0.out.keep hk)
      replace HB := Aside0.mk hb
      replace HI219 := Aside0.mk hi
      (try clear hb)
      (try clear hb2)
      (try clear hk)
      (try clear hi)
      refine hK.out _ _ ⟨(blk_cell BK235.out 0).trans rfl, (blk_cell BK235.out 1).trans rfl, (blk_cell BK235.out 2).trans rfl, (blk_cell BK235.out 3).trans rfl, (blk_cell BK235.out 4).trans rfl, (blk_cell BK235.out 5).trans rfl⟩ (fun hHeld => ?_)
      clear hK K
      refine norm_ (a' := ?_) ?_ ?_
      rotate_left
      ·show Act.put _ (some 35) _ = _
       simp only [Act.put, List.setIfInBounds_toArray, List.set_cons_zero, List.set_cons_succ, i64_w, i32_w]
       rfl
      refine one_ (i := 5) (N := some 37) #[true, true, true, true, true, true, true, false, true, false, true, false, false, false, false, false, false] rfl rfl (one_of HT_.out (by kernel_rfl)) (by decide) (fun K hK => ?_)
      refine goesV_ Try.func56 (by kernel_rfl) rfl (args := #[.pointer (some ⟨gx, 0, none⟩)]) (cap := #[.pointer (some ⟨gx, 0, none⟩)]) (by rfl) rfl rfl (by rfl) (by simp) ?_
      with_reducible refine (proof_ReadSystem_1.calls g219 t240 t241 t242 t243 t244 w _ (gb := gx) (hX := ?side9) ?side1 ?side2 A25.out).mono ?_
      (case side9 => exact HX0.out)
      (case side1 => repeat (first | (with_reducible first | exact HI219.out | apply IsS145.alloc | apply IsS145.drewN | apply IsS145.drew | apply IsS145.set_0 | apply IsS145.set_1 | refine IsS145.far ?_ NB219_215.out _ | refine IsS145.far ?_ NB219_235.out _) | exact HI219.out))
      (case side2 => repeat (first | (with_reducible first | exact HB.out | apply below_alloc | apply pw_below_drewN | apply below_drew1 | refine below_set ?_ (IsS145.ge HI219.out) | refine below_set ?_ GE215.out | refine below_set ?_ GE235.out) | exact HB.out))
      rintro e w32 ⟨rfl, hi, hb, hk⟩
      refine ⟨_, rfl, ?_⟩
      replace HO_236005 := Aside0.mk (Kd.R_mono (Kd.R_keep (IsS145.apart (show IsS145 w _ g219 t240 t241 from by repeat (first | (with_reducible first | exact HI219.out | apply IsS145.alloc | apply IsS145.drewN | apply IsS145.drew | apply IsS145.set_0 | apply IsS145.set_1 | refine IsS145.far ?_ NB219_215.out _ | refine IsS145.far ?_ NB219_235.out _) | exact HI219.out)) (kr HO_236005.out) (by decide)) hk (fun _ h => h.2)) (fun _ h => h.1))
      replace BK215 := Aside0.mk (KeepBut.blk hk (g' := gb215) (o := .cells #[.int .i64 0, .int .i64 0, .int .i64 0, .int .i64 0, .int .i64 0, .slice none 0 0] 45 (0, 0)) (bk BK215.out) NB215_219.out (by simp))
      replace BK235 := Aside0.mk (KeepBut.blk hk (g' := gb235) (o := .cells #[.int .i64 t220, .int .i64 t223, .int .i64 t226, .int .i64 t229, .int .i64 t232, u236005] 45 (0, 0)) (bk BK235.out) NB235_219.out (by simp))
      replace HX0 := Aside0.mk (HX0.out.keep hk)
      replace HB := Aside0.mk hb
      replace HI219 := Aside0.mk hi
      (try clear hb)
      (try clear hb2)
      (try clear hk)
      (try clear hi)
      refine hK.out _ _ ⟨(blk_cell BK235.out 0).trans rfl, (blk_cell BK235.out 1).trans rfl, (blk_cell BK235.out 2).trans rfl, (blk_cell BK235.out 3).trans rfl, (blk_cell BK235.out 4).trans rfl, (blk_cell BK235.out 5).trans rfl⟩ (fun hHeld => ?_)
      clear hK K
      refine norm_ (a' := ?_) ?_ ?_
      rotate_left
      ·show Act.put _ (some 37) _ = _
       simp only [Act.put, List.setIfInBounds_toArray, List.set_cons_zero, List.set_cons_succ, i64_w, i32_w]
       rfl
      refine one_ (i := 7) (N := some 39) #[true, true, true, true, true, true, true, true, true, false, true, false, false, false, false, false, false] rfl rfl (one_of HT_.out (by kernel_rfl)) (by decide) (fun K hK => ?_)
      refine goesV_ Try.func56 (by kernel_rfl) rfl (args := #[.pointer (some ⟨gx, 0, none⟩)]) (cap := #[.pointer (some ⟨gx, 0, none⟩)]) (by rfl) rfl rfl (by rfl) (by simp) ?_
      with_reducible refine (proof_ReadSystem_1.calls g219 t243 t244 t245 t246 t247 w _ (gb := gx) (hX := ?side9) ?side1 ?side2 A26.out).mono ?_
      (case side9 => exact HX0.out)
      (case side1 => repeat (first | (with_reducible first | exact HI219.out | apply IsS145.alloc | apply IsS145.drewN | apply IsS145.drew | apply IsS145.set_0 | apply IsS145.set_1 | refine IsS145.far ?_ NB219_215.out _ | refine IsS145.far ?_ NB219_235.out _) | exact HI219.out))
      (case side2 => repeat (first | (with_reducible first | exact HB.out | apply below_alloc | apply pw_below_drewN | apply below_drew1 | refine below_set ?_ (IsS145.ge HI219.out) | refine below_set ?_ GE215.out | refine below_set ?_ GE235.out) | exact HB.out))
      rintro e w33 ⟨rfl, hi, hb, hk⟩
      refine ⟨_, rfl, ?_⟩
      replace HO_236005 := Aside0.mk (Kd.R_mono (Kd.R_keep (IsS145.apart (show IsS145 w _ g219 t243 t244 from by repeat (first | (with_reducible first | exact HI219.out | apply IsS145.alloc | apply IsS145.drewN | apply IsS145.drew | apply IsS145.set_0 | apply IsS145.set_1 | refine IsS145.far ?_ NB219_215.out _ | refine IsS145.far ?_ NB219_235.out _) | exact HI219.out)) (kr HO_236005.out) (by decide)) hk (fun _ h => h.2)) (fun _ h => h.1))
      replace BK215 := Aside0.mk (KeepBut.blk hk (g' := gb215) (o := .cells #[.int .i64 0, .int .i64 0, .int .i64 0, .int .i64 0, .int .i64 0, .slice none 0 0] 45 (0, 0)) (bk BK215.out) NB215_219.out (by simp))
      replace BK235 := Aside0.mk (KeepBut.blk hk (g' := gb235) (o := .cells #[.int .i64 t220, .int .i64 t223, .int .i64 t226, .int .i64 t229, .int .i64 t232, u236005] 45 (0, 0)) (bk BK235.out) NB235_219.out (by simp))
      replace HX0 := Aside0.mk (HX0.out.keep hk)
      replace HB := Aside0.mk hb
      replace HI219 := Aside0.mk hi
      (try clear hb)
      (try clear hb2)
      (try clear hk)
      (try clear hi)
      refine hK.out _ _ ⟨(blk_cell BK235.out 0).trans rfl, (blk_cell BK235.out 1).trans rfl, (blk_cell BK235.out 2).trans rfl, (blk_cell BK235.out 3).trans rfl, (blk_cell BK235.out 4).trans rfl, (blk_cell BK235.out 5).trans rfl⟩ (fun hHeld => ?_)
      clear hK K
      refine norm_ (a' := ?_) ?_ ?_
      rotate_left
      ·show Act.put _ (some 39) _ = _
       simp only [Act.put, List.setIfInBounds_toArray, List.set_cons_zero, List.set_cons_succ, i64_w, i32_w]
       rfl
      refine one_ (i := 9) (N := some 41) #[true, true, true, true, true, true, true, true, true, true, true, false, false, false, false, false, false] rfl rfl (one_of HT_.out (by kernel_rfl)) (by decide) (fun K hK => ?_)
      refine goesV_ Try.func56 (by kernel_rfl) rfl (args := #[.pointer (some ⟨gx, 0, none⟩)]) (cap := #[.pointer (some ⟨gx, 0, none⟩)]) (by rfl) rfl rfl (by rfl) (by simp) ?_
      with_reducible refine (proof_ReadSystem_1.calls g219 t246 t247 t248 t249 t250 w _ (gb := gx) (hX := ?side9) ?side1 ?side2 A27.out).mono ?_
      (case side9 => exact HX0.out)
      (case side1 => repeat (first | (with_reducible first | exact HI219.out | apply IsS145.alloc | apply IsS145.drewN | apply IsS145.drew | apply IsS145.set_0 | apply IsS145.set_1 | refine IsS145.far ?_ NB219_215.out _ | refine IsS145.far ?_ NB219_235.out _) | exact HI219.out))
      (case side2 => repeat (first | (with_reducible first | exact HB.out | apply below_alloc | apply pw_below_drewN | apply below_drew1 | refine below_set ?_ (IsS145.ge HI219.out) | refine below_set ?_ GE215.out | refine below_set ?_ GE235.out) | exact HB.out))
      rintro e w34 ⟨rfl, hi, hb, hk⟩
      refine ⟨_, rfl, ?_⟩
      replace HO_236005 := Aside0.mk (Kd.R_mono (Kd.R_keep (IsS145.apart (show IsS145 w _ g219 t246 t247 from by repeat (first | (with_reducible first | exact HI219.out | apply IsS145.alloc | apply IsS145.drewN | apply IsS145.drew | apply IsS145.set_0 | apply IsS145.set_1 | refine IsS145.far ?_ NB219_215.out _ | refine IsS145.far ?_ NB219_235.out _) | exact HI219.out)) (kr HO_236005.out) (by decide)) hk (fun _ h => h.2)) (fun _ h => h.1))
      replace BK215 := Aside0.mk (KeepBut.blk hk (g' := gb215) (o := .cells #[.int .i64 0, .int .i64 0, .int .i64 0, .int .i64 0, .int .i64 0, .slice none 0 0] 45 (0, 0)) (bk BK215.out) NB215_219.out (by simp))
      replace BK235 := Aside0.mk (KeepBut.blk hk (g' := gb235) (o := .cells #[.int .i64 t220, .int .i64 t223, .int .i64 t226, .int .i64 t229, .int .i64 t232, u236005] 45 (0, 0)) (bk BK235.out) NB235_219.out (by simp))
      replace HX0 := Aside0.mk (HX0.out.keep hk)
      replace HB := Aside0.mk hb
      replace HI219 := Aside0.mk hi
      (try clear hb)
      (try clear hb2)
      (try clear hk)
      (try clear hi)
      refine hK.out _ _ ⟨(blk_cell BK235.out 0).trans rfl, (blk_cell BK235.out 1).trans rfl, (blk_cell BK235.out 2).trans rfl, (blk_cell BK235.out 3).trans rfl, (blk_cell BK235.out 4).trans rfl, (blk_cell BK235.out 5).trans rfl⟩ (fun hHeld => ?_)
      clear hK K
      refine norm_ (a' := ?_) ?_ ?_
      rotate_left
      ·show Act.put _ (some 41) _ = _
       simp only [Act.put, List.setIfInBounds_toArray, List.set_cons_zero, List.set_cons_succ, i64_w, i32_w]
       rfl
      refine one_ (i := 11) (N := some 43) #[true, true, true, true, true, true, true, true, true, true, true, true, false, false, false, false, false] rfl rfl (one_of HT_.out (by kernel_rfl)) (by decide) (fun K hK => ?_)
      refine goesV_ Try.func56 (by kernel_rfl) rfl (args := #[.pointer (some ⟨gx, 0, none⟩)]) (cap := #[.pointer (some ⟨gx, 0, none⟩)]) (by rfl) rfl rfl (by rfl) (by simp) ?_
      with_reducible refine (proof_ReadSystem_1.calls g219 t249 t250 t251 t252 t253 w _ (gb := gx) (hX := ?side9) ?side1 ?side2 A28.out).mono ?_
      (case side9 => exact HX0.out)
      (case side1 => repeat (first | (with_reducible first | exact HI219.out | apply IsS145.alloc | apply IsS145.drewN | apply IsS145.drew | apply IsS145.set_0 | apply IsS145.set_1 | refine IsS145.far ?_ NB219_215.out _ | refine IsS145.far ?_ NB219_235.out _) | exact HI219.out))
      (case side2 => repeat (first | (with_reducible first | exact HB.out | apply below_alloc | apply pw_below_drewN | apply below_drew1 | refine below_set ?_ (IsS145.ge HI219.out) | refine below_set ?_ GE215.out | refine below_set ?_ GE235.out) | exact HB.out))
      rintro e w35 ⟨rfl, hi, hb, hk⟩
      refine ⟨_, rfl, ?_⟩
      replace HO_236005 := Aside0.mk (Kd.R_mono (Kd.R_keep (IsS145.apart (show IsS145 w _ g219 t249 t250 from by repeat (first | (with_reducible first | exact HI219.out | apply IsS145.alloc | apply IsS145.drewN | apply IsS145.drew | apply IsS145.set_0 | apply IsS145.set_1 | refine IsS145.far ?_ NB219_215.out _ | refine IsS145.far ?_ NB219_235.out _) | exact HI219.out)) (kr HO_236005.out) (by decide)) hk (fun _ h => h.2)) (fun _ h => h.1))
      replace BK215 := Aside0.mk (KeepBut.blk hk (g' := gb215) (o := .cells #[.int .i64 0, .int .i64 0, .int .i64 0, .int .i64 0, .int .i64 0, .slice none 0 0] 45 (0, 0)) (bk BK215.out) NB215_219.out (by simp))
      replace BK235 := Aside0.mk (KeepBut.blk hk (g' := gb235) (o := .cells #[.int .i64 t220, .int .i64 t223, .int .i64 t226, .int .i64 t229, .int .i64 t232, u236005] 45 (0, 0)) (bk BK235.out) NB235_219.out (by simp))
      replace HX0 := Aside0.mk (HX0.out.keep hk)
      replace HB := Aside0.mk hb
      replace HI219 := Aside0.mk hi
      (try clear hb)
      (try clear hb2)
      (try clear hk)
      (try clear hi)
      refine hK.out _ _ ⟨(blk_cell BK235.out 0).trans rfl, (blk_cell BK235.out 1).trans rfl, (blk_cell BK235.out 2).trans rfl, (blk_cell BK235.out 3).trans rfl, (blk_cell BK235.out 4).trans rfl, (blk_cell BK235.out 5).trans rfl⟩ (fun hHeld => ?_)
      clear hK K
      refine norm_ (a' := ?_) ?_ ?_
      rotate_left
      ·show Act.put _ (some 43) _ = _
       simp only [Act.put, List.setIfInBounds_toArray, List.set_cons_zero, List.set_cons_succ, i64_w, i32_w]
       rfl
      refine pure_ (i := 12) (N := some 44) (v := ?_) (a' := ?_) #[true, true, true, true, true, true, true, true, true, true, true, true, true, false, false, false, false] rfl rfl (any_of HT_.out (by kernel_rfl)) (fun _ _ _ h => h) (Or.inl ⟨by rfl, ?_⟩) ?_ ?_
      rotate_left
      ·intro w'
       go_simp
       with_reducible rfl
      rotate_left
      ·simp only [Act.put, List.setIfInBounds_toArray, List.set_cons_zero, List.set_cons_succ, i64_w, i32_w]
       rfl
      refine one_ (i := 13) (N := some 45) #[true, true, true, true, true, true, true, true, true, true, true, true, true, true, false, false, false] rfl rfl (one_of HT_.out (by kernel_rfl)) (by decide) (fun K hK => ?_)
      refine value_ (w1 := ?_) (v := ?_) (by rfl) rfl ?_ ?_
      rotate_left 2
      ·go_simp
       constructor
       ·rfl
       ·rfl
      refine hK.out _ _ ⟨(blk_cell (blk_alloc BK235.out _) 0).trans rfl, (blk_cell (blk_alloc BK235.out _) 1).trans rfl, (blk_cell (blk_alloc BK235.out _) 2).trans rfl, (blk_cell (blk_alloc BK235.out _) 3).trans rfl, (blk_cell (blk_alloc BK235.out _) 4).trans rfl, (blk_cell (blk_alloc BK235.out _) 5).trans rfl⟩ (fun hHeld => ?_)
      clear hK K
      refine norm_ (a' := ?_) ?_ ?_
      rotate_left
      ·show Act.put _ (some 45) _ = _
       simp only [Act.put, List.setIfInBounds_toArray, List.set_cons_zero, List.set_cons_succ, i64_w, i32_w]
       rfl
      refine one_ (i := 14) (N := some 46) #[true, true, true, true, true, true, true, true, true, true, true, true, true, true, true, false, false] rfl rfl (one_of HT_.out (by kernel_rfl)) (by decide) (fun K hK => ?_)
      refine Kd.R_append_step k107 (w0 := w) w.heap.size (by rfl) (.tmp 33) (.tmp 45) 43 107 (.agg #[(.int .i64 0), (.int .i64 0), (.int .i64 0), (.int .i64 0), (.int .i64 0)]) 40 rfl Try.underlying43 info107 rfl (by decide) (by omega) u236005 x236005_1 (⟨t239, t242, t245, t248, t251⟩ : S107) [.int .i64 t239, .int .i64 t242, .int .i64 t245, .int .i64 t248, .int .i64 t251] (fun _ => True) (fun _ => False) rfl rfl ?aP (fun _ hk => hk.elim) ?aF ?aO ?aB ?aS ?aL ?_
      (case aP => exact k107_mkM _ _ _ (⟨t239, t242, t245, t248, t251⟩ : S107))
      (case aB => exact (by repeat (first | (with_reducible first | exact HB.out | apply below_alloc | apply pw_below_drewN | apply below_drew1 | refine below_set ?_ (IsS145.ge HI219.out) | refine below_set ?_ GE215.out | refine below_set ?_ GE235.out) | exact HB.out)))
      (case aF => exact (fun _ _ => trivial))
      (case aO => exact (kr HO_236005.out))
      (case aS => exact (below_size (by repeat (first | (with_reducible first | exact HB.out | apply below_alloc | apply pw_below_drewN | apply below_drew1 | refine below_set ?_ (IsS145.ge HI219.out) | refine below_set ?_ GE215.out | refine below_set ?_ GE235.out) | exact HB.out))))
      (case aL => have := LMc29.out; omega)
      intro v255 w36 ho hb hg hat
      rw [← Ny254.out] at ho
      have HO256 := Aside0.mk ho
      replace BK215 := Aside0.mk (blk_grown (g := gb215) (o := .cells #[.int .i64 0, .int .i64 0, .int .i64 0, .int .i64 0, .int .i64 0, .slice none 0 0] 45 (0, 0)) (bk BK215.out) hg (Kd.R_ne HO_236005.out BK215.out (by decide)))
      replace BK235 := Aside0.mk (blk_grown (g := gb235) (o := .cells #[.int .i64 t220, .int .i64 t223, .int .i64 t226, .int .i64 t229, .int .i64 t232, u236005] 45 (0, 0)) (bk BK235.out) hg (Kd.R_ne HO_236005.out BK235.out (by decide)))
      replace HX0 := Aside0.mk (Boxed.grown HX0.out hg (Kd.R_ne HO_236005.out HX0.out.is (by decide)))
      replace HI219 := Aside0.mk (IsS145.grown (by repeat (first | (with_reducible first | exact HI219.out | apply IsS145.alloc | apply IsS145.drewN | apply IsS145.drew | apply IsS145.set_0 | apply IsS145.set_1 | refine IsS145.far ?_ NB219_215.out _ | refine IsS145.far ?_ NB219_235.out _) | exact HI219.out)) hg (IsS145.own_ne HI219.out HO_236005.out (by decide)))
      replace HB := Aside0.mk hb
      clear HO_236005
      clear ho hb hg hat
      obtain ⟨Ao37, co37, eo37⟩ := Kd.R_slice HO256.out
      (first | subst eo37 | (injection eo37 with f1_ f2_ f3_; have f4_ := f1_.symm; have f5_ := f3_.symm; clear f1_ f2_ f3_; subst f4_; subst f5_))
      refine hK.out _ _ ⟨(blk_cell BK235.out 0).trans rfl, (blk_cell BK235.out 1).trans rfl, (blk_cell BK235.out 2).trans rfl, (blk_cell BK235.out 3).trans rfl, (blk_cell BK235.out 4).trans rfl, (blk_cell BK235.out 5).trans rfl⟩ (fun hHeld => ?_)
      clear hK K
      refine norm_ (a' := ?_) ?_ ?_
      rotate_left
      ·show Act.put _ (some 46) _ = _
       simp only [Act.put, List.setIfInBounds_toArray, List.set_cons_zero, List.set_cons_succ, i64_w, i32_w]
       rfl
      refine pure_ (i := 15) (N := some 47) (v := ?_) (a' := ?_) #[true, true, true, true, true, true, true, true, true, true, true, true, true, true, true, true, false] rfl rfl (any_of HT_.out (by kernel_rfl)) (fun _ _ _ h => h) (Or.inl ⟨by rfl, ?_⟩) ?_ ?_
      rotate_left
      ·intro w'
       go_simp
       with_reducible rfl
      rotate_left
      ·simp only [Act.put, List.setIfInBounds_toArray, List.set_cons_zero, List.set_cons_succ, i64_w, i32_w]
       rfl
      refine last_ (i := 16) (N := none) #[true, true, true, true, true, true, true, true, true, true, true, true, true, true, true, true, true] rfl rfl (one_of HT_.out (by kernel_rfl)) (by decide) (fun K hK => ?_)
      have hs38 : w36.cell? ⟨gb235, 5, none⟩ = some (u236005) := (blk_cell BK235.out 5).trans rfl
      have hfs38 := blk_frozen BK235.out 5
      have hns38_0 := NB215_235.out
      have hms38_0 := NB235_215.out
      refine skip_ (w1 := ?_) (by rfl) rfl ?_ ?_
      rotate_left
      ·go_simp
       rfl
      refine hK.out _ _ ?_
      clear hK K
      refine done_ (done_of HT_.out (by kernel_rfl)) ?_
      try go_wp2
      go_roundg k1
      case measure => have := HK1.out; omega
      case rel => exact ⟨(wrap64 (x30_1 + 1)), (t252), (t253), (y254), (.slice Ao37 y254.length co37), (by first | rfl | (simp; done) | (simp [*]; done)), H', ⟨by have := HK1.out; omega⟩, ⟨by (with_reducible repeat refine kl ?_); exact Kd.R_mono (Kd.R_far (p := ⟨gb235, 5, none⟩) (Kd.R_types HO256.out BK235.out (by decide)) (fun _ hk => hk.2) (.slice Ao37 y254.length co37)) (fun _ hk => trivial)⟩, ⟨by (with_reducible repeat refine bl ?_); refine blk_far ?_ NB215_235.out _; (with_reducible repeat refine bl ?_); exact BK215.out⟩, ⟨by (with_reducible repeat refine bl ?_); refine blk_put (cs := #[.int .i64 t220, .int .i64 t223, .int .i64 t226, .int .i64 t229, .int .i64 t232, u236005]) ?_ 5 _ rfl; (with_reducible repeat refine bl ?_); exact BK235.out⟩, ⟨by repeat (first | (with_reducible first | exact HI219.out | apply IsS145.alloc | apply IsS145.drewN | apply IsS145.drew | apply IsS145.set_0 | apply IsS145.set_1 | refine IsS145.far ?_ NB219_215.out _ | refine IsS145.far ?_ NB219_235.out _) | exact HI219.out)⟩, ⟨by repeat (first | (with_reducible exact HX0.out) | (refine Boxed.far ?_ NX7.out _) | (refine Boxed.drewN ?_ _) | (refine Boxed.drew ?_) | (refine Boxed.alloc ?_ _))⟩, ⟨by repeat (first | (with_reducible first | exact HB.out | apply below_alloc | apply pw_below_drewN | apply below_drew1 | refine below_set ?_ (IsS145.ge HI219.out) | refine below_set ?_ GE215.out | refine below_set ?_ GE235.out) | exact HB.out)⟩⟩
     ·rw [if_neg c29] at H
      exact absurd H (by simp)
    ·rw [if_neg c23] at H
     have c23b0 : decide (x30_1 < t236) = false := decide_eq_false c23
     clear c23
     replace H := Option.bind_eq_some_iff.mp H
     obtain ⟨⟨t257, t258, t259⟩, A390, H⟩ := H
     replace H : (if t257 = 0 then ((circuit_Check.f k1 t220 t223 t226 t229 t232 x236005_1).bind fun t260 => (if t260 = 0 then (some (t220, t223, t226, t229, t232, x236005_1, 0)) else (some (0, 0, 0, 0, 0, ([] : List (S107)), 3)))) else (some (0, 0, 0, 0, 0, ([] : List (S107)), 3))) = some (r1, r2, r3, r4, r5, r6, r7) := H
     have A39 := Aside0.mk A390
     clear A390
     by_cases c40 : t257 = 0
     ·rw [if_pos c40] at H
      have c40b0 : (t257 == 0) = true := beq_iff_eq.mpr c40
      have c40b1 : (t257 != 0) = false := bne_eq_false_iff_eq.mpr c40
      clear c40
      replace H := Option.bind_eq_some_iff.mp H
      obtain ⟨t260, A410, H⟩ := H
      replace H : (if t260 = 0 then (some (t220, t223, t226, t229, t232, x236005_1, 0)) else (some (0, 0, 0, 0, 0, ([] : List (S107)), 3))) = some (r1, r2, r3, r4, r5, r6, r7) := H
      have A41 := Aside0.mk A410
      clear A410
      by_cases c42 : t260 = 0
      ·rw [if_pos c42] at H
       have c42b0 : (t260 == 0) = true := beq_iff_eq.mpr c42
       have c42b1 : (t260 != 0) = false := bne_eq_false_iff_eq.mpr c42
       clear c42
       simp only [Option.some.injEq, Prod.mk.injEq] at H
       obtain ⟨rfl, rfl, rfl, rfl, rfl, rfl, rfl⟩ := H
       go_wp2_with (first | ((with_reducible refine gate_callee (f := 36) rfl ?_); refine goesL_ (some 50) rfl rfl Try.func36 (by kernel_rfl) rfl #[.pointer (some ⟨g219, 0, none⟩)] rfl (by (try simp only [List.map_toArray, List.map_cons, List.map_nil]); first | done | rfl | (simp only [List.length_drop, List.length_take]; rfl)) ?_; (with_reducible refine (octet_Reader_End.calls g219 x220000_1 x220001_1 t257 t258 t259 w _ ?side1 ?side2 A39.out).mono ?_); (case side1 => repeat (first | (with_reducible first | exact HI219.out | apply IsS145.alloc | apply IsS145.drewN | apply IsS145.drew | apply IsS145.set_0 | apply IsS145.set_1 | refine IsS145.far ?_ NB219_215.out _ | refine IsS145.far ?_ NB219_235.out _) | exact HI219.out)); (case side2 => repeat (first | (with_reducible first | exact HB.out | apply below_alloc | apply pw_below_drewN | apply below_drew1 | refine below_set ?_ (IsS145.ge HI219.out) | refine below_set ?_ GE215.out | refine below_set ?_ GE235.out) | exact HB.out)); rintro e w43 ⟨rfl, hi, hb, hk⟩; refine ⟨_, rfl, ?_⟩; replace HO_236005 := Aside0.mk (Kd.R_mono (Kd.R_keep (IsS145.apart (show IsS145 w _ g219 x220000_1 x220001_1 from by repeat (first | (with_reducible first | exact HI219.out | apply IsS145.alloc | apply IsS145.drewN | apply IsS145.drew | apply IsS145.set_0 | apply IsS145.set_1 | refine IsS145.far ?_ NB219_215.out _ | refine IsS145.far ?_ NB219_235.out _) | exact HI219.out)) (kr HO_236005.out) (by decide)) hk (fun _ h => h.2)) (fun _ h => h.1)); replace BK215 := Aside0.mk (KeepBut.blk hk (g' := gb215) (o := .cells #[.int .i64 0, .int .i64 0, .int .i64 0, .int .i64 0, .int .i64 0, .slice none 0 0] 45 (0, 0)) (bk BK215.out) NB215_219.out (by simp)); replace BK235 := Aside0.mk (KeepBut.blk hk (g' := gb235) (o := .cells #[.int .i64 t220, .int .i64 t223, .int .i64 t226, .int .i64 t229, .int .i64 t232, u236005] 45 (0, 0)) (bk BK235.out) NB235_219.out (by simp)); replace HB := Aside0.mk hb; replace HI219 := Aside0.mk hi; (try clear hb); (try clear hb2); (try clear hk); (try clear hi); have hnb44 := NB235_215.out; have hnc44 := NB215_235.out; have hnb45 := NB235_219.out; have hnc45 := NB219_235.out; have hcz46_0 : w43.cell? ⟨gb235, 0, none⟩ = some (.int .i64 t220) := (blk_cell BK235.out 0).trans rfl; have hcz46_1 : w43.cell? ⟨gb235, 1, none⟩ = some (.int .i64 t223) := (blk_cell BK235.out 1).trans rfl; have hcz46_2 : w43.cell? ⟨gb235, 2, none⟩ = some (.int .i64 t226) := (blk_cell BK235.out 2).trans rfl; have hcz46_3 : w43.cell? ⟨gb235, 3, none⟩ = some (.int .i64 t229) := (blk_cell BK235.out 3).trans rfl; have hcz46_4 : w43.cell? ⟨gb235, 4, none⟩ = some (.int .i64 t232) := (blk_cell BK235.out 4).trans rfl; have hcz46_5 : w43.cell? ⟨gb235, 5, none⟩ = some (u236005) := (blk_cell BK235.out 5).trans rfl; have hfz46_0 := blk_frozen BK235.out 0; have hfz46_1 := blk_frozen BK235.out 1; have hfz46_2 := blk_frozen BK235.out 2; have hfz46_3 := blk_frozen BK235.out 3; have hfz46_4 := blk_frozen BK235.out 4; have hfz46_5 := blk_frozen BK235.out 5; obtain ⟨Ao47, co47, eo47⟩ := Kd.R_slice HO_236005.out; subst eo47) | (go_at_call 50; (with_reducible refine (circuit_Check.calls k1 t220 t223 t226 t229 t232 _ _ x236005_1 t260 _ ?side1 ?side2 A41.out).mono ?_); (case side1 => repeat (first | exact (Kd.R_reads' HO_236005.out).2.2 | (with_reducible refine Kd.C_alloc ?_ _) | (with_reducible refine Kd.C_drewN ?_ _) | (with_reducible refine Kd.C_drew ?_))); (case side2 => exact (Kd.R_reads' HO_236005.out).2.1); rintro e w48 ⟨rfl, hb⟩; replace HO_236005 := kb HO_236005 hb; replace BK215 := bb BK215 hb; replace BK235 := bb BK235 hb; replace HB := Aside0.mk (below_step (by repeat (first | (with_reducible first | exact HB.out | apply below_alloc | apply pw_below_drewN | apply below_drew1 | refine below_set ?_ (IsS145.ge HI219.out) | refine below_set ?_ GE215.out | refine below_set ?_ GE235.out) | exact HB.out)) hb); replace HI219 := Aside0.mk (IsS145.below (by repeat (first | (with_reducible first | exact HI219.out | apply IsS145.alloc | apply IsS145.drewN | apply IsS145.drew | apply IsS145.set_0 | apply IsS145.set_1 | refine IsS145.far ?_ NB219_215.out _ | refine IsS145.far ?_ NB219_235.out _) | exact HI219.out)) hb); (try clear hb); (try clear hb2); (try clear hk); (try clear hi); have hcz49_0 : w48.cell? ⟨gb235, 0, none⟩ = some (.int .i64 t220) := (blk_cell BK235.out 0).trans rfl; have hcz49_1 : w48.cell? ⟨gb235, 1, none⟩ = some (.int .i64 t223) := (blk_cell BK235.out 1).trans rfl; have hcz49_2 : w48.cell? ⟨gb235, 2, none⟩ = some (.int .i64 t226) := (blk_cell BK235.out 2).trans rfl; have hcz49_3 : w48.cell? ⟨gb235, 3, none⟩ = some (.int .i64 t229) := (blk_cell BK235.out 3).trans rfl; have hcz49_4 : w48.cell? ⟨gb235, 4, none⟩ = some (.int .i64 t232) := (blk_cell BK235.out 4).trans rfl; have hcz49_5 : w48.cell? ⟨gb235, 5, none⟩ = some (.slice Ao47 x236005_1.length co47) := (blk_cell BK235.out 5).trans rfl; have hfz49_0 := blk_frozen BK235.out 0; have hfz49_1 := blk_frozen BK235.out 1; have hfz49_2 := blk_frozen BK235.out 2; have hfz49_3 := blk_frozen BK235.out 3; have hfz49_4 := blk_frozen BK235.out 4; have hfz49_5 := blk_frozen BK235.out 5; have hnb50 := NB215_219.out; have hnc50 := NB219_215.out; have hcz51_0 : w48.cell? ⟨gb215, 0, none⟩ = some (.int .i64 0) := (blk_cell BK215.out 0).trans rfl; have hcz51_1 : w48.cell? ⟨gb215, 1, none⟩ = some (.int .i64 0) := (blk_cell BK215.out 1).trans rfl; have hcz51_2 : w48.cell? ⟨gb215, 2, none⟩ = some (.int .i64 0) := (blk_cell BK215.out 2).trans rfl; have hcz51_3 : w48.cell? ⟨gb215, 3, none⟩ = some (.int .i64 0) := (blk_cell BK215.out 3).trans rfl; have hcz51_4 : w48.cell? ⟨gb215, 4, none⟩ = some (.int .i64 0) := (blk_cell BK215.out 4).trans rfl; have hcz51_5 : w48.cell? ⟨gb215, 5, none⟩ = some (.slice none 0 0) := (blk_cell BK215.out 5).trans rfl; have hfz51_0 := blk_frozen BK215.out 0; have hfz51_1 := blk_frozen BK215.out 1; have hfz51_2 := blk_frozen BK215.out 2; have hfz51_3 := blk_frozen BK215.out 3; have hfz51_4 := blk_frozen BK215.out 4; have hfz51_5 := blk_frozen BK215.out 5))
       refine bodyPost_ret (results_ct rfl _ _ gb215 45 #[.int .i64 t220, .int .i64 t223, .int .i64 t226, .int .i64 t229, .int .i64 t232, .slice Ao47 x236005_1.length co47] (0, 0) _ rfl (by (with_reducible repeat refine bl ?_); refine blk_put (cs := #[.int .i64 t220, .int .i64 t223, .int .i64 t226, .int .i64 t229, .int .i64 t232, .slice none 0 0]) ?_ 5 _ rfl; (with_reducible repeat refine bl ?_); refine blk_put (cs := #[.int .i64 t220, .int .i64 t223, .int .i64 t226, .int .i64 t229, .int .i64 0, .slice none 0 0]) ?_ 4 _ rfl; (with_reducible repeat refine bl ?_); refine blk_put (cs := #[.int .i64 t220, .int .i64 t223, .int .i64 t226, .int .i64 0, .int .i64 0, .slice none 0 0]) ?_ 3 _ rfl; (with_reducible repeat refine bl ?_); refine blk_put (cs := #[.int .i64 t220, .int .i64 t223, .int .i64 0, .int .i64 0, .int .i64 0, .slice none 0 0]) ?_ 2 _ rfl; (with_reducible repeat refine bl ?_); refine blk_put (cs := #[.int .i64 t220, .int .i64 0, .int .i64 0, .int .i64 0, .int .i64 0, .slice none 0 0]) ?_ 1 _ rfl; (with_reducible repeat refine bl ?_); refine blk_put (cs := #[.int .i64 0, .int .i64 0, .int .i64 0, .int .i64 0, .int .i64 0, .slice none 0 0]) ?_ 0 _ rfl; (with_reducible repeat refine bl ?_); exact BK215.out) Try.underlying45 rfl (by kernel_rfl)) rfl ?_
       exact ⟨_, by first | rfl | (simp [errW_none, errW_some] <;> rfl) | (simp [*, errW_none, errW_some] <;> rfl), by (with_reducible repeat refine kl ?_); exact Kd.R_mono (Kd.R_far (p := ⟨gb215, 5, none⟩) (Kd.R_far (p := ⟨gb215, 4, none⟩) (Kd.R_far (p := ⟨gb215, 3, none⟩) (Kd.R_far (p := ⟨gb215, 2, none⟩) (Kd.R_far (p := ⟨gb215, 1, none⟩) (Kd.R_far (p := ⟨gb215, 0, none⟩) (Kd.R_types HO_236005.out BK215.out (by decide)) (fun _ hk => hk.2) (.int .i64 t220)) (fun _ hk => hk.2) (.int .i64 t223)) (fun _ hk => hk.2) (.int .i64 t226)) (fun _ hk => hk.2) (.int .i64 t229)) (fun _ hk => hk.2) (.int .i64 t232)) (fun _ hk => hk.2) (.slice Ao47 x236005_1.length co47)) (fun _ hk => trivial), by repeat (first | (with_reducible first | exact HB.out | apply below_alloc | apply pw_below_drewN | apply below_drew1 | refine below_set ?_ (IsS145.ge HI219.out) | refine below_set ?_ GE215.out | refine below_set ?_ GE235.out) | exact HB.out)⟩
      ·rw [if_neg c42] at H
       have c42b0 : (t260 == 0) = false := beq_eq_false_iff_ne.mpr c42
       have c42b1 : (t260 != 0) = true := bne_iff_ne.mpr c42
       simp only [Option.some.injEq, Prod.mk.injEq] at H
       obtain ⟨rfl, rfl, rfl, rfl, rfl, rfl, rfl⟩ := H
       go_wp2_with (first | ((with_reducible refine gate_callee (f := 36) rfl ?_); refine goesL_ (some 50) rfl rfl Try.func36 (by kernel_rfl) rfl #[.pointer (some ⟨g219, 0, none⟩)] rfl (by (try simp only [List.map_toArray, List.map_cons, List.map_nil]); first | done | rfl | (simp only [List.length_drop, List.length_take]; rfl)) ?_; (with_reducible refine (octet_Reader_End.calls g219 x220000_1 x220001_1 t257 t258 t259 w _ ?side1 ?side2 A39.out).mono ?_); (case side1 => repeat (first | (with_reducible first | exact HI219.out | apply IsS145.alloc | apply IsS145.drewN | apply IsS145.drew | apply IsS145.set_0 | apply IsS145.set_1 | refine IsS145.far ?_ NB219_215.out _ | refine IsS145.far ?_ NB219_235.out _) | exact HI219.out)); (case side2 => repeat (first | (with_reducible first | exact HB.out | apply below_alloc | apply pw_below_drewN | apply below_drew1 | refine below_set ?_ (IsS145.ge HI219.out) | refine below_set ?_ GE215.out | refine below_set ?_ GE235.out) | exact HB.out)); rintro e w52 ⟨rfl, hi, hb, hk⟩; refine ⟨_, rfl, ?_⟩; replace HO_236005 := Aside0.mk (Kd.R_mono (Kd.R_keep (IsS145.apart (show IsS145 w _ g219 x220000_1 x220001_1 from by repeat (first | (with_reducible first | exact HI219.out | apply IsS145.alloc | apply IsS145.drewN | apply IsS145.drew | apply IsS145.set_0 | apply IsS145.set_1 | refine IsS145.far ?_ NB219_215.out _ | refine IsS145.far ?_ NB219_235.out _) | exact HI219.out)) (kr HO_236005.out) (by decide)) hk (fun _ h => h.2)) (fun _ h => h.1)); replace BK215 := Aside0.mk (KeepBut.blk hk (g' := gb215) (o := .cells #[.int .i64 0, .int .i64 0, .int .i64 0, .int .i64 0, .int .i64 0, .slice none 0 0] 45 (0, 0)) (bk BK215.out) NB215_219.out (by simp)); replace BK235 := Aside0.mk (KeepBut.blk hk (g' := gb235) (o := .cells #[.int .i64 t220, .int .i64 t223, .int .i64 t226, .int .i64 t229, .int .i64 t232, u236005] 45 (0, 0)) (bk BK235.out) NB235_219.out (by simp)); replace HB := Aside0.mk hb; replace HI219 := Aside0.mk hi; (try clear hb); (try clear hb2); (try clear hk); (try clear hi); have hnb53 := NB235_215.out; have hnc53 := NB215_235.out; have hnb54 := NB235_219.out; have hnc54 := NB219_235.out; have hcz55_0 : w52.cell? ⟨gb235, 0, none⟩ = some (.int .i64 t220) := (blk_cell BK235.out 0).trans rfl; have hcz55_1 : w52.cell? ⟨gb235, 1, none⟩ = some (.int .i64 t223) := (blk_cell BK235.out 1).trans rfl; have hcz55_2 : w52.cell? ⟨gb235, 2, none⟩ = some (.int .i64 t226) := (blk_cell BK235.out 2).trans rfl; have hcz55_3 : w52.cell? ⟨gb235, 3, none⟩ = some (.int .i64 t229) := (blk_cell BK235.out 3).trans rfl; have hcz55_4 : w52.cell? ⟨gb235, 4, none⟩ = some (.int .i64 t232) := (blk_cell BK235.out 4).trans rfl; have hcz55_5 : w52.cell? ⟨gb235, 5, none⟩ = some (u236005) := (blk_cell BK235.out 5).trans rfl; have hfz55_0 := blk_frozen BK235.out 0; have hfz55_1 := blk_frozen BK235.out 1; have hfz55_2 := blk_frozen BK235.out 2; have hfz55_3 := blk_frozen BK235.out 3; have hfz55_4 := blk_frozen BK235.out 4; have hfz55_5 := blk_frozen BK235.out 5; obtain ⟨Ao56, co56, eo56⟩ := Kd.R_slice HO_236005.out; subst eo56) | (go_at_call 50; (with_reducible refine (circuit_Check.calls k1 t220 t223 t226 t229 t232 _ _ x236005_1 t260 _ ?side1 ?side2 A41.out).mono ?_); (case side1 => repeat (first | exact (Kd.R_reads' HO_236005.out).2.2 | (with_reducible refine Kd.C_alloc ?_ _) | (with_reducible refine Kd.C_drewN ?_ _) | (with_reducible refine Kd.C_drew ?_))); (case side2 => exact (Kd.R_reads' HO_236005.out).2.1); rintro e w57 ⟨rfl, hb⟩; replace HO_236005 := kb HO_236005 hb; replace BK215 := bb BK215 hb; replace BK235 := bb BK235 hb; replace HB := Aside0.mk (below_step (by repeat (first | (with_reducible first | exact HB.out | apply below_alloc | apply pw_below_drewN | apply below_drew1 | refine below_set ?_ (IsS145.ge HI219.out) | refine below_set ?_ GE215.out | refine below_set ?_ GE235.out) | exact HB.out)) hb); replace HI219 := Aside0.mk (IsS145.below (by repeat (first | (with_reducible first | exact HI219.out | apply IsS145.alloc | apply IsS145.drewN | apply IsS145.drew | apply IsS145.set_0 | apply IsS145.set_1 | refine IsS145.far ?_ NB219_215.out _ | refine IsS145.far ?_ NB219_235.out _) | exact HI219.out)) hb); (try clear hb); (try clear hb2); (try clear hk); (try clear hi); have hnb58 := NB215_219.out; have hnc58 := NB219_215.out; have hcz59_0 : w57.cell? ⟨gb215, 0, none⟩ = some (.int .i64 0) := (blk_cell BK215.out 0).trans rfl; have hcz59_1 : w57.cell? ⟨gb215, 1, none⟩ = some (.int .i64 0) := (blk_cell BK215.out 1).trans rfl; have hcz59_2 : w57.cell? ⟨gb215, 2, none⟩ = some (.int .i64 0) := (blk_cell BK215.out 2).trans rfl; have hcz59_3 : w57.cell? ⟨gb215, 3, none⟩ = some (.int .i64 0) := (blk_cell BK215.out 3).trans rfl; have hcz59_4 : w57.cell? ⟨gb215, 4, none⟩ = some (.int .i64 0) := (blk_cell BK215.out 4).trans rfl; have hcz59_5 : w57.cell? ⟨gb215, 5, none⟩ = some (.slice none 0 0) := (blk_cell BK215.out 5).trans rfl; have hfz59_0 := blk_frozen BK215.out 0; have hfz59_1 := blk_frozen BK215.out 1; have hfz59_2 := blk_frozen BK215.out 2; have hfz59_3 := blk_frozen BK215.out 3; have hfz59_4 := blk_frozen BK215.out 4; have hfz59_5 := blk_frozen BK215.out 5))
       refine bodyPost_ret (results_ct rfl _ _ gb215 45 #[.int .i64 0, .int .i64 0, .int .i64 0, .int .i64 0, .int .i64 0, .slice none 0 0] (0, 0) _ rfl (by (with_reducible repeat refine bl ?_); refine blk_put (cs := #[.int .i64 0, .int .i64 0, .int .i64 0, .int .i64 0, .int .i64 0, .slice none 0 0]) ?_ 5 _ rfl; (with_reducible repeat refine bl ?_); refine blk_put (cs := #[.int .i64 0, .int .i64 0, .int .i64 0, .int .i64 0, .int .i64 0, .slice none 0 0]) ?_ 4 _ rfl; (with_reducible repeat refine bl ?_); refine blk_put (cs := #[.int .i64 0, .int .i64 0, .int .i64 0, .int .i64 0, .int .i64 0, .slice none 0 0]) ?_ 3 _ rfl; (with_reducible repeat refine bl ?_); refine blk_put (cs := #[.int .i64 0, .int .i64 0, .int .i64 0, .int .i64 0, .int .i64 0, .slice none 0 0]) ?_ 2 _ rfl; (with_reducible repeat refine bl ?_); refine blk_put (cs := #[.int .i64 0, .int .i64 0, .int .i64 0, .int .i64 0, .int .i64 0, .slice none 0 0]) ?_ 1 _ rfl; (with_reducible repeat refine bl ?_); refine blk_put (cs := #[.int .i64 0, .int .i64 0, .int .i64 0, .int .i64 0, .int .i64 0, .slice none 0 0]) ?_ 0 _ rfl; (with_reducible repeat refine bl ?_); exact BK215.out) Try.underlying45 rfl (by kernel_rfl)) rfl ?_
       exact ⟨_, by first | rfl | (simp [errW_none, errW_some] <;> rfl) | (simp [*, errW_none, errW_some] <;> rfl), by first | exact Kd.R_nil _ _ _ _ _ | exact Kd.N_nil _ _ _ _ _ | exact Kd.V_nil _ _ _ _ _ | exact Kd.Q_nil _ _ _ _ _ | exact Kd.S_nil _ _ _ _ _, by repeat (first | (with_reducible first | exact HB.out | apply below_alloc | apply pw_below_drewN | apply below_drew1 | refine below_set ?_ (IsS145.ge HI219.out) | refine below_set ?_ GE215.out | refine below_set ?_ GE235.out) | exact HB.out)⟩
     ·rw [if_neg c40] at H
      have c40b0 : (t257 == 0) = false := beq_eq_false_iff_ne.mpr c40
      have c40b1 : (t257 != 0) = true := bne_iff_ne.mpr c40
      simp only [Option.some.injEq, Prod.mk.injEq] at H
      obtain ⟨rfl, rfl, rfl, rfl, rfl, rfl, rfl⟩ := H
      go_wp2_with (first | ((with_reducible refine gate_callee (f := 36) rfl ?_); refine goesL_ (some 50) rfl rfl Try.func36 (by kernel_rfl) rfl #[.pointer (some ⟨g219, 0, none⟩)] rfl (by (try simp only [List.map_toArray, List.map_cons, List.map_nil]); first | done | rfl | (simp only [List.length_drop, List.length_take]; rfl)) ?_; (with_reducible refine (octet_Reader_End.calls g219 x220000_1 x220001_1 t257 t258 t259 w _ ?side1 ?side2 A39.out).mono ?_); (case side1 => repeat (first | (with_reducible first | exact HI219.out | apply IsS145.alloc | apply IsS145.drewN | apply IsS145.drew | apply IsS145.set_0 | apply IsS145.set_1 | refine IsS145.far ?_ NB219_215.out _ | refine IsS145.far ?_ NB219_235.out _) | exact HI219.out)); (case side2 => repeat (first | (with_reducible first | exact HB.out | apply below_alloc | apply pw_below_drewN | apply below_drew1 | refine below_set ?_ (IsS145.ge HI219.out) | refine below_set ?_ GE215.out | refine below_set ?_ GE235.out) | exact HB.out)); rintro e w60 ⟨rfl, hi, hb, hk⟩; refine ⟨_, rfl, ?_⟩; replace HO_236005 := Aside0.mk (Kd.R_mono (Kd.R_keep (IsS145.apart (show IsS145 w _ g219 x220000_1 x220001_1 from by repeat (first | (with_reducible first | exact HI219.out | apply IsS145.alloc | apply IsS145.drewN | apply IsS145.drew | apply IsS145.set_0 | apply IsS145.set_1 | refine IsS145.far ?_ NB219_215.out _ | refine IsS145.far ?_ NB219_235.out _) | exact HI219.out)) (kr HO_236005.out) (by decide)) hk (fun _ h => h.2)) (fun _ h => h.1)); replace BK215 := Aside0.mk (KeepBut.blk hk (g' := gb215) (o := .cells #[.int .i64 0, .int .i64 0, .int .i64 0, .int .i64 0, .int .i64 0, .slice none 0 0] 45 (0, 0)) (bk BK215.out) NB215_219.out (by simp)); replace BK235 := Aside0.mk (KeepBut.blk hk (g' := gb235) (o := .cells #[.int .i64 t220, .int .i64 t223, .int .i64 t226, .int .i64 t229, .int .i64 t232, u236005] 45 (0, 0)) (bk BK235.out) NB235_219.out (by simp)); replace HB := Aside0.mk hb; replace HI219 := Aside0.mk hi; (try clear hb); (try clear hb2); (try clear hk); (try clear hi); have hnb61 := NB215_235.out; have hnc61 := NB235_215.out; have hnb62 := NB215_219.out; have hnc62 := NB219_215.out; have hcz63_0 : w60.cell? ⟨gb215, 0, none⟩ = some (.int .i64 0) := (blk_cell BK215.out 0).trans rfl; have hcz63_1 : w60.cell? ⟨gb215, 1, none⟩ = some (.int .i64 0) := (blk_cell BK215.out 1).trans rfl; have hcz63_2 : w60.cell? ⟨gb215, 2, none⟩ = some (.int .i64 0) := (blk_cell BK215.out 2).trans rfl; have hcz63_3 : w60.cell? ⟨gb215, 3, none⟩ = some (.int .i64 0) := (blk_cell BK215.out 3).trans rfl; have hcz63_4 : w60.cell? ⟨gb215, 4, none⟩ = some (.int .i64 0) := (blk_cell BK215.out 4).trans rfl; have hcz63_5 : w60.cell? ⟨gb215, 5, none⟩ = some (.slice none 0 0) := (blk_cell BK215.out 5).trans rfl; have hfz63_0 := blk_frozen BK215.out 0; have hfz63_1 := blk_frozen BK215.out 1; have hfz63_2 := blk_frozen BK215.out 2; have hfz63_3 := blk_frozen BK215.out 3; have hfz63_4 := blk_frozen BK215.out 4; have hfz63_5 := blk_frozen BK215.out 5))
      refine bodyPost_ret (results_ct rfl _ _ gb215 45 #[.int .i64 0, .int .i64 0, .int .i64 0, .int .i64 0, .int .i64 0, .slice none 0 0] (0, 0) _ rfl (by (with_reducible repeat refine bl ?_); refine blk_put (cs := #[.int .i64 0, .int .i64 0, .int .i64 0, .int .i64 0, .int .i64 0, .slice none 0 0]) ?_ 5 _ rfl; (with_reducible repeat refine bl ?_); refine blk_put (cs := #[.int .i64 0, .int .i64 0, .int .i64 0, .int .i64 0, .int .i64 0, .slice none 0 0]) ?_ 4 _ rfl; (with_reducible repeat refine bl ?_); refine blk_put (cs := #[.int .i64 0, .int .i64 0, .int .i64 0, .int .i64 0, .int .i64 0, .slice none 0 0]) ?_ 3 _ rfl; (with_reducible repeat refine bl ?_); refine blk_put (cs := #[.int .i64 0, .int .i64 0, .int .i64 0, .int .i64 0, .int .i64 0, .slice none 0 0]) ?_ 2 _ rfl; (with_reducible repeat refine bl ?_); refine blk_put (cs := #[.int .i64 0, .int .i64 0, .int .i64 0, .int .i64 0, .int .i64 0, .slice none 0 0]) ?_ 1 _ rfl; (with_reducible repeat refine bl ?_); refine blk_put (cs := #[.int .i64 0, .int .i64 0, .int .i64 0, .int .i64 0, .int .i64 0, .slice none 0 0]) ?_ 0 _ rfl; (with_reducible repeat refine bl ?_); exact BK215.out) Try.underlying45 rfl (by kernel_rfl)) rfl ?_
      exact ⟨_, by first | rfl | (simp [errW_none, errW_some] <;> rfl) | (simp [*, errW_none, errW_some] <;> rfl), by first | exact Kd.R_nil _ _ _ _ _ | exact Kd.N_nil _ _ _ _ _ | exact Kd.V_nil _ _ _ _ _ | exact Kd.Q_nil _ _ _ _ _ | exact Kd.S_nil _ _ _ _ _, by repeat (first | (with_reducible first | exact HB.out | apply below_alloc | apply pw_below_drewN | apply below_drew1 | refine below_set ?_ (IsS145.ge HI219.out) | refine below_set ?_ GE215.out | refine below_set ?_ GE235.out) | exact HB.out)⟩
 ·rw [if_neg c3] at H
  have c3b0 : (t216 == 0) = false := beq_eq_false_iff_ne.mpr c3
  have c3b1 : (t216 != 0) = true := bne_iff_ne.mpr c3
  simp only [Option.some.injEq, Prod.mk.injEq] at H
  obtain ⟨rfl, rfl, rfl, rfl, rfl, rfl, rfl⟩ := H
  go_enter Try.func22, Try.ntmps22
  go_wp2_with (first | ((with_reducible refine gate_dst (N := 2) rfl ?_); refine box_event ?hg (N := 2) ?hd (cs := #[.int .i64 0, .int .i64 0, .int .i64 0, .int .i64 0, .int .i64 0, .slice none 0 0]) (t := 45) ?hr ?_; (case hd => rfl); (case hg => rfl); (case hr => first | (go_simp; done) | (go_simp; rfl)); intro gb215 hg w64 hbox hb; have BK215 := Aside0.mk hbox; have GW215 := ge hg HB; have GE215 := ge hg HB; replace HB := bh HB hb; clear hb hbox hg) | ((with_reducible refine gate_callee (f := 33) rfl ?_); refine goesL_ (some 9) rfl rfl Try.func33 (by kernel_rfl) rfl #[.string a0] rfl (by (try simp only [List.map_toArray, List.map_cons, List.map_nil]); first | done | rfl | (simp only [List.length_drop, List.length_take]; rfl)) ?_; (with_reducible refine (proof_ask.calls a0 t216 _ A2.out).mono ?_); rintro e w' ⟨rfl, ⟨nd, rfl⟩⟩; refine ⟨_, rfl, ?_⟩; (try (rw [drewN_self w64]; generalize hq_ : World.drewN w64 _ = w64; have n0_ : Aside0 (w64.heap[gb215]? = some (.cells #[.int .i64 0, .int .i64 0, .int .i64 0, .int .i64 0, .int .i64 0, .slice none 0 0] 45 (0, 0))) := ⟨by rw [← hq_]; exact (bk BK215.out)⟩; have n1_ : Aside0 (Below w.heap.size w w64) := ⟨by rw [← hq_]; exact (bq HB.out)⟩; clear BK215 HB hq_; have BK215 := n0_; have HB := n1_; clear n0_ n1_)); have hcz65_0 : w64.cell? ⟨gb215, 0, none⟩ = some (.int .i64 0) := (blk_cell BK215.out 0).trans rfl; have hcz65_1 : w64.cell? ⟨gb215, 1, none⟩ = some (.int .i64 0) := (blk_cell BK215.out 1).trans rfl; have hcz65_2 : w64.cell? ⟨gb215, 2, none⟩ = some (.int .i64 0) := (blk_cell BK215.out 2).trans rfl; have hcz65_3 : w64.cell? ⟨gb215, 3, none⟩ = some (.int .i64 0) := (blk_cell BK215.out 3).trans rfl; have hcz65_4 : w64.cell? ⟨gb215, 4, none⟩ = some (.int .i64 0) := (blk_cell BK215.out 4).trans rfl; have hcz65_5 : w64.cell? ⟨gb215, 5, none⟩ = some (.slice none 0 0) := (blk_cell BK215.out 5).trans rfl; have hfz65_0 := blk_frozen BK215.out 0; have hfz65_1 := blk_frozen BK215.out 1; have hfz65_2 := blk_frozen BK215.out 2; have hfz65_3 := blk_frozen BK215.out 3; have hfz65_4 := blk_frozen BK215.out 4; have hfz65_5 := blk_frozen BK215.out 5))
  refine bodyPost_ret (results_ct rfl _ _ gb215 45 #[.int .i64 0, .int .i64 0, .int .i64 0, .int .i64 0, .int .i64 0, .slice none 0 0] (0, 0) _ rfl (by (with_reducible repeat refine bl ?_); refine blk_put (cs := #[.int .i64 0, .int .i64 0, .int .i64 0, .int .i64 0, .int .i64 0, .slice none 0 0]) ?_ 5 _ rfl; (with_reducible repeat refine bl ?_); refine blk_put (cs := #[.int .i64 0, .int .i64 0, .int .i64 0, .int .i64 0, .int .i64 0, .slice none 0 0]) ?_ 4 _ rfl; (with_reducible repeat refine bl ?_); refine blk_put (cs := #[.int .i64 0, .int .i64 0, .int .i64 0, .int .i64 0, .int .i64 0, .slice none 0 0]) ?_ 3 _ rfl; (with_reducible repeat refine bl ?_); refine blk_put (cs := #[.int .i64 0, .int .i64 0, .int .i64 0, .int .i64 0, .int .i64 0, .slice none 0 0]) ?_ 2 _ rfl; (with_reducible repeat refine bl ?_); refine blk_put (cs := #[.int .i64 0, .int .i64 0, .int .i64 0, .int .i64 0, .int .i64 0, .slice none 0 0]) ?_ 1 _ rfl; (with_reducible repeat refine bl ?_); refine blk_put (cs := #[.int .i64 0, .int .i64 0, .int .i64 0, .int .i64 0, .int .i64 0, .slice none 0 0]) ?_ 0 _ rfl; (with_reducible repeat refine bl ?_); exact BK215.out) Try.underlying45 rfl (by kernel_rfl)) rfl ?_
  exact ⟨_, by first | rfl | (simp [errW_none, errW_some] <;> rfl) | (simp [*, errW_none, errW_some] <;> rfl), by first | exact Kd.R_nil _ _ _ _ _ | exact Kd.N_nil _ _ _ _ _ | exact Kd.V_nil _ _ _ _ _ | exact Kd.Q_nil _ _ _ _ _ | exact Kd.S_nil _ _ _ _ _, bq HB.out⟩

end Go.Proofs.Ythgiifakcgjlaaa.P
