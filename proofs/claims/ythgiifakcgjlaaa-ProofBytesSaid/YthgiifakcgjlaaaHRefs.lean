/- Functions that the law reaches, as Lean functions. Conditions: those that each theorem names. -/
import Derived.Test.YthgiifakcgjlaaaPx0
import Derived.Test.YthgiifakcgjlaaaX2
import Derived.Test.YthgiifakcgjlaaaPx5
set_option maxHeartbeats 8000000
set_option maxRecDepth 100000
namespace Go.Proofs.Ythgiifakcgjlaaa.P
open Go.RowKit YthgiifakcgjlaaaX YthgiifakcgjlaaaW.PrintWords YthgiifakcgjlaaaW.PrintLast YthgiifakcgjlaaaW.PrintMore
attribute [local go_sem] max2_int min2_int max_two min_two max_three min_three max_four min_four
set_option linter.unusedVariables false
set_option linter.unusedSimpArgs false

def steeplelaw24_Ref.f (k : Nat) (l0_0 : List (S61)) (l0_1 : List (List (S61))) : Option ((List (S70)) × (List (List (S70)))) := (steeplelaw01_Ref.f k l0_0).bind fun t173 => ((steeplelaw09_Refs.f k l0_1).bind fun t176 => (some (t173, t176)))
def steeplelaw24_Ref.T1 : Bool × List (List Nat × List Nat) := (true, [([], []), ([0], [0]), ([1], [1]), ([], []), ([3], [3]), ([4, 2], [4]), ([], []), ([6], [6]), ([2, 5, 7], [2, 5, 7]), ([8, 5, 0, 1, 2, 3, 4, 5, 6, 7, 8], [8])])
def steeplelaw24_Ref.B1 : List Nat := [0, 1, 3, 0, 8, 31, 0, 64, 255, 511]
theorem steeplelaw24_Ref.tab1 : rtab .any (opsOf Try.f61 1) = steeplelaw24_Ref.T1 := by kernel_rfl
theorem steeplelaw24_Ref.bits1 : waitsOk steeplelaw24_Ref.T1.2 steeplelaw24_Ref.B1 = true := by kernel_rfl
theorem steeplelaw24_Ref.calls (k : Nat) (A0_0 : Option Addr) (c0_0 : Nat) (l0_0 : List (S61)) (A0_1 : Option Addr) (c0_1 : Nat) (l0_1 : List (List (S61))) (A0_2 : Option Addr) (n0_2 c0_2 : Nat) (r1 : List (S70)) (r2 : List (List (S70))) (w : World) (hr0_0 : Kd.C k61 w A0_0 l0_0.length l0_0) (hc0_0 : l0_0.length ≤ c0_0) (hr0_1 : Kd.C (Kd.slice 61 k61) w A0_1 l0_1.length l0_1) (hc0_1 : l0_1.length ≤ c0_1) (h : steeplelaw24_Ref.f k l0_0 l0_1 = some (r1, r2)) :
  Calls Try.prog 61 #[.agg #[.slice A0_0 l0_0.length c0_0, .slice A0_1 l0_1.length c0_1, .slice A0_2 n0_2 c0_2]] w fun e w' => ∃ v0_ v1_ : Value, e = .returned (.agg #[v0_, v1_, .slice A0_2 n0_2 c0_2]) ∧ Kd.R k70 70 w' w.heap.size (fun _ => True) v0_ r1 ∧ Kd.S (Kd.slice 70 k70) 69 w' w.heap.size (fun k_ => some k_ ≠ (v0_ : Value).ownBlock) v1_ r2 ∧ Below w.heap.size w w' := by
 have hu64 := Try.underlying64
 have hu72 := Try.underlying72
 have HR0_0 := Aside0.mk hr0_0
 have HC0_0 := Aside0.mk hc0_0
 clear hr0_0 hc0_0
 have HR0_1 := Aside0.mk hr0_1
 have HC0_1 := Aside0.mk hc0_1
 clear hr0_1 hc0_1
 have HB := Aside0.mk (Below.refl w.heap.size w)
 have H : ((steeplelaw01_Ref.f k l0_0).bind fun t173 => ((steeplelaw09_Refs.f k l0_1).bind fun t176 => (some (t173, t176)))) = some (r1, r2) := h
 clear h
 obtain ⟨t173, A2, H⟩ := bm2 H
 try dsimp only at H
 obtain ⟨t176, A3, H⟩ := bm2 H
 replace H : (some (t173, t176)) = some (r1, r2) := H
 simp only [Option.some.injEq, Prod.mk.injEq] at H
 obtain ⟨rfl, rfl⟩ := H
 go_enter Try.func61, Try.ntmps61
 try go_wp2_with (first | ((with_reducible refine gate_dst (N := 1) rfl ?_); refine box_event ?hg (N := 1) ?hd (cs := #[.slice A0_0 l0_0.length c0_0, .slice A0_1 l0_1.length c0_1, .slice A0_2 n0_2 c0_2]) (t := 64) ?hr ?_; (case hd => rfl); (case hg => rfl); (case hr => go_simp <;> rfl); intro gb171 hg w4 hbox hb; have BK171 := Aside0.mk hbox; have GW171 := ge hg HB; have GE171 := ge hg HB; replace HB := bh HB hb; clear hb hbox hg) | ((with_reducible refine gate_dst (N := 2) rfl ?_); refine box_event ?hg (N := 2) ?hd (cs := #[.slice none 0 0, .slice none 0 0, .slice none 0 0]) (t := 72) ?hr ?_; (case hd => rfl); (case hg => rfl); (case hr => go_simp <;> rfl); intro gb172 hg w5 hbox hb; have BK172 := Aside0.mk hbox; have GW172 := ge hg HB; have GE172 := ge hg HB; have NB171_172 := nl hg BK171; have NB172_171 := ng hg BK171; replace BK171 := bb BK171 hb; replace HB := bh HB hb; clear hb hbox hg))
 replace BK171 := Aside0.mk (blk_drew BK171.out)
 replace BK172 := Aside0.mk (blk_drew BK172.out)
 replace HB := Aside0.mk (below_drew1 HB.out)
 refine start_ (n := 10) (S := fun w' => w'.cell? ⟨gb171, 0, none⟩ = some (.slice A0_0 l0_0.length c0_0) ∧ w'.cell? ⟨gb171, 1, none⟩ = some (.slice A0_1 l0_1.length c0_1) ∧ w'.cell? ⟨gb171, 2, none⟩ = some (.slice A0_2 n0_2 c0_2)) (ds := []) #[Z,Z,Z,Z,Z,Z,Z,Z,Z,Z] (by kernel_rfl) rfl rfl ⟨bc BK171 0 rfl, bc BK171 1 rfl, bc BK171 2 rfl⟩ (fun hHeld => ?_); refine with_tabW steeplelaw24_Ref.tab1 steeplelaw24_Ref.bits1 (fun HT_ HW_ => ?_)
 generalize w5.drew = w6 at BK171 BK172 HB hHeld ⊢
 refine pA 0 3 #[Y,Z,Z,Z,Z,Z,Z,Z,Z,Z] HT_ ?_
 refine pA 3 6 #[Y,Z,Z,Y,Z,Z,Z,Z,Z,Z] HT_ ?_
 refine pA 6 9 #[Y,Z,Z,Y,Z,Z,Y,Z,Z,Z] HT_ ?_
 refine take_ (i := 1) (N := some 4) (v := ?_) (a' := ?_) #[Y,Y,Z,Y,Z,Z,Y,Z,Z,Z] rfl rfl (take_ofW HT_.out HW_.out (by kernel_rfl)) (fun _ _ _ h => h) (Or.inl ⟨by rfl, ?_⟩) hHeld ?_ ?_
 rotate_left
 ·rintro w' ⟨s0, s1, s2⟩
  go_simp
  with_reducible rfl
 rotate_left
 ·simp only [Act.put, sA, s0, sS, i64_w, i32_w]
  rfl
 refine take_ (i := 4) (N := some 7) (v := ?_) (a' := ?_) #[Y,Y,Z,Y,Y,Z,Y,Z,Z,Z] rfl rfl (take_ofW HT_.out HW_.out (by kernel_rfl)) (fun _ _ _ h => h) (Or.inl ⟨by rfl, ?_⟩) hHeld ?_ ?_
 rotate_left
 ·rintro w' ⟨s0, s1, s2⟩
  go_simp
  with_reducible rfl
 rotate_left
 ·simp only [Act.put, sA, s0, sS, i64_w, i32_w]
  rfl
 refine take_ (i := 7) (N := some 10) (v := ?_) (a' := ?_) #[Y,Y,Z,Y,Y,Z,Y,Y,Z,Z] rfl rfl (take_ofW HT_.out HW_.out (by kernel_rfl)) (fun _ _ _ h => h) (Or.inl ⟨by rfl, ?_⟩) hHeld ?_ ?_
 rotate_left
 ·rintro w' ⟨s0, s1, s2⟩
  go_simp
  with_reducible rfl
 rotate_left
 ·simp only [Act.put, sA, s0, sS, i64_w, i32_w]
  rfl
 refine one_ (i := 2) (N := some 5) #[Y,Y,Y,Y,Y,Z,Y,Y,Z,Z] rfl rfl (one_of HT_.out (by kernel_rfl)) (by decide) (fun K hK => ?_)
 refine goes_ Try.func60 (by kernel_rfl) rfl #[.slice A0_0 l0_0.length c0_0] (by rfl) rfl rfl (by (try simp only [mA, mC, mN]); first | done | rfl | (simp only [List.length_drop, List.length_take]; rfl)) ?_
 with_reducible refine (steeplelaw01_Ref.calls k _ _ l0_0 t173 _ ?side1 ?side2 A2.out).mono ?_
 (case side1 => exact cq (Kd.C_below HR0_0.out HB.out))
 (case side2 => exact HC0_0.out)
 rintro e w7 ⟨v174, rfl, ho0, hb⟩
 refine ⟨_, rfl, ?_⟩
 have HO175 := kw ho0 HB
 replace BK171 := bb BK171 hb
 replace BK172 := bb BK172 hb
 replace HB := bh HB hb
 (try clear hb)
 (try clear ho0)
 refine hK.out _ _ ⟨bc BK171 0 rfl, bc BK171 1 rfl, bc BK171 2 rfl⟩ (fun hHeld => ?_)
 clear hK K
 refine norm_ (a' := ?_) ?_ ?_
 rotate_left
 ·show Act.put _ (some 5) _ = _
  simp only [Act.put, sA, s0, sS, i64_w, i32_w]
  rfl
 refine one_ (i := 5) (N := some 8) #[Y,Y,Y,Y,Y,Y,Y,Y,Z,Z] rfl rfl (one_of HT_.out (by kernel_rfl)) (by decide) (fun K hK => ?_)
 refine goes_ Try.func59 (by kernel_rfl) rfl #[.slice A0_1 l0_1.length c0_1] (by rfl) rfl rfl (by (try simp only [mA, mC, mN]); first | done | rfl | (simp only [List.length_drop, List.length_take]; rfl)) ?_
 with_reducible refine (steeplelaw09_Refs.calls k _ _ l0_1 t176 _ ?side1 ?side2 A3.out).mono ?_
 (case side1 => exact cq (Kd.C_below HR0_1.out HB.out))
 (case side2 => exact HC0_1.out)
 rintro e w8 ⟨v177, rfl, ho0, hb⟩
 refine ⟨_, rfl, ?_⟩
 have HO178 := Aside0.mk (Kd.S_lower (Kd.S_new' ho0 (Kd.R_lt (kr HO175.out))) (below_size (bq HB.out)))
 replace HO175 := kb HO175 hb
 replace BK171 := bb BK171 hb
 replace BK172 := bb BK172 hb
 replace HB := bh HB hb
 (try clear hb)
 (try clear ho0)
 obtain ⟨Ao9, co9, eo9⟩ := Kd.S_slice HO178.out
 (first | subst eo9 | (injection eo9 with f1_ f2_ f3_; have f4_ := f1_.symm; have f5_ := f3_.symm; clear f1_ f2_ f3_; subst f4_; subst f5_))
 obtain ⟨Ao10, co10, eo10⟩ := Kd.R_slice HO175.out
 (first | subst eo10 | (injection eo10 with f1_ f2_ f3_; have f4_ := f1_.symm; have f5_ := f3_.symm; clear f1_ f2_ f3_; subst f4_; subst f5_))
 refine hK.out _ _ ⟨bc BK171 0 rfl, bc BK171 1 rfl, bc BK171 2 rfl⟩ (fun hHeld => ?_)
 clear hK K
 refine norm_ (a' := ?_) ?_ ?_
 rotate_left
 ·show Act.put _ (some 8) _ = _
  simp only [Act.put, sA, s0, sS, i64_w, i32_w]
  rfl
 refine pA 8 11 #[Y,Y,Y,Y,Y,Y,Y,Y,Y,Z] HT_ ?_
 refine one_ (i := 9) (N := none) #[Y,Y,Y,Y,Y,Y,Y,Y,Y,Y] rfl rfl (one_of HT_.out (by kernel_rfl)) (by decide) (fun K hK => ?_)
 have hs11 : w8.cell? ⟨gb172, 0, none⟩ = some (.slice none 0 0) := bc BK172 0 rfl
 have hfs11 := blk_frozen BK172.out 0
 have hns11_0 := NB171_172.out
 have hms11_0 := NB172_171.out
 have hs12 : w8.cell? ⟨gb172, 1, none⟩ = some (.slice none 0 0) := bc BK172 1 rfl
 have hfs12 := blk_frozen BK172.out 1
 have hns12_0 := NB171_172.out
 have hms12_0 := NB172_171.out
 have hs13 : w8.cell? ⟨gb172, 2, none⟩ = some (.slice none 0 0) := bc BK172 2 rfl
 have hfs13 := blk_frozen BK172.out 2
 have hns13_0 := NB171_172.out
 have hms13_0 := NB172_171.out
 refine skip_ (w1 := ?_) (by rfl) rfl ?_ ?_
 rotate_left
 ·go_simp
  rfl
 refine hK.out _ _ ⟨((cell_far (p := ⟨gb172, _, none⟩) NB171_172.out _).trans (((cell_far (p := ⟨gb172, _, none⟩) NB171_172.out _).trans (((cell_far (p := ⟨gb172, _, none⟩) NB171_172.out _).trans (hHeld.1)))))), ((cell_far (p := ⟨gb172, _, none⟩) NB171_172.out _).trans (((cell_far (p := ⟨gb172, _, none⟩) NB171_172.out _).trans (((cell_far (p := ⟨gb172, _, none⟩) NB171_172.out _).trans (hHeld.2.1)))))), ((cell_far (p := ⟨gb172, _, none⟩) NB171_172.out _).trans (((cell_far (p := ⟨gb172, _, none⟩) NB171_172.out _).trans (((cell_far (p := ⟨gb172, _, none⟩) NB171_172.out _).trans (hHeld.2.2))))))⟩ (fun hHeld => ?_)
 clear hK K
 refine done_ (done_of HT_.out (by kernel_rfl)) ?_
 try go_wp2
 refine bodyPost_ret (results_cell_row rfl _ _ gb172 72 #[.slice Ao10 t173.length co10, .slice Ao9 t176.length co9, .slice A0_2 n0_2 c0_2] (0, 0) _ rfl (by (with_reducible repeat refine bl ?_); refine blk_put (cs := #[.slice Ao10 t173.length co10, .slice Ao9 t176.length co9, .slice none 0 0]) ?_ 2 _ rfl; (with_reducible repeat refine bl ?_); refine blk_put (cs := #[.slice Ao10 t173.length co10, .slice none 0 0, .slice none 0 0]) ?_ 1 _ rfl; (with_reducible repeat refine bl ?_); refine blk_put (cs := #[.slice none 0 0, .slice none 0 0, .slice none 0 0]) ?_ 0 _ rfl; (with_reducible repeat refine bl ?_); exact BK172.out) Try.underlying72 rfl (by kernel_rfl)) rfl ?_
 exact ⟨_, _, er, by (with_reducible repeat refine kl ?_); exact Kd.R_mono (Kd.R_far (p := ⟨gb172, 2, none⟩) (Kd.R_far (p := ⟨gb172, 1, none⟩) (Kd.R_far (p := ⟨gb172, 0, none⟩) (Kd.R_types HO175.out BK172.out (by decide)) (fun _ hk => hk.2) (.slice Ao10 t173.length co10)) (fun _ hk => hk.2) (.slice Ao9 t176.length co9)) (fun _ hk => hk.2) (.slice A0_2 n0_2 c0_2)) (fun _ hk => trivial), by (with_reducible repeat (first | apply Kd.S_alloc | apply Kd.S_drewN | apply Kd.S_drew)); exact Kd.S_mono (Kd.S_far (p := ⟨gb172, 2, none⟩) (Kd.S_far (p := ⟨gb172, 1, none⟩) (Kd.S_far (p := ⟨gb172, 0, none⟩) (Kd.S_types HO178.out BK172.out (by decide)) (fun _ hk => hk.2) (.slice Ao10 t173.length co10)) (fun _ hk => hk.2) (.slice Ao9 t176.length co9)) (fun _ hk => hk.2) (.slice A0_2 n0_2 c0_2)) (fun _ hk => hk.1.2), bq HB.out⟩

def steeplelaw29_Ref.f (k : Nat) (a0_0 : ByteArray) (l0_1 : List (List (S61))) (l0_2 : List (S61)) (l0_3 : List (List (S61))) (a0_4 : Int) (a0_5 : Int) (l0_6 : List (S61)) (l0_7 : List (List (S61))) (a0_8 : Int) (a0_9 : Int) (l0_10 : List (S61)) (l0_11 : List (List (S61))) : Option (ByteArray × (List (List (S70))) × (List (S70)) × (List (List (S70))) × Int × Int × (List (S70)) × (List (List (S70))) × Int × Int × (List (S70)) × (List (List (S70)))) := (steeplelaw09_Refs.f k l0_1).bind fun t181 => ((steeplelaw01_Ref.f k l0_2).bind fun t184 => ((steeplelaw09_Refs.f k l0_3).bind fun t187 => ((steeplelaw01_Ref.f k l0_6).bind fun t190 => ((steeplelaw09_Refs.f k l0_7).bind fun t193 => ((steeplelaw24_Ref.f k l0_10 l0_11).bind fun bt196 => (some (a0_0, t181, t184, t187, a0_4, a0_5, t190, t193, a0_8, a0_9, bt196.1, bt196.2)))))))
def steeplelaw29_Ref.T1 : Bool × List (List Nat × List Nat) := (true, [([], []), ([0], [0]), ([], []), ([2], [2]), ([3], [3]), ([], []), ([5], [5]), ([6, 4], [6]), ([], []), ([8], [8]), ([9, 7], [9]), ([], []), ([11], [11]), ([], []), ([13], [13]), ([14, 10], [14]), ([], []), ([16], [16]), ([17, 15], [17]), ([], []), ([19], [19]), ([], []), ([21], [21]), ([22, 18], [22]), ([1, 4, 7, 10, 12, 15, 18, 20, 23], [1, 4, 7, 10, 12, 15, 18, 20, 23]), ([24, 23, 0, 1, 2, 3, 4, 5, 6, 7, 8, 9, 10, 11, 12, 13, 14, 15, 16, 17, 18, 19, 20, 21, 22, 23, 24], [24])])
def steeplelaw29_Ref.B1 : List Nat := [0, 1, 0, 4, 12, 0, 32, 124, 0, 256, 1020, 0, 2048, 0, 8192, 26620, 0, 65536, 255996, 0, 524288, 0, 2097152, 6809596, 16777215, 33554431]
theorem steeplelaw29_Ref.tab1 : rtab .any (opsOf Try.f26 1) = steeplelaw29_Ref.T1 := by kernel_rfl
theorem steeplelaw29_Ref.bits1 : waitsOk steeplelaw29_Ref.T1.2 steeplelaw29_Ref.B1 = true := by kernel_rfl
theorem steeplelaw29_Ref.calls (k : Nat) (a0_0 : ByteArray) (A0_1 : Option Addr) (c0_1 : Nat) (l0_1 : List (List (S61))) (A0_2 : Option Addr) (c0_2 : Nat) (l0_2 : List (S61)) (A0_3 : Option Addr) (c0_3 : Nat) (l0_3 : List (List (S61))) (a0_4 : Int) (a0_5 : Int) (A0_6 : Option Addr) (c0_6 : Nat) (l0_6 : List (S61)) (A0_7 : Option Addr) (c0_7 : Nat) (l0_7 : List (List (S61))) (a0_8 : Int) (a0_9 : Int) (A0_10 : Option Addr) (c0_10 : Nat) (l0_10 : List (S61)) (A0_11 : Option Addr) (c0_11 : Nat) (l0_11 : List (List (S61))) (A0_12 : Option Addr) (n0_12 c0_12 : Nat) (r1 : ByteArray) (r2 : List (List (S70))) (r3 : List (S70)) (r4 : List (List (S70))) (r5 : Int) (r6 : Int) (r7 : List (S70)) (r8 : List (List (S70))) (r9 : Int) (r10 : Int) (r11 : List (S70)) (r12 : List (List (S70))) (w : World) (hr0_1 : Kd.C (Kd.slice 61 k61) w A0_1 l0_1.length l0_1) (hc0_1 : l0_1.length ≤ c0_1) (hr0_2 : Kd.C k61 w A0_2 l0_2.length l0_2) (hc0_2 : l0_2.length ≤ c0_2) (hr0_3 : Kd.C (Kd.slice 61 k61) w A0_3 l0_3.length l0_3) (hc0_3 : l0_3.length ≤ c0_3) (hr0_6 : Kd.C k61 w A0_6 l0_6.length l0_6) (hc0_6 : l0_6.length ≤ c0_6) (hr0_7 : Kd.C (Kd.slice 61 k61) w A0_7 l0_7.length l0_7) (hc0_7 : l0_7.length ≤ c0_7) (hr0_10 : Kd.C k61 w A0_10 l0_10.length l0_10) (hc0_10 : l0_10.length ≤ c0_10) (hr0_11 : Kd.C (Kd.slice 61 k61) w A0_11 l0_11.length l0_11) (hc0_11 : l0_11.length ≤ c0_11) (h : steeplelaw29_Ref.f k a0_0 l0_1 l0_2 l0_3 a0_4 a0_5 l0_6 l0_7 a0_8 a0_9 l0_10 l0_11 = some (r1, r2, r3, r4, r5, r6, r7, r8, r9, r10, r11, r12)) :
  Calls Try.prog 26 #[.agg #[.string a0_0, .slice A0_1 l0_1.length c0_1, .slice A0_2 l0_2.length c0_2, .slice A0_3 l0_3.length c0_3, .int .u64 a0_4, .int .u64 a0_5, .slice A0_6 l0_6.length c0_6, .slice A0_7 l0_7.length c0_7, .int .u64 a0_8, .int .u64 a0_9, .slice A0_10 l0_10.length c0_10, .slice A0_11 l0_11.length c0_11, .slice A0_12 n0_12 c0_12]] w fun e w' => ∃ v1_ v2_ v3_ v6_ v7_ v10_ v11_ : Value, e = .returned (.agg #[.string r1, v1_, v2_, v3_, .int .u64 r5, .int .u64 r6, v6_, v7_, .int .u64 r9, .int .u64 r10, v10_, v11_, .slice A0_12 n0_12 c0_12]) ∧ Kd.S (Kd.slice 70 k70) 69 w' w.heap.size (fun k_ => some k_ ≠ (v2_ : Value).ownBlock ∧ some k_ ≠ (v3_ : Value).ownBlock ∧ some k_ ≠ (v6_ : Value).ownBlock ∧ some k_ ≠ (v7_ : Value).ownBlock ∧ some k_ ≠ (v10_ : Value).ownBlock ∧ some k_ ≠ (v11_ : Value).ownBlock) v1_ r2 ∧ Kd.R k70 70 w' w.heap.size (fun k_ => some k_ ≠ (v6_ : Value).ownBlock ∧ some k_ ≠ (v10_ : Value).ownBlock) v2_ r3 ∧ Kd.S (Kd.slice 70 k70) 69 w' w.heap.size (fun k_ => some k_ ≠ (v1_ : Value).ownBlock ∧ some k_ ≠ (v2_ : Value).ownBlock ∧ some k_ ≠ (v6_ : Value).ownBlock ∧ some k_ ≠ (v7_ : Value).ownBlock ∧ some k_ ≠ (v10_ : Value).ownBlock ∧ some k_ ≠ (v11_ : Value).ownBlock) v3_ r4 ∧ Kd.R k70 70 w' w.heap.size (fun k_ => some k_ ≠ (v2_ : Value).ownBlock ∧ some k_ ≠ (v10_ : Value).ownBlock) v6_ r7 ∧ Kd.S (Kd.slice 70 k70) 69 w' w.heap.size (fun k_ => some k_ ≠ (v1_ : Value).ownBlock ∧ some k_ ≠ (v2_ : Value).ownBlock ∧ some k_ ≠ (v3_ : Value).ownBlock ∧ some k_ ≠ (v6_ : Value).ownBlock ∧ some k_ ≠ (v10_ : Value).ownBlock ∧ some k_ ≠ (v11_ : Value).ownBlock) v7_ r8 ∧ Kd.R k70 70 w' w.heap.size (fun k_ => some k_ ≠ (v2_ : Value).ownBlock ∧ some k_ ≠ (v6_ : Value).ownBlock) v10_ r11 ∧ Kd.S (Kd.slice 70 k70) 69 w' w.heap.size (fun k_ => some k_ ≠ (v1_ : Value).ownBlock ∧ some k_ ≠ (v2_ : Value).ownBlock ∧ some k_ ≠ (v3_ : Value).ownBlock ∧ some k_ ≠ (v6_ : Value).ownBlock ∧ some k_ ≠ (v7_ : Value).ownBlock ∧ some k_ ≠ (v10_ : Value).ownBlock) v11_ r12 ∧ Below w.heap.size w w' := by
 have hu66 := Try.underlying66
 have hu74 := Try.underlying74
 have hu61 := Try.underlying61
 have hu64 := Try.underlying64
 have HR0_1 := Aside0.mk hr0_1
 have HC0_1 := Aside0.mk hc0_1
 clear hr0_1 hc0_1
 have HR0_2 := Aside0.mk hr0_2
 have HC0_2 := Aside0.mk hc0_2
 clear hr0_2 hc0_2
 have HR0_3 := Aside0.mk hr0_3
 have HC0_3 := Aside0.mk hc0_3
 clear hr0_3 hc0_3
 have HR0_6 := Aside0.mk hr0_6
 have HC0_6 := Aside0.mk hc0_6
 clear hr0_6 hc0_6
 have HR0_7 := Aside0.mk hr0_7
 have HC0_7 := Aside0.mk hc0_7
 clear hr0_7 hc0_7
 have HR0_10 := Aside0.mk hr0_10
 have HC0_10 := Aside0.mk hc0_10
 clear hr0_10 hc0_10
 have HR0_11 := Aside0.mk hr0_11
 have HC0_11 := Aside0.mk hc0_11
 clear hr0_11 hc0_11
 have HB := Aside0.mk (Below.refl w.heap.size w)
 have H : ((steeplelaw09_Refs.f k l0_1).bind fun t181 => ((steeplelaw01_Ref.f k l0_2).bind fun t184 => ((steeplelaw09_Refs.f k l0_3).bind fun t187 => ((steeplelaw01_Ref.f k l0_6).bind fun t190 => ((steeplelaw09_Refs.f k l0_7).bind fun t193 => ((steeplelaw24_Ref.f k l0_10 l0_11).bind fun bt196 => (some (a0_0, t181, t184, t187, a0_4, a0_5, t190, t193, a0_8, a0_9, bt196.1, bt196.2)))))))) = some (r1, r2, r3, r4, r5, r6, r7, r8, r9, r10, r11, r12) := h
 clear h
 obtain ⟨t181, A2, H⟩ := bm2 H
 try dsimp only at H
 obtain ⟨t184, A3, H⟩ := bm2 H
 try dsimp only at H
 obtain ⟨t187, A4, H⟩ := bm2 H
 try dsimp only at H
 obtain ⟨t190, A5, H⟩ := bm2 H
 try dsimp only at H
 obtain ⟨t193, A6, H⟩ := bm2 H
 try dsimp only at H
 obtain ⟨⟨t196, t199⟩, A7, H⟩ := bm2 H
 try dsimp only at H
 simp only [Option.some.injEq, Prod.mk.injEq] at H
 obtain ⟨rfl, rfl, rfl, rfl, rfl, rfl, rfl, rfl, rfl, rfl, rfl, rfl⟩ := H
 go_enter Try.func26, Try.ntmps26
 try go_wp2_with (first | ((with_reducible refine gate_dst (N := 1) rfl ?_); refine box_event ?hg (N := 1) ?hd (cs := #[.string a0_0, .slice A0_1 l0_1.length c0_1, .slice A0_2 l0_2.length c0_2, .slice A0_3 l0_3.length c0_3, .int .u64 a0_4, .int .u64 a0_5, .slice A0_6 l0_6.length c0_6, .slice A0_7 l0_7.length c0_7, .int .u64 a0_8, .int .u64 a0_9, .slice A0_10 l0_10.length c0_10, .slice A0_11 l0_11.length c0_11, .slice A0_12 n0_12 c0_12]) (t := 66) ?hr ?_; (case hd => rfl); (case hg => rfl); (case hr => go_simp <;> rfl); intro gb179 hg w8 hbox hb; have BK179 := Aside0.mk hbox; have GW179 := ge hg HB; have GE179 := ge hg HB; replace HB := bh HB hb; clear hb hbox hg) | ((with_reducible refine gate_dst (N := 2) rfl ?_); refine box_event ?hg (N := 2) ?hd (cs := #[.string (⟨#[]⟩ : ByteArray), .slice none 0 0, .slice none 0 0, .slice none 0 0, .int .u64 0, .int .u64 0, .slice none 0 0, .slice none 0 0, .int .u64 0, .int .u64 0, .slice none 0 0, .slice none 0 0, .slice none 0 0]) (t := 74) ?hr ?_; (case hd => rfl); (case hg => rfl); (case hr => go_simp <;> rfl); intro gb180 hg w9 hbox hb; have BK180 := Aside0.mk hbox; have GW180 := ge hg HB; have GE180 := ge hg HB; have NB179_180 := nl hg BK179; have NB180_179 := ng hg BK179; replace BK179 := bb BK179 hb; replace HB := bh HB hb; clear hb hbox hg))
 replace BK179 := Aside0.mk (blk_drew BK179.out)
 replace BK180 := Aside0.mk (blk_drew BK180.out)
 replace HB := Aside0.mk (below_drew1 HB.out)
 refine start_ (n := 26) (S := fun w' => w'.cell? ⟨gb179, 0, none⟩ = some (.string a0_0) ∧ w'.cell? ⟨gb179, 1, none⟩ = some (.slice A0_1 l0_1.length c0_1) ∧ w'.cell? ⟨gb179, 2, none⟩ = some (.slice A0_2 l0_2.length c0_2) ∧ w'.cell? ⟨gb179, 3, none⟩ = some (.slice A0_3 l0_3.length c0_3) ∧ w'.cell? ⟨gb179, 4, none⟩ = some (.int .u64 a0_4) ∧ w'.cell? ⟨gb179, 5, none⟩ = some (.int .u64 a0_5) ∧ w'.cell? ⟨gb179, 6, none⟩ = some (.slice A0_6 l0_6.length c0_6) ∧ w'.cell? ⟨gb179, 7, none⟩ = some (.slice A0_7 l0_7.length c0_7) ∧ w'.cell? ⟨gb179, 8, none⟩ = some (.int .u64 a0_8) ∧ w'.cell? ⟨gb179, 9, none⟩ = some (.int .u64 a0_9) ∧ w'.cell? ⟨gb179, 10, none⟩ = some (.slice A0_10 l0_10.length c0_10) ∧ w'.cell? ⟨gb179, 11, none⟩ = some (.slice A0_11 l0_11.length c0_11) ∧ w'.cell? ⟨gb179, 12, none⟩ = some (.slice A0_12 n0_12 c0_12)) (ds := []) #[Z,Z,Z,Z,Z,Z,Z,Z,Z,Z,Z,Z,Z,Z,Z,Z,Z,Z,Z,Z,Z,Z,Z,Z,Z,Z] (by kernel_rfl) rfl rfl ⟨bc BK179 0 rfl, bc BK179 1 rfl, bc BK179 2 rfl, bc BK179 3 rfl, bc BK179 4 rfl, bc BK179 5 rfl, bc BK179 6 rfl, bc BK179 7 rfl, bc BK179 8 rfl, bc BK179 9 rfl, bc BK179 10 rfl, bc BK179 11 rfl, bc BK179 12 rfl⟩ (fun hHeld => ?_); refine with_tabW steeplelaw29_Ref.tab1 steeplelaw29_Ref.bits1 (fun HT_ HW_ => ?_)
 generalize w9.drew = w10 at BK179 BK180 HB hHeld ⊢
 refine pA 0 3 #[Y,Z,Z,Z,Z,Z,Z,Z,Z,Z,Z,Z,Z,Z,Z,Z,Z,Z,Z,Z,Z,Z,Z,Z,Z,Z] HT_ ?_
 refine pA 2 5 #[Y,Z,Y,Z,Z,Z,Z,Z,Z,Z,Z,Z,Z,Z,Z,Z,Z,Z,Z,Z,Z,Z,Z,Z,Z,Z] HT_ ?_
 refine pA 5 8 #[Y,Z,Y,Z,Z,Y,Z,Z,Z,Z,Z,Z,Z,Z,Z,Z,Z,Z,Z,Z,Z,Z,Z,Z,Z,Z] HT_ ?_
 refine pA 8 11 #[Y,Z,Y,Z,Z,Y,Z,Z,Y,Z,Z,Z,Z,Z,Z,Z,Z,Z,Z,Z,Z,Z,Z,Z,Z,Z] HT_ ?_
 refine pA 11 14 #[Y,Z,Y,Z,Z,Y,Z,Z,Y,Z,Z,Y,Z,Z,Z,Z,Z,Z,Z,Z,Z,Z,Z,Z,Z,Z] HT_ ?_
 refine pA 13 16 #[Y,Z,Y,Z,Z,Y,Z,Z,Y,Z,Z,Y,Z,Y,Z,Z,Z,Z,Z,Z,Z,Z,Z,Z,Z,Z] HT_ ?_
 refine pA 16 19 #[Y,Z,Y,Z,Z,Y,Z,Z,Y,Z,Z,Y,Z,Y,Z,Z,Y,Z,Z,Z,Z,Z,Z,Z,Z,Z] HT_ ?_
 refine pA 19 22 #[Y,Z,Y,Z,Z,Y,Z,Z,Y,Z,Z,Y,Z,Y,Z,Z,Y,Z,Z,Y,Z,Z,Z,Z,Z,Z] HT_ ?_
 refine pA 21 24 #[Y,Z,Y,Z,Z,Y,Z,Z,Y,Z,Z,Y,Z,Y,Z,Z,Y,Z,Z,Y,Z,Y,Z,Z,Z,Z] HT_ ?_
 refine take_ (i := 1) (N := some 4) (v := ?_) (a' := ?_) #[Y,Y,Y,Z,Z,Y,Z,Z,Y,Z,Z,Y,Z,Y,Z,Z,Y,Z,Z,Y,Z,Y,Z,Z,Z,Z] rfl rfl (take_ofW HT_.out HW_.out (by kernel_rfl)) (fun _ _ _ h => h) (Or.inl ⟨by rfl, ?_⟩) hHeld ?_ ?_
 rotate_left
 ·rintro w' ⟨s0, s1, s2, s3, s4, s5, s6, s7, s8, s9, s10, s11, s12⟩
  go_simp
  with_reducible rfl
 rotate_left
 ·simp only [Act.put, sA, s0, sS, i64_w, i32_w]
  rfl
 refine take_ (i := 3) (N := some 6) (v := ?_) (a' := ?_) #[Y,Y,Y,Y,Z,Y,Z,Z,Y,Z,Z,Y,Z,Y,Z,Z,Y,Z,Z,Y,Z,Y,Z,Z,Z,Z] rfl rfl (take_ofW HT_.out HW_.out (by kernel_rfl)) (fun _ _ _ h => h) (Or.inl ⟨by rfl, ?_⟩) hHeld ?_ ?_
 rotate_left
 ·rintro w' ⟨s0, s1, s2, s3, s4, s5, s6, s7, s8, s9, s10, s11, s12⟩
  go_simp
  with_reducible rfl
 rotate_left
 ·simp only [Act.put, sA, s0, sS, i64_w, i32_w]
  rfl
 refine take_ (i := 6) (N := some 9) (v := ?_) (a' := ?_) #[Y,Y,Y,Y,Z,Y,Y,Z,Y,Z,Z,Y,Z,Y,Z,Z,Y,Z,Z,Y,Z,Y,Z,Z,Z,Z] rfl rfl (take_ofW HT_.out HW_.out (by kernel_rfl)) (fun _ _ _ h => h) (Or.inl ⟨by rfl, ?_⟩) hHeld ?_ ?_
 rotate_left
 ·rintro w' ⟨s0, s1, s2, s3, s4, s5, s6, s7, s8, s9, s10, s11, s12⟩
  go_simp
  with_reducible rfl
 rotate_left
 ·simp only [Act.put, sA, s0, sS, i64_w, i32_w]
  rfl
 refine take_ (i := 9) (N := some 12) (v := ?_) (a' := ?_) #[Y,Y,Y,Y,Z,Y,Y,Z,Y,Y,Z,Y,Z,Y,Z,Z,Y,Z,Z,Y,Z,Y,Z,Z,Z,Z] rfl rfl (take_ofW HT_.out HW_.out (by kernel_rfl)) (fun _ _ _ h => h) (Or.inl ⟨by rfl, ?_⟩) hHeld ?_ ?_
 rotate_left
 ·rintro w' ⟨s0, s1, s2, s3, s4, s5, s6, s7, s8, s9, s10, s11, s12⟩
  go_simp
  with_reducible rfl
 rotate_left
 ·simp only [Act.put, sA, s0, sS, i64_w, i32_w]
  rfl
 refine take_ (i := 12) (N := some 15) (v := ?_) (a' := ?_) #[Y,Y,Y,Y,Z,Y,Y,Z,Y,Y,Z,Y,Y,Y,Z,Z,Y,Z,Z,Y,Z,Y,Z,Z,Z,Z] rfl rfl (take_ofW HT_.out HW_.out (by kernel_rfl)) (fun _ _ _ h => h) (Or.inl ⟨by rfl, ?_⟩) hHeld ?_ ?_
 rotate_left
 ·rintro w' ⟨s0, s1, s2, s3, s4, s5, s6, s7, s8, s9, s10, s11, s12⟩
  go_simp
  with_reducible rfl
 rotate_left
 ·simp only [Act.put, sA, s0, sS, i64_w, i32_w]
  rfl
 refine take_ (i := 14) (N := some 17) (v := ?_) (a' := ?_) #[Y,Y,Y,Y,Z,Y,Y,Z,Y,Y,Z,Y,Y,Y,Y,Z,Y,Z,Z,Y,Z,Y,Z,Z,Z,Z] rfl rfl (take_ofW HT_.out HW_.out (by kernel_rfl)) (fun _ _ _ h => h) (Or.inl ⟨by rfl, ?_⟩) hHeld ?_ ?_
 rotate_left
 ·rintro w' ⟨s0, s1, s2, s3, s4, s5, s6, s7, s8, s9, s10, s11, s12⟩
  go_simp
  with_reducible rfl
 rotate_left
 ·simp only [Act.put, sA, s0, sS, i64_w, i32_w]
  rfl
 refine take_ (i := 17) (N := some 20) (v := ?_) (a' := ?_) #[Y,Y,Y,Y,Z,Y,Y,Z,Y,Y,Z,Y,Y,Y,Y,Z,Y,Y,Z,Y,Z,Y,Z,Z,Z,Z] rfl rfl (take_ofW HT_.out HW_.out (by kernel_rfl)) (fun _ _ _ h => h) (Or.inl ⟨by rfl, ?_⟩) hHeld ?_ ?_
 rotate_left
 ·rintro w' ⟨s0, s1, s2, s3, s4, s5, s6, s7, s8, s9, s10, s11, s12⟩
  go_simp
  with_reducible rfl
 rotate_left
 ·simp only [Act.put, sA, s0, sS, i64_w, i32_w]
  rfl
 refine take_ (i := 20) (N := some 23) (v := ?_) (a' := ?_) #[Y,Y,Y,Y,Z,Y,Y,Z,Y,Y,Z,Y,Y,Y,Y,Z,Y,Y,Z,Y,Y,Y,Z,Z,Z,Z] rfl rfl (take_ofW HT_.out HW_.out (by kernel_rfl)) (fun _ _ _ h => h) (Or.inl ⟨by rfl, ?_⟩) hHeld ?_ ?_
 rotate_left
 ·rintro w' ⟨s0, s1, s2, s3, s4, s5, s6, s7, s8, s9, s10, s11, s12⟩
  go_simp
  with_reducible rfl
 rotate_left
 ·simp only [Act.put, sA, s0, sS, i64_w, i32_w]
  rfl
 refine take_ (i := 22) (N := some 25) (v := ?_) (a' := ?_) #[Y,Y,Y,Y,Z,Y,Y,Z,Y,Y,Z,Y,Y,Y,Y,Z,Y,Y,Z,Y,Y,Y,Y,Z,Z,Z] rfl rfl (take_ofW HT_.out HW_.out (by kernel_rfl)) (fun _ _ _ h => h) (Or.inl ⟨by rfl, ?_⟩) hHeld ?_ ?_
 rotate_left
 ·rintro w' ⟨s0, s1, s2, s3, s4, s5, s6, s7, s8, s9, s10, s11, s12⟩
  go_simp
  with_reducible rfl
 rotate_left
 ·simp only [Act.put, sA, s0, sS, i64_w, i32_w]
  rfl
 refine one_ (i := 4) (N := some 7) #[Y,Y,Y,Y,Y,Y,Y,Z,Y,Y,Z,Y,Y,Y,Y,Z,Y,Y,Z,Y,Y,Y,Y,Z,Z,Z] rfl rfl (one_of HT_.out (by kernel_rfl)) (by decide) (fun K hK => ?_)
 refine goes_ Try.func59 (by kernel_rfl) rfl #[.slice A0_1 l0_1.length c0_1] (by rfl) rfl rfl (by (try simp only [mA, mC, mN]); first | done | rfl | (simp only [List.length_drop, List.length_take]; rfl)) ?_
 with_reducible refine (steeplelaw09_Refs.calls k _ _ l0_1 t181 _ ?side1 ?side2 A2.out).mono ?_
 (case side1 => exact cq (Kd.C_below HR0_1.out HB.out))
 (case side2 => exact HC0_1.out)
 rintro e w11 ⟨v182, rfl, ho0, hb⟩
 refine ⟨_, rfl, ?_⟩
 have HO183 := Aside0.mk (Kd.S_lower ho0 (below_size (bq HB.out)))
 replace BK179 := bb BK179 hb
 replace BK180 := bb BK180 hb
 replace HB := bh HB hb
 (try clear hb)
 (try clear ho0)
 refine hK.out _ _ ⟨bc BK179 0 rfl, bc BK179 1 rfl, bc BK179 2 rfl, bc BK179 3 rfl, bc BK179 4 rfl, bc BK179 5 rfl, bc BK179 6 rfl, bc BK179 7 rfl, bc BK179 8 rfl, bc BK179 9 rfl, bc BK179 10 rfl, bc BK179 11 rfl, bc BK179 12 rfl⟩ (fun hHeld => ?_)
 clear hK K
 refine norm_ (a' := ?_) ?_ ?_
 rotate_left
 ·show Act.put _ (some 7) _ = _
  simp only [Act.put, sA, s0, sS, i64_w, i32_w]
  rfl
 refine one_ (i := 7) (N := some 10) #[Y,Y,Y,Y,Y,Y,Y,Y,Y,Y,Z,Y,Y,Y,Y,Z,Y,Y,Z,Y,Y,Y,Y,Z,Z,Z] rfl rfl (one_of HT_.out (by kernel_rfl)) (by decide) (fun K hK => ?_)
 refine goes_ Try.func60 (by kernel_rfl) rfl #[.slice A0_2 l0_2.length c0_2] (by rfl) rfl rfl (by (try simp only [mA, mC, mN]); first | done | rfl | (simp only [List.length_drop, List.length_take]; rfl)) ?_
 with_reducible refine (steeplelaw01_Ref.calls k _ _ l0_2 t184 _ ?side1 ?side2 A3.out).mono ?_
 (case side1 => exact cq (Kd.C_below HR0_2.out HB.out))
 (case side2 => exact HC0_2.out)
 rintro e w12 ⟨v185, rfl, ho0, hb⟩
 refine ⟨_, rfl, ?_⟩
 have HO186 := kw ho0 HB
 replace HO183 := Aside0.mk (Kd.S_elder' (by (with_reducible repeat (first | apply Kd.S_alloc | apply Kd.S_drewN | apply Kd.S_drew)); exact HO183.out) (Kd.R_base ho0) hb)
 replace BK179 := bb BK179 hb
 replace BK180 := bb BK180 hb
 replace HB := bh HB hb
 (try clear hb)
 (try clear ho0)
 refine hK.out _ _ ⟨bc BK179 0 rfl, bc BK179 1 rfl, bc BK179 2 rfl, bc BK179 3 rfl, bc BK179 4 rfl, bc BK179 5 rfl, bc BK179 6 rfl, bc BK179 7 rfl, bc BK179 8 rfl, bc BK179 9 rfl, bc BK179 10 rfl, bc BK179 11 rfl, bc BK179 12 rfl⟩ (fun hHeld => ?_)
 clear hK K
 refine norm_ (a' := ?_) ?_ ?_
 rotate_left
 ·show Act.put _ (some 10) _ = _
  simp only [Act.put, sA, s0, sS, i64_w, i32_w]
  rfl
 refine one_ (i := 10) (N := some 13) #[Y,Y,Y,Y,Y,Y,Y,Y,Y,Y,Y,Y,Y,Y,Y,Z,Y,Y,Z,Y,Y,Y,Y,Z,Z,Z] rfl rfl (one_of HT_.out (by kernel_rfl)) (by decide) (fun K hK => ?_)
 refine goes_ Try.func59 (by kernel_rfl) rfl #[.slice A0_3 l0_3.length c0_3] (by rfl) rfl rfl (by (try simp only [mA, mC, mN]); first | done | rfl | (simp only [List.length_drop, List.length_take]; rfl)) ?_
 with_reducible refine (steeplelaw09_Refs.calls k _ _ l0_3 t187 _ ?side1 ?side2 A4.out).mono ?_
 (case side1 => exact cq (Kd.C_below HR0_3.out HB.out))
 (case side2 => exact HC0_3.out)
 rintro e w13 ⟨v188, rfl, ho0, hb⟩
 refine ⟨_, rfl, ?_⟩
 have HO189 := Aside0.mk (Kd.S_lower (Kd.S_new' (Kd.S_new' ho0 (Kd.S_lt (by (with_reducible repeat (first | apply Kd.S_alloc | apply Kd.S_drewN | apply Kd.S_drew)); exact HO183.out))) (Kd.R_lt (kr HO186.out))) (below_size (bq HB.out)))
 replace HO183 := Aside0.mk (Kd.S_elder' (by (with_reducible repeat (first | apply Kd.S_alloc | apply Kd.S_drewN | apply Kd.S_drew)); exact HO183.out) (Kd.S_base ho0) hb)
 replace HO186 := kb HO186 hb
 replace BK179 := bb BK179 hb
 replace BK180 := bb BK180 hb
 replace HB := bh HB hb
 (try clear hb)
 (try clear ho0)
 refine hK.out _ _ ⟨bc BK179 0 rfl, bc BK179 1 rfl, bc BK179 2 rfl, bc BK179 3 rfl, bc BK179 4 rfl, bc BK179 5 rfl, bc BK179 6 rfl, bc BK179 7 rfl, bc BK179 8 rfl, bc BK179 9 rfl, bc BK179 10 rfl, bc BK179 11 rfl, bc BK179 12 rfl⟩ (fun hHeld => ?_)
 clear hK K
 refine norm_ (a' := ?_) ?_ ?_
 rotate_left
 ·show Act.put _ (some 13) _ = _
  simp only [Act.put, sA, s0, sS, i64_w, i32_w]
  rfl
 refine one_ (i := 15) (N := some 18) #[Y,Y,Y,Y,Y,Y,Y,Y,Y,Y,Y,Y,Y,Y,Y,Y,Y,Y,Z,Y,Y,Y,Y,Z,Z,Z] rfl rfl (one_of HT_.out (by kernel_rfl)) (by decide) (fun K hK => ?_)
 refine goes_ Try.func60 (by kernel_rfl) rfl #[.slice A0_6 l0_6.length c0_6] (by rfl) rfl rfl (by (try simp only [mA, mC, mN]); first | done | rfl | (simp only [List.length_drop, List.length_take]; rfl)) ?_
 with_reducible refine (steeplelaw01_Ref.calls k _ _ l0_6 t190 _ ?side1 ?side2 A5.out).mono ?_
 (case side1 => exact cq (Kd.C_below HR0_6.out HB.out))
 (case side2 => exact HC0_6.out)
 rintro e w14 ⟨v191, rfl, ho0, hb⟩
 refine ⟨_, rfl, ?_⟩
 have HO192 := Aside0.mk (Kd.R_lower (Kd.R_new' ho0 (Kd.R_lt (kr HO186.out))) (below_size (bq HB.out)))
 replace HO183 := Aside0.mk (Kd.S_elder' (by (with_reducible repeat (first | apply Kd.S_alloc | apply Kd.S_drewN | apply Kd.S_drew)); exact HO183.out) (Kd.R_base ho0) hb)
 replace HO186 := Aside0.mk (Kd.R_elder' (kr HO186.out) (Kd.R_base ho0) hb)
 replace HO189 := Aside0.mk (Kd.S_elder' (by (with_reducible repeat (first | apply Kd.S_alloc | apply Kd.S_drewN | apply Kd.S_drew)); exact HO189.out) (Kd.R_base ho0) hb)
 replace BK179 := bb BK179 hb
 replace BK180 := bb BK180 hb
 replace HB := bh HB hb
 (try clear hb)
 (try clear ho0)
 refine hK.out _ _ ⟨bc BK179 0 rfl, bc BK179 1 rfl, bc BK179 2 rfl, bc BK179 3 rfl, bc BK179 4 rfl, bc BK179 5 rfl, bc BK179 6 rfl, bc BK179 7 rfl, bc BK179 8 rfl, bc BK179 9 rfl, bc BK179 10 rfl, bc BK179 11 rfl, bc BK179 12 rfl⟩ (fun hHeld => ?_)
 clear hK K
 refine norm_ (a' := ?_) ?_ ?_
 rotate_left
 ·show Act.put _ (some 18) _ = _
  simp only [Act.put, sA, s0, sS, i64_w, i32_w]
  rfl
 refine one_ (i := 18) (N := some 21) #[Y,Y,Y,Y,Y,Y,Y,Y,Y,Y,Y,Y,Y,Y,Y,Y,Y,Y,Y,Y,Y,Y,Y,Z,Z,Z] rfl rfl (one_of HT_.out (by kernel_rfl)) (by decide) (fun K hK => ?_)
 refine goes_ Try.func59 (by kernel_rfl) rfl #[.slice A0_7 l0_7.length c0_7] (by rfl) rfl rfl (by (try simp only [mA, mC, mN]); first | done | rfl | (simp only [List.length_drop, List.length_take]; rfl)) ?_
 with_reducible refine (steeplelaw09_Refs.calls k _ _ l0_7 t193 _ ?side1 ?side2 A6.out).mono ?_
 (case side1 => exact cq (Kd.C_below HR0_7.out HB.out))
 (case side2 => exact HC0_7.out)
 rintro e w15 ⟨v194, rfl, ho0, hb⟩
 refine ⟨_, rfl, ?_⟩
 have HO195 := Aside0.mk (Kd.S_lower (Kd.S_new' (Kd.S_new' (Kd.S_new' (Kd.S_new' ho0 (Kd.S_lt (by (with_reducible repeat (first | apply Kd.S_alloc | apply Kd.S_drewN | apply Kd.S_drew)); exact HO183.out))) (Kd.R_lt (kr HO186.out))) (Kd.S_lt (by (with_reducible repeat (first | apply Kd.S_alloc | apply Kd.S_drewN | apply Kd.S_drew)); exact HO189.out))) (Kd.R_lt (kr HO192.out))) (below_size (bq HB.out)))
 replace HO183 := Aside0.mk (Kd.S_elder' (by (with_reducible repeat (first | apply Kd.S_alloc | apply Kd.S_drewN | apply Kd.S_drew)); exact HO183.out) (Kd.S_base ho0) hb)
 replace HO186 := kb HO186 hb
 replace HO189 := Aside0.mk (Kd.S_elder' (by (with_reducible repeat (first | apply Kd.S_alloc | apply Kd.S_drewN | apply Kd.S_drew)); exact HO189.out) (Kd.S_base ho0) hb)
 replace HO192 := kb HO192 hb
 replace BK179 := bb BK179 hb
 replace BK180 := bb BK180 hb
 replace HB := bh HB hb
 (try clear hb)
 (try clear ho0)
 refine hK.out _ _ ⟨bc BK179 0 rfl, bc BK179 1 rfl, bc BK179 2 rfl, bc BK179 3 rfl, bc BK179 4 rfl, bc BK179 5 rfl, bc BK179 6 rfl, bc BK179 7 rfl, bc BK179 8 rfl, bc BK179 9 rfl, bc BK179 10 rfl, bc BK179 11 rfl, bc BK179 12 rfl⟩ (fun hHeld => ?_)
 clear hK K
 refine norm_ (a' := ?_) ?_ ?_
 rotate_left
 ·show Act.put _ (some 21) _ = _
  simp only [Act.put, sA, s0, sS, i64_w, i32_w]
  rfl
 refine one_ (i := 23) (N := some 26) #[Y,Y,Y,Y,Y,Y,Y,Y,Y,Y,Y,Y,Y,Y,Y,Y,Y,Y,Y,Y,Y,Y,Y,Y,Z,Z] rfl rfl (one_of HT_.out (by kernel_rfl)) (by decide) (fun K hK => ?_)
 refine goes_ Try.func61 (by kernel_rfl) rfl #[.agg #[.slice A0_10 l0_10.length c0_10, .slice A0_11 l0_11.length c0_11, .slice A0_12 n0_12 c0_12]] (by rfl) rfl rfl (by (try simp only [mA, mC, mN]); first | done | rfl | (simp only [List.length_drop, List.length_take]; rfl)) ?_
 with_reducible refine (steeplelaw24_Ref.calls k _ _ l0_10 _ _ l0_11 _ _ _ t196 t199 _ ?side1 ?side2 ?side3 ?side4 A7.out).mono ?_
 (case side1 => exact cq (Kd.C_below HR0_10.out HB.out))
 (case side2 => exact HC0_10.out)
 (case side3 => exact cq (Kd.C_below HR0_11.out HB.out))
 (case side4 => exact HC0_11.out)
 rintro e w16 ⟨v197, v200, rfl, ho0, ho1, hb⟩
 refine ⟨_, rfl, ?_⟩
 have HO198 := Aside0.mk (Kd.R_lower (Kd.R_new' (Kd.R_new' ho0 (Kd.R_lt (kr HO186.out))) (Kd.R_lt (kr HO192.out))) (below_size (bq HB.out)))
 have HO201 := Aside0.mk (Kd.S_lower (Kd.S_new' (Kd.S_new' (Kd.S_new' (Kd.S_new' (Kd.S_new' ho1 (Kd.S_lt (by (with_reducible repeat (first | apply Kd.S_alloc | apply Kd.S_drewN | apply Kd.S_drew)); exact HO183.out))) (Kd.R_lt (kr HO186.out))) (Kd.S_lt (by (with_reducible repeat (first | apply Kd.S_alloc | apply Kd.S_drewN | apply Kd.S_drew)); exact HO189.out))) (Kd.R_lt (kr HO192.out))) (Kd.S_lt (by (with_reducible repeat (first | apply Kd.S_alloc | apply Kd.S_drewN | apply Kd.S_drew)); exact HO195.out))) (below_size (bq HB.out)))
 replace HO183 := Aside0.mk (Kd.S_mono (Kd.S_told (Kd.S_told (Kd.S_old (by (with_reducible repeat (first | apply Kd.S_alloc | apply Kd.S_drewN | apply Kd.S_drew)); exact HO183.out) hb) (Kd.R_base ho0)) (Kd.S_base ho1)) (fun _ h_ => h_.1))
 replace HO186 := Aside0.mk (Kd.R_elder' (kr HO186.out) (Kd.R_base ho0) hb)
 replace HO189 := Aside0.mk (Kd.S_mono (Kd.S_told (Kd.S_told (Kd.S_old (by (with_reducible repeat (first | apply Kd.S_alloc | apply Kd.S_drewN | apply Kd.S_drew)); exact HO189.out) hb) (Kd.R_base ho0)) (Kd.S_base ho1)) (fun _ h_ => h_.1))
 replace HO192 := Aside0.mk (Kd.R_elder' (kr HO192.out) (Kd.R_base ho0) hb)
 replace HO195 := Aside0.mk (Kd.S_mono (Kd.S_told (Kd.S_told (Kd.S_old (by (with_reducible repeat (first | apply Kd.S_alloc | apply Kd.S_drewN | apply Kd.S_drew)); exact HO195.out) hb) (Kd.R_base ho0)) (Kd.S_base ho1)) (fun _ h_ => h_.1))
 replace BK179 := bb BK179 hb
 replace BK180 := bb BK180 hb
 replace HB := bh HB hb
 (try clear hb)
 (try clear ho0)
 (try clear ho1)
 obtain ⟨Ao17, co17, eo17⟩ := Kd.S_slice HO201.out
 (first | subst eo17 | (injection eo17 with f1_ f2_ f3_; have f4_ := f1_.symm; have f5_ := f3_.symm; clear f1_ f2_ f3_; subst f4_; subst f5_))
 obtain ⟨Ao18, co18, eo18⟩ := Kd.R_slice HO198.out
 (first | subst eo18 | (injection eo18 with f1_ f2_ f3_; have f4_ := f1_.symm; have f5_ := f3_.symm; clear f1_ f2_ f3_; subst f4_; subst f5_))
 obtain ⟨Ao19, co19, eo19⟩ := Kd.S_slice HO195.out
 (first | subst eo19 | (injection eo19 with f1_ f2_ f3_; have f4_ := f1_.symm; have f5_ := f3_.symm; clear f1_ f2_ f3_; subst f4_; subst f5_))
 obtain ⟨Ao20, co20, eo20⟩ := Kd.R_slice HO192.out
 (first | subst eo20 | (injection eo20 with f1_ f2_ f3_; have f4_ := f1_.symm; have f5_ := f3_.symm; clear f1_ f2_ f3_; subst f4_; subst f5_))
 obtain ⟨Ao21, co21, eo21⟩ := Kd.S_slice HO189.out
 (first | subst eo21 | (injection eo21 with f1_ f2_ f3_; have f4_ := f1_.symm; have f5_ := f3_.symm; clear f1_ f2_ f3_; subst f4_; subst f5_))
 obtain ⟨Ao22, co22, eo22⟩ := Kd.R_slice HO186.out
 (first | subst eo22 | (injection eo22 with f1_ f2_ f3_; have f4_ := f1_.symm; have f5_ := f3_.symm; clear f1_ f2_ f3_; subst f4_; subst f5_))
 obtain ⟨Ao23, co23, eo23⟩ := Kd.S_slice HO183.out
 (first | subst eo23 | (injection eo23 with f1_ f2_ f3_; have f4_ := f1_.symm; have f5_ := f3_.symm; clear f1_ f2_ f3_; subst f4_; subst f5_))
 refine hK.out _ _ ⟨bc BK179 0 rfl, bc BK179 1 rfl, bc BK179 2 rfl, bc BK179 3 rfl, bc BK179 4 rfl, bc BK179 5 rfl, bc BK179 6 rfl, bc BK179 7 rfl, bc BK179 8 rfl, bc BK179 9 rfl, bc BK179 10 rfl, bc BK179 11 rfl, bc BK179 12 rfl⟩ (fun hHeld => ?_)
 clear hK K
 refine norm_ (a' := ?_) ?_ ?_
 rotate_left
 ·show Act.put _ (some 26) _ = _
  simp only [Act.put, sA, s0, sS, i64_w, i32_w]
  rfl
 refine pA 24 27 #[Y,Y,Y,Y,Y,Y,Y,Y,Y,Y,Y,Y,Y,Y,Y,Y,Y,Y,Y,Y,Y,Y,Y,Y,Y,Z] HT_ ?_
 refine one_ (i := 25) (N := none) #[Y,Y,Y,Y,Y,Y,Y,Y,Y,Y,Y,Y,Y,Y,Y,Y,Y,Y,Y,Y,Y,Y,Y,Y,Y,Y] rfl rfl (one_of HT_.out (by kernel_rfl)) (by decide) (fun K hK => ?_)
 have hs24 : w16.cell? ⟨gb180, 0, none⟩ = some (.string (⟨#[]⟩ : ByteArray)) := bc BK180 0 rfl
 have hfs24 := blk_frozen BK180.out 0
 have hns24_0 := NB179_180.out
 have hms24_0 := NB180_179.out
 have hs25 : w16.cell? ⟨gb180, 1, none⟩ = some (.slice none 0 0) := bc BK180 1 rfl
 have hfs25 := blk_frozen BK180.out 1
 have hns25_0 := NB179_180.out
 have hms25_0 := NB180_179.out
 have hs26 : w16.cell? ⟨gb180, 2, none⟩ = some (.slice none 0 0) := bc BK180 2 rfl
 have hfs26 := blk_frozen BK180.out 2
 have hns26_0 := NB179_180.out
 have hms26_0 := NB180_179.out
 have hs27 : w16.cell? ⟨gb180, 3, none⟩ = some (.slice none 0 0) := bc BK180 3 rfl
 have hfs27 := blk_frozen BK180.out 3
 have hns27_0 := NB179_180.out
 have hms27_0 := NB180_179.out
 have hs28 : w16.cell? ⟨gb180, 4, none⟩ = some (.int .u64 0) := bc BK180 4 rfl
 have hfs28 := blk_frozen BK180.out 4
 have hns28_0 := NB179_180.out
 have hms28_0 := NB180_179.out
 have hs29 : w16.cell? ⟨gb180, 5, none⟩ = some (.int .u64 0) := bc BK180 5 rfl
 have hfs29 := blk_frozen BK180.out 5
 have hns29_0 := NB179_180.out
 have hms29_0 := NB180_179.out
 have hs30 : w16.cell? ⟨gb180, 6, none⟩ = some (.slice none 0 0) := bc BK180 6 rfl
 have hfs30 := blk_frozen BK180.out 6
 have hns30_0 := NB179_180.out
 have hms30_0 := NB180_179.out
 have hs31 : w16.cell? ⟨gb180, 7, none⟩ = some (.slice none 0 0) := bc BK180 7 rfl
 have hfs31 := blk_frozen BK180.out 7
 have hns31_0 := NB179_180.out
 have hms31_0 := NB180_179.out
 have hs32 : w16.cell? ⟨gb180, 8, none⟩ = some (.int .u64 0) := bc BK180 8 rfl
 have hfs32 := blk_frozen BK180.out 8
 have hns32_0 := NB179_180.out
 have hms32_0 := NB180_179.out
 have hs33 : w16.cell? ⟨gb180, 9, none⟩ = some (.int .u64 0) := bc BK180 9 rfl
 have hfs33 := blk_frozen BK180.out 9
 have hns33_0 := NB179_180.out
 have hms33_0 := NB180_179.out
 have hs34 : w16.cell? ⟨gb180, 10, none⟩ = some (.slice none 0 0) := bc BK180 10 rfl
 have hfs34 := blk_frozen BK180.out 10
 have hns34_0 := NB179_180.out
 have hms34_0 := NB180_179.out
 have hs35 : w16.cell? ⟨gb180, 11, none⟩ = some (.slice none 0 0) := bc BK180 11 rfl
 have hfs35 := blk_frozen BK180.out 11
 have hns35_0 := NB179_180.out
 have hms35_0 := NB180_179.out
 have hs36 : w16.cell? ⟨gb180, 12, none⟩ = some (.slice none 0 0) := bc BK180 12 rfl
 have hfs36 := blk_frozen BK180.out 12
 have hns36_0 := NB179_180.out
 have hms36_0 := NB180_179.out
 refine skip_ (w1 := ?_) (by rfl) rfl ?_ ?_
 rotate_left
 ·go_simp
  rfl
 refine hK.out _ _ ⟨((cell_far13 NB179_180.out).trans (hHeld.1)), ((cell_far13 NB179_180.out).trans (hHeld.2.1)), ((cell_far13 NB179_180.out).trans (hHeld.2.2.1)), ((cell_far13 NB179_180.out).trans (hHeld.2.2.2.1)), ((cell_far13 NB179_180.out).trans (hHeld.2.2.2.2.1)), ((cell_far13 NB179_180.out).trans (hHeld.2.2.2.2.2.1)), ((cell_far13 NB179_180.out).trans (hHeld.2.2.2.2.2.2.1)), ((cell_far13 NB179_180.out).trans (hHeld.2.2.2.2.2.2.2.1)), ((cell_far13 NB179_180.out).trans (hHeld.2.2.2.2.2.2.2.2.1)), ((cell_far13 NB179_180.out).trans (hHeld.2.2.2.2.2.2.2.2.2.1)), ((cell_far13 NB179_180.out).trans (hHeld.2.2.2.2.2.2.2.2.2.2.1)), ((cell_far13 NB179_180.out).trans (hHeld.2.2.2.2.2.2.2.2.2.2.2.1)), ((cell_far13 NB179_180.out).trans (hHeld.2.2.2.2.2.2.2.2.2.2.2.2))⟩ (fun hHeld => ?_)
 clear hK K
 refine done_ (done_of HT_.out (by kernel_rfl)) ?_
 try go_wp2
 refine bodyPost_ret (results_cell_row rfl _ _ gb180 74 #[.string a0_0, .slice Ao23 t181.length co23, .slice Ao22 t184.length co22, .slice Ao21 t187.length co21, .int .u64 a0_4, .int .u64 a0_5, .slice Ao20 t190.length co20, .slice Ao19 t193.length co19, .int .u64 a0_8, .int .u64 a0_9, .slice Ao18 t196.length co18, .slice Ao17 t199.length co17, .slice A0_12 n0_12 c0_12] (0, 0) _ rfl (by (with_reducible repeat refine bl ?_); apply blk_put13; (with_reducible repeat refine bl ?_); exact BK180.out) Try.underlying74 rfl (by kernel_rfl)) rfl ?_
 exact ⟨_, _, _, _, _, _, _, er, by (with_reducible repeat (first | apply Kd.S_alloc | apply Kd.S_drewN | apply Kd.S_drew)); exact Kd.S_mono (S_far13 (Kd.S_types HO183.out BK180.out (by decide)) (fun _ hk => hk.2)) (fun _ hk => ⟨hk.1.1.1.1.1.1.2, ⟨hk.1.1.1.1.1.2, ⟨hk.1.1.1.1.2, ⟨hk.1.1.1.2, ⟨hk.1.1.2, hk.1.2⟩⟩⟩⟩⟩), by (with_reducible repeat refine kl ?_); exact Kd.R_mono (R_far13 (Kd.R_types HO186.out BK180.out (by decide)) (fun _ hk => hk.2)) (fun _ hk => ⟨hk.1.1.2, hk.1.2⟩), by (with_reducible repeat (first | apply Kd.S_alloc | apply Kd.S_drewN | apply Kd.S_drew)); exact Kd.S_mono (S_far13 (Kd.S_types HO189.out BK180.out (by decide)) (fun _ hk => hk.2)) (fun _ hk => ⟨hk.1.1.1.1.1.1.2, ⟨hk.1.1.1.1.1.2, ⟨hk.1.1.1.1.2, ⟨hk.1.1.1.2, ⟨hk.1.1.2, hk.1.2⟩⟩⟩⟩⟩), by (with_reducible repeat refine kl ?_); exact Kd.R_mono (R_far13 (Kd.R_types HO192.out BK180.out (by decide)) (fun _ hk => hk.2)) (fun _ hk => ⟨hk.1.1.2, hk.1.2⟩), by (with_reducible repeat (first | apply Kd.S_alloc | apply Kd.S_drewN | apply Kd.S_drew)); exact Kd.S_mono (S_far13 (Kd.S_types HO195.out BK180.out (by decide)) (fun _ hk => hk.2)) (fun _ hk => ⟨hk.1.1.1.1.1.1.2, ⟨hk.1.1.1.1.1.2, ⟨hk.1.1.1.1.2, ⟨hk.1.1.1.2, ⟨hk.1.1.2, hk.1.2⟩⟩⟩⟩⟩), by (with_reducible repeat refine kl ?_); exact Kd.R_mono (R_far13 (Kd.R_types HO198.out BK180.out (by decide)) (fun _ hk => hk.2)) (fun _ hk => ⟨hk.1.1.2, hk.1.2⟩), by (with_reducible repeat (first | apply Kd.S_alloc | apply Kd.S_drewN | apply Kd.S_drew)); exact Kd.S_mono (S_far13 (Kd.S_types HO201.out BK180.out (by decide)) (fun _ hk => hk.2)) (fun _ hk => ⟨hk.1.1.1.1.1.2, ⟨hk.1.1.1.1.2, ⟨hk.1.1.1.2, ⟨hk.1.1.2, ⟨hk.1.2, hk.1.1.1.1.1.1⟩⟩⟩⟩⟩), bq HB.out⟩
end Go.Proofs.Ythgiifakcgjlaaa.P
