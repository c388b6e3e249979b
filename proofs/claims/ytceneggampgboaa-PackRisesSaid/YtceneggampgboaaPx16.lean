/- Written by a program of this session: functions that the law reaches, as Lean functions, and that the code comes to their answers. Conditions: those that each theorem names. -/
import Derived.Test.YtceneggampgboaaPx0
import Derived.Test.YtceneggampgboaaPx3
import Derived.Test.YtceneggampgboaaPx15
import Derived.Test.YtceneggampgboaaHClone
namespace Go.Proofs.Ytceneggampgboaa.P
open Go.RowKit Go.Proofs.YtceneggampgboaaX Go.Proofs.YtceneggampgboaaW.PrintWords Go.Proofs.YtceneggampgboaaW.PrintLast Go.Proofs.YtceneggampgboaaW.PrintMore
attribute [local go_sem] max2_int min2_int max_two min_two max_three min_three max_four min_four   -- for this text's walks alone
set_option linter.unusedVariables false
set_option linter.unusedSimpArgs false

/-! ### pack_Add: function 21 -/
def pack_Add.l0 : Nat → List Int → List Int → Int → Int → Int → Int → List Int → Option (Int × Int × List Int × Int)
 | 0, _, _, _, _, _, _, _ => none
 | k + 1, x6, x18, x19, x20, x420000, x420001, x420002 => if x20 < x19 then (if 0 ≤ x20 then (if x20 < (x18.length : Int) then (if x20 < (x6.length : Int) then (pack_Add.l0 k (x6.set (x20 : Int).toNat (Go.bits .xor .u64 (rd x6 x20) (rd x18 x20))) x18 x19 (wrap64 (x20 + 1)) x420000 x420001 x420002) else (none)) else (none)) else (none)) else ((pack_vec.f x420000 x420001 x6).bind fun bt429 => (some (bt429.1, bt429.2.1, bt429.2.2, 0)))
def pack_Add.f (k : Nat) (a0_0 : Int) (a0_1 : Int) (l0_2 : List Int) (a1_0 : Int) (a1_1 : Int) (l1_2 : List Int) : Option (Int × Int × List Int × Int) := (pack_alike.f a0_0 a0_1 l0_2 a1_0 a1_1 l1_2).bind fun t422 => (if t422 = true then ((slices_Clone_uint64_uint64.f l0_2).bind fun t423 => (pack_Add.l0 k t423 l1_2 (l1_2.length : Int) 0 a0_0 a0_1 l0_2)) else (some (0, 0, ([] : List Int), 6)))
theorem pack_Add.mono_l : ∀ k, (∀ y0 y1 y2 y3 y4 y5 y6, LeO (pack_Add.l0 k y0 y1 y2 y3 y4 y5 y6) (pack_Add.l0 (k + 1) y0 y1 y2 y3 y4 y5 y6))
 | 0 => fun _ _ _ _ _ _ _ r h => by simp [pack_Add.l0] at h
 | k + 1 => by
  have ih0 := pack_Add.mono_l k
  ·intro y0 y1 y2 y3 y4 y5 y6
   unfold pack_Add.l0
   repeat' first
   | (with_reducible exact ih0 _ _ _ _ _ _ _)
   | (with_reducible exact LeO.refl _)
   | (with_reducible exact LeO.none _)
   | (with_reducible refine LeO.ite ?_ ?_)
   | (with_reducible refine LeO.bind ?_ (fun _ => ?_))
   | exact ih0 _ _ _ _ _ _ _
   | exact LeO.none _
   | refine LeO.ite ?_ ?_
   | refine LeO.bind ?_ (fun _ => ?_)
theorem pack_Add.mono : ∀ a0 a1 a2 a3 a4 a5 k, LeO (pack_Add.f k a0 a1 a2 a3 a4 a5) (pack_Add.f (k + 1) a0 a1 a2 a3 a4 a5) := by
 intro a0 a1 a2 a3 a4 a5 k
 have ih0 := pack_Add.mono_l k
 unfold pack_Add.f
 repeat' first
   | (with_reducible exact ih0 _ _ _ _ _ _ _)
   | (with_reducible exact LeO.refl _)
   | (with_reducible exact LeO.none _)
   | (with_reducible refine LeO.ite ?_ ?_)
   | (with_reducible refine LeO.bind ?_ (fun _ => ?_))
   | exact ih0 _ _ _ _ _ _ _
   | exact LeO.none _
   | refine LeO.ite ?_ ?_
   | refine LeO.bind ?_ (fun _ => ?_)
set_option maxHeartbeats 8000000 in
set_option maxRecDepth 100000 in
theorem pack_Add.calls (k : Nat) (a0_0 : Int) (a0_1 : Int) (A0_2 : Option Addr) (c0_2 : Nat) (l0_2 : List Int) (a1_0 : Int) (a1_1 : Int) (A1_2 : Option Addr) (c1_2 : Nat) (l1_2 : List Int) (r1 : Int) (r2 : Int) (r3 : List Int) (r4 : Int) (w : World) (hr0_2 : Kd.C (Kd.int .u64) w A0_2 l0_2.length l0_2) (hc0_2 : l0_2.length ≤ c0_2) (hr1_2 : Kd.C (Kd.int .u64) w A1_2 l1_2.length l1_2) (hc1_2 : l1_2.length ≤ c1_2) (h : pack_Add.f k a0_0 a0_1 l0_2 a1_0 a1_1 l1_2 = some (r1, r2, r3, r4)) :
  Calls Try.prog 21 #[.agg #[.int .i64 a0_0, .int .i64 a0_1, .slice A0_2 l0_2.length c0_2], .agg #[.int .i64 a1_0, .int .i64 a1_1, .slice A1_2 l1_2.length c1_2]] w fun e w' => ∃ v2_ : Value, e = .returned (.tuple #[.agg #[.int .i64 r1, .int .i64 r2, v2_], .int .i64 r4]) ∧ Kd.R (Kd.int .u64) 23 w' w.heap.size (fun _ => True) v2_ r3 ∧ Below w.heap.size w w' := by
 have hu31 := Try.underlying31
 have HR0_2 := Aside0.mk hr0_2
 have HC0_2 := Aside0.mk hc0_2
 clear hr0_2 hc0_2
 have HR1_2 := Aside0.mk hr1_2
 have HC1_2 := Aside0.mk hc1_2
 clear hr1_2 hc1_2
 have HB := Aside0.mk (Below.refl w.heap.size w)
 have H : ((pack_alike.f a0_0 a0_1 l0_2 a1_0 a1_1 l1_2).bind fun t422 => (if t422 = true then ((slices_Clone_uint64_uint64.f l0_2).bind fun t423 => (pack_Add.l0 k t423 l1_2 (l1_2.length : Int) 0 a0_0 a0_1 l0_2)) else (some (0, 0, ([] : List Int), 6)))) = some (r1, r2, r3, r4) := h
 clear h
 replace H := Option.bind_eq_some_iff.mp H
 obtain ⟨t422, A30, H⟩ := H
 replace H : (if t422 = true then ((slices_Clone_uint64_uint64.f l0_2).bind fun t423 => (pack_Add.l0 k t423 l1_2 (l1_2.length : Int) 0 a0_0 a0_1 l0_2)) else (some (0, 0, ([] : List Int), 6))) = some (r1, r2, r3, r4) := H
 have A3 := Aside0.mk A30
 clear A30
 by_cases c4 : t422 = true
 ·subst c4
  have H1 : ((slices_Clone_uint64_uint64.f l0_2).bind fun t423 => (pack_Add.l0 k t423 l1_2 (l1_2.length : Int) 0 a0_0 a0_1 l0_2)) = some (r1, r2, r3, r4) := by rw [if_pos rfl] at H; exact H
  clear H
  have H := H1
  clear H1
  replace H := Option.bind_eq_some_iff.mp H
  obtain ⟨t423, A50, H⟩ := H
  replace H : (pack_Add.l0 k t423 l1_2 (l1_2.length : Int) 0 a0_0 a0_1 l0_2) = some (r1, r2, r3, r4) := H
  have A5 := Aside0.mk A50
  clear A50
  have H' := Aside0.mk H
  clear H
  go_enter Try.func21, Try.ntmps21
  go_wp2_with (first | ((with_reducible refine gate_dst (N := 2) rfl ?_); refine box_event ?hg (N := 2) ?hd (cs := #[.int .i64 a0_0, .int .i64 a0_1, .slice A0_2 l0_2.length c0_2]) (t := 31) ?hr ?_; (case hd => rfl); (case hg => rfl); (case hr => first | (go_simp; done) | (go_simp; rfl)); intro gb419 hg w6 hbox hb; have BK419 := Aside0.mk hbox; have GW419 := ge hg HB; have GE419 := ge hg HB; replace HB := bh HB hb; clear hb hbox hg) | ((with_reducible refine gate_dst (N := 3) rfl ?_); refine box_event ?hg (N := 3) ?hd (cs := #[.int .i64 a1_0, .int .i64 a1_1, .slice A1_2 l1_2.length c1_2]) (t := 31) ?hr ?_; (case hd => rfl); (case hg => rfl); (case hr => first | (go_simp; done) | (go_simp; rfl)); intro gb420 hg w7 hbox hb; have BK420 := Aside0.mk hbox; have GW420 := ge hg HB; have GE420 := ge hg HB; have NB419_420 := nl hg BK419; have NB420_419 := ng hg BK419; replace BK419 := bb BK419 hb; replace HB := bh HB hb; clear hb hbox hg) | ((with_reducible refine gate_dst (N := 4) rfl ?_); refine box_event ?hg (N := 4) ?hd (cs := #[.int .i64 0, .int .i64 0, .slice none 0 0]) (t := 31) ?hr ?_; (case hd => rfl); (case hg => rfl); (case hr => first | (go_simp; done) | (go_simp; rfl)); intro gb421 hg w8 hbox hb; have BK421 := Aside0.mk hbox; have GW421 := ge hg HB; have GE421 := ge hg HB; have NB419_421 := nl hg BK419; have NB421_419 := ng hg BK419; have NB420_421 := nl hg BK420; have NB421_420 := ng hg BK420; replace BK419 := bb BK419 hb; replace BK420 := bb BK420 hb; replace HB := bh HB hb; clear hb hbox hg; have hnb9 := NB419_420.out; have hnc9 := NB420_419.out; have hnb10 := NB419_421.out; have hnc10 := NB421_419.out; obtain ⟨hcz11_0, hcz11_1, hcz11_2⟩ := zc3 BK419; obtain ⟨hfz11_0, hfz11_1, hfz11_2⟩ := zf3 BK419; have hnb12 := NB420_421.out; have hnc12 := NB421_420.out; obtain ⟨hcz13_0, hcz13_1, hcz13_2⟩ := zc3 BK420; obtain ⟨hfz13_0, hfz13_1, hfz13_2⟩ := zf3 BK420) | ((with_reducible refine gate_callee (f := 48) rfl ?_); refine goesL_ (some 11) rfl rfl Try.func48 (by kernel_rfl) rfl #[.agg #[.int .i64 a0_0, .int .i64 a0_1, .slice A0_2 l0_2.length c0_2], .agg #[.int .i64 a1_0, .int .i64 a1_1, .slice A1_2 l1_2.length c1_2]] rfl (by (try simp only [List.map_toArray, List.map_cons, List.map_nil]); first | done | rfl | (simp only [List.length_drop, List.length_take]; rfl)) ?_; (with_reducible refine (pack_alike.calls a0_0 a0_1 _ _ l0_2 a1_0 a1_1 _ _ l1_2 true _ ?side1 ?side2 ?side3 ?side4 A3.out).mono ?_); (case side1 => repeat (first | exact (Kd.C_below HR0_2.out HB.out) | (with_reducible refine Kd.C_alloc ?_ _) | (with_reducible refine Kd.C_drewN ?_ _) | (with_reducible refine Kd.C_drew ?_))); (case side2 => exact HC0_2.out); (case side3 => repeat (first | exact (Kd.C_below HR1_2.out HB.out) | (with_reducible refine Kd.C_alloc ?_ _) | (with_reducible refine Kd.C_drewN ?_ _) | (with_reducible refine Kd.C_drew ?_))); (case side4 => exact HC1_2.out); rintro e w14 ⟨rfl, hb⟩; refine ⟨_, rfl, ?_⟩; replace BK419 := bb BK419 hb; replace BK420 := bb BK420 hb; replace BK421 := bb BK421 hb; replace HB := bh HB hb; (try clear hb); (try clear hb2); (try clear hk); (try clear hi); obtain ⟨hcz15_0, hcz15_1, hcz15_2⟩ := zc3 BK419; obtain ⟨hfz15_0, hfz15_1, hfz15_2⟩ := zf3 BK419) | ((with_reducible refine gate_callee (f := 43) rfl ?_); refine goesL_ (some 16) rfl rfl Try.func43 (by kernel_rfl) rfl #[.slice A0_2 l0_2.length c0_2] rfl (by (try simp only [List.map_toArray, List.map_cons, List.map_nil]); first | done | rfl | (simp only [List.length_drop, List.length_take]; rfl)) ?_; (with_reducible refine (slices_Clone_uint64_uint64.calls _ _ l0_2 t423 _ ?side1 ?side2 A5.out).mono ?_); (case side1 => repeat (first | exact (Kd.C_below HR0_2.out HB.out) | (with_reducible refine Kd.C_alloc ?_ _) | (with_reducible refine Kd.C_drewN ?_ _) | (with_reducible refine Kd.C_drew ?_))); (case side2 => exact HC0_2.out); rintro e w16 ⟨v424, rfl, ho0, hb⟩; refine ⟨_, rfl, ?_⟩; have HO425 := kw ho0 HB; replace BK419 := bb BK419 hb; replace BK420 := bb BK420 hb; replace BK421 := bb BK421 hb; replace HB := bh HB hb; (try clear hb); (try clear hb2); (try clear hk); (try clear hi); (try clear ho0); obtain ⟨hcz17_0, hcz17_1, hcz17_2⟩ := zc3 BK420; obtain ⟨hfz17_0, hfz17_1, hfz17_2⟩ := zf3 BK420))
  go_loopg [20] k (fun kq v20 w' => ∃ (x6_1 : List Int) (x20_1 : Int), v20 = .int .i64 x20_1 ∧ Aside0 (pack_Add.l0 kq x6_1 l1_2 (l1_2.length : Int) x20_1 a0_0 a0_1 l0_2 = some (r1, r2, r3, r4)) ∧ Aside0 (kq ≤ k) ∧ Aside0 (Kd.R (Kd.int .u64) 23 w' w.heap.size (fun _ => True) v424 x6_1) ∧ Aside0 (w'.heap[gb419]? = some (.cells #[.int .i64 a0_0, .int .i64 a0_1, (.slice A0_2 l0_2.length c0_2)] 31 (0, 0))) ∧ Aside0 (w'.heap[gb420]? = some (.cells #[.int .i64 a1_0, .int .i64 a1_1, (.slice A1_2 l1_2.length c1_2)] 31 (0, 0))) ∧ Aside0 (w'.heap[gb421]? = some (.cells #[.int .i64 0, .int .i64 0, (.slice none 0 0)] 31 (0, 0))) ∧ Aside0 (Below w.heap.size w w'))
  case atStart => exact ⟨(t423), (0), (by first | rfl | (simp; done) | (simp [*]; done)), H', ⟨Nat.le_refl _⟩, ⟨kr HO425.out⟩, ⟨bk BK419.out⟩, ⟨bk BK420.out⟩, ⟨bk BK421.out⟩, ⟨bq HB.out⟩⟩
  case round =>
   clear H'
   try clear c1
   try clear c2
   try clear p2
   try clear c4
   try clear c9
   try clear c10
   try clear c12
   try clear hcz11_0
   try clear hcz11_1
   try clear hcz11_2
   try clear hcz13_0
   try clear hcz13_1
   try clear hcz13_2
   try clear hcz15_0
   try clear hcz15_1
   try clear hcz15_2
   try clear hcz17_0
   try clear hcz17_1
   try clear hcz17_2
   try clear hfz11_0
   try clear hfz11_1
   try clear hfz11_2
   try clear hfz13_0
   try clear hfz13_1
   try clear hfz13_2
   try clear hfz15_0
   try clear hfz15_1
   try clear hfz15_2
   try clear hfz17_0
   try clear hfz17_1
   try clear hfz17_2
   obtain ⟨x6_1, x20_1, rfl, HA, HK1, HO_6, BK419, BK420, BK421, HB⟩ := hrel
   cases gk with
   | zero => exact absurd HA.out (by simp [pack_Add.l0])
   | succ k1 =>
    have H := HA.out
    clear HA
    simp only [pack_Add.l0] at H
    by_cases c18 : x20_1 < (l1_2.length : Int)
    ·rw [if_pos c18] at H
     have c18b0 : decide (x20_1 < (l1_2.length : Int)) = true := decide_eq_true c18
     clear c18
     by_cases c19 : 0 ≤ x20_1
     ·rw [if_pos c19] at H
      have c19b0 : decide (0 ≤ x20_1) = true := decide_eq_true c19
      clear c19
      by_cases c20 : x20_1 < (l1_2.length : Int)
      ·rw [if_pos c20] at H
       have c20b0 : decide (x20_1 < (l1_2.length : Int)) = true := decide_eq_true c20
       clear c20
       by_cases c21 : x20_1 < (x6_1.length : Int)
       ·rw [if_pos c21] at H
        have c21b0 : decide (x20_1 < (x6_1.length : Int)) = true := decide_eq_true c21
        clear c21
        obtain ⟨y428, hy428⟩ : ∃ y_ : List Int, y_ = (x6_1.set (x20_1 : Int).toNat (Go.bits .xor .u64 (rd x6_1 x20_1) (rd l1_2 x20_1))) := ⟨_, rfl⟩
        replace H : (pack_Add.l0 k1 y428 l1_2 (l1_2.length : Int) (wrap64 (x20_1 + 1)) a0_0 a0_1 l0_2) = some (r1, r2, r3, r4) := by first | (rw [hy428]; with_reducible exact H) | (have H2_ := (Option.bind_some _ _).symm.trans H; rw [hy428]; with_reducible exact H2_) | (have H2_ := (Option.bind_some _ _).symm.trans H; with_reducible exact H2_) | with_reducible exact H | (rw [hy428]; exact H) | exact H
        have Ny428 := Aside0.mk hy428
        clear hy428
        have H' := Aside0.mk H
        clear H
        have p426 : 0 ≤ (x20_1 : Int) := of_decide_eq_true (by first | (with_reducible assumption) | assumption)
        have q426 : x20_1 < (l1_2.length : Int) := of_decide_eq_true (by first | (with_reducible assumption) | assumption)
        obtain ⟨ad426, e426, hx426_0⟩ := Kd.at_int HR1_2.out x20_1 p426 q426
        cases e426
        replace hx426_0 := (HB.out.cell (World.block_lt_of_cell? w _ hx426_0)).trans hx426_0
        replace p426 := eq_true p426
        replace q426 := eq_true q426
        obtain ⟨Ao23, co23, eo23⟩ := Kd.R_slice HO_6.out
        subst eo23
        have p427 : 0 ≤ (x20_1 : Int) := of_decide_eq_true (by first | (with_reducible assumption) | assumption)
        have q427 : x20_1 < (x6_1.length : Int) := of_decide_eq_true (by first | (with_reducible assumption) | assumption)
        (try (obtain ⟨Ap_, cp_, ep_⟩ := Kd.R_slice HO_6.out; subst ep_))
        obtain ⟨ad427, e427, hx427_0⟩ := Kd.at_int (Kd.R_reads' HO_6.out).2.2 x20_1 p427 q427
        cases e427
        replace p427 := eq_true p427
        replace q427 := eq_true q427
        have p22 : 0 ≤ (x20_1 : Int) := of_decide_eq_true (by first | (with_reducible assumption) | assumption)
        have q22 : (x20_1 : Int) < ((x6_1.length : Int) : Int) := of_decide_eq_true (by first | (with_reducible assumption) | assumption)
        obtain ⟨go22, co22, eo22, gb22, gl22, cl22, HG22⟩ := Kd.R_form HO_6.out (by omega)
        (first | cases eo22 | (injection eo22 with ea_ en_ ec_; (first | subst ea_ | (injection ea_ with ea_; subst ea_)); subst ec_; clear en_))
        have GB22 := Aside0.mk gb22
        have GG22 := Aside0.mk HG22
        clear gb22 gl22 HG22
        (first | simp only [add_plain] at hx427_0 | skip)
        obtain ⟨hx22_0, hf22_0⟩ := Kd.R_celln 0 HO_6.out (x20_1 : Int) p22 q22
        replace p22 := eq_true p22
        replace q22 := eq_true q22
        have HP24 := Kd.R_putg HO_6.out (x20_1 : Int) (Go.bits .xor .u64 (rd x6_1 x20_1) (rd l1_2 x20_1))
        go_wp2_with (first | ((with_reducible refine gate_store (t := 23) (p := 31) rfl ?_); refine store_event (t := 23) (p := 31) (v := ?vo_w25) (w1 := (wr.setCell ⟨go22, (x20_1 : Int).toNat, none⟩ (.int .u64 (Go.bits .xor .u64 (rd x6_1 x20_1) (rd l1_2 x20_1))))) ?hg ?ho ?hn ?hr ?_; (case ho => rfl); (case hg => rfl); (case hn => rfl); (case hr => first | (go_simp; done) | (go_simp; rfl)); intro w25 hw; have hg : wr.grownBy w25 (some go22) := (by rw [hw]; exact HP24.2); have hp_ : Kd.R (Kd.int .u64) 23 w25 w.heap.size (fun _ => True) (.slice (some ⟨go22, 0, none⟩) x6_1.length co23) y428 := (by rw [hw, Ny428.out]; exact HP24.1); clear HP24; replace BK419 := Aside0.mk (blk_grown (g := gb419) (o := .cells #[.int .i64 a0_0, .int .i64 a0_1, .slice A0_2 l0_2.length c0_2] 31 (0, 0)) (bk BK419.out) hg (Kd.R_ne HO_6.out BK419.out (by decide))); replace BK420 := Aside0.mk (blk_grown (g := gb420) (o := .cells #[.int .i64 a1_0, .int .i64 a1_1, .slice (some ad426) l1_2.length c1_2] 31 (0, 0)) (bk BK420.out) hg (Kd.R_ne HO_6.out BK420.out (by decide))); replace BK421 := Aside0.mk (blk_grown (g := gb421) (o := .cells #[.int .i64 0, .int .i64 0, .slice none 0 0] 31 (0, 0)) (bk BK421.out) hg (Kd.R_ne HO_6.out BK421.out (by decide))); replace HO_6 := Aside0.mk hp_; replace HB := Aside0.mk ((by rw [hw]; exact below_set (HB.out) GB22.out : Below w.heap.size w w25)); clear hg hw hp_))
        go_roundg k1
        case measure => have := HK1.out; omega
        case rel => exact ⟨(y428), (wrap64 (x20_1 + 1)), (by first | rfl | (simp; done) | (simp [*]; done)), H', ⟨by have := HK1.out; omega⟩, ⟨kr HO_6.out⟩, ⟨bk BK419.out⟩, ⟨bk BK420.out⟩, ⟨bk BK421.out⟩, ⟨bq HB.out⟩⟩
       ·rw [if_neg c21] at H
        exact absurd H (by simp)
      ·rw [if_neg c20] at H
       exact absurd H (by simp)
     ·rw [if_neg c19] at H
      exact absurd H (by simp)
    ·rw [if_neg c18] at H
     have c18b0 : decide (x20_1 < (l1_2.length : Int)) = false := decide_eq_false c18
     clear c18
     replace H := Option.bind_eq_some_iff.mp H
     obtain ⟨⟨t429, t430, t431⟩, A260, H⟩ := H
     replace H : (some (t429, t430, t431, 0)) = some (r1, r2, r3, r4) := H
     have A26 := Aside0.mk A260
     clear A260
     simp only [Option.some.injEq, Prod.mk.injEq] at H
     obtain ⟨rfl, rfl, rfl, rfl⟩ := H
     have hnb27 := NB419_420.out
     have hnc27 := NB420_419.out
     have hnb28 := NB419_421.out
     have hnc28 := NB421_419.out
     obtain ⟨hcz29_0, hcz29_1, hcz29_2⟩ := zc3 BK419
     obtain ⟨hfz29_0, hfz29_1, hfz29_2⟩ := zf3 BK419
     obtain ⟨Ao30, co30, eo30⟩ := Kd.R_slice HO_6.out
     subst eo30
     go_wp2_with (first | ((with_reducible refine gate_callee (f := 40) rfl ?_); refine goesL_ (some 38) rfl rfl Try.func40 (by kernel_rfl) rfl #[.int .i64 a0_0, .int .i64 a0_1, .slice Ao30 x6_1.length co30] rfl (by (try simp only [List.map_toArray, List.map_cons, List.map_nil]); first | done | rfl | (simp only [List.length_drop, List.length_take]; rfl)) ?_; (with_reducible refine (pack_vec.calls a0_0 a0_1 (fun k_ => some k_ = (.slice Ao30 x6_1.length co30 : Value).ownBlock) (.slice Ao30 x6_1.length co30) x6_1 t429 t430 t431 w _ ?side1 ?side2 A26.out).mono ?_); (case side1 => repeat (first | (with_reducible first | exact HB.out | apply below_alloc | apply pw_below_drewN | apply below_drew1 | refine below_set ?_ GE419.out | refine below_set ?_ GE420.out | refine below_set ?_ GE421.out) | exact HB.out)); (case side2 => exact Kd.R_tight rfl HO_6.out); rintro e w31 ⟨v432, rfl, ho0, hb, hkp⟩; refine ⟨_, rfl, ?_⟩; have HO433 := Aside0.mk (Kd.R_mono (ok' := fun k_ => True) ho0 (fun k_ hk_ => trivial)); replace BK419 := Aside0.mk (blk_kept (bk BK419.out) hkp (fun hs_ => (fun e_ => (Kd.R_ne HO_6.out BK419.out (by decide)) e_) hs_)); replace BK420 := Aside0.mk (blk_kept (bk BK420.out) hkp (fun hs_ => (fun e_ => (Kd.R_ne HO_6.out BK420.out (by decide)) e_) hs_)); replace BK421 := Aside0.mk (blk_kept (bk BK421.out) hkp (fun hs_ => (fun e_ => (Kd.R_ne HO_6.out BK421.out (by decide)) e_) hs_)); replace HB := Aside0.mk hb; clear HO_6; (try clear hb); (try clear hkp); (try clear ho0); have hnb32 := NB421_420.out; have hnc32 := NB420_421.out; obtain ⟨hcz33_0, hcz33_1, hcz33_2⟩ := zc3 BK421; obtain ⟨hfz33_0, hfz33_1, hfz33_2⟩ := zf3 BK421; obtain ⟨Ao34, co34, eo34⟩ := Kd.R_slice HO433.out; subst eo34))
     refine bodyPost_ret (results_ct rfl _ _ gb421 31 #[.int .i64 t429, .int .i64 t430, .slice Ao34 t431.length co34] (0, 0) _ rfl (by (with_reducible repeat refine bl ?_); refine blk_put (cs := #[.int .i64 t429, .int .i64 t430, .slice none 0 0]) ?_ 2 _ rfl; (with_reducible repeat refine bl ?_); refine blk_put (cs := #[.int .i64 t429, .int .i64 0, .slice none 0 0]) ?_ 1 _ rfl; (with_reducible repeat refine bl ?_); refine blk_put (cs := #[.int .i64 0, .int .i64 0, .slice none 0 0]) ?_ 0 _ rfl; (with_reducible repeat refine bl ?_); exact BK421.out) Try.underlying31 rfl (by kernel_rfl)) rfl ?_
     exact ⟨_, by first | rfl | (simp [errW_none, errW_some] <;> rfl) | (simp [*, errW_none, errW_some] <;> rfl), by (with_reducible repeat refine kl ?_); exact Kd.R_mono (Kd.R_far (p := ⟨gb421, 2, none⟩) (Kd.R_far (p := ⟨gb421, 1, none⟩) (Kd.R_far (p := ⟨gb421, 0, none⟩) (Kd.R_types HO433.out BK421.out (by decide)) (fun _ hk => hk.2) (.int .i64 t429)) (fun _ hk => hk.2) (.int .i64 t430)) (fun _ hk => hk.2) (.slice Ao34 t431.length co34)) (fun _ hk => trivial), bq HB.out⟩
 ·replace c4 := Bool.eq_false_iff.mpr c4
  subst c4
  have H1 : (some (0, 0, ([] : List Int), 6)) = some (r1, r2, r3, r4) := by rw [if_neg (show ¬ (false = true) by decide)] at H; exact H
  clear H
  have H := H1
  clear H1
  simp only [Option.some.injEq, Prod.mk.injEq] at H
  obtain ⟨rfl, rfl, rfl, rfl⟩ := H
  go_enter Try.func21, Try.ntmps21
  go_wp2_with (first | ((with_reducible refine gate_dst (N := 2) rfl ?_); refine box_event ?hg (N := 2) ?hd (cs := #[.int .i64 a0_0, .int .i64 a0_1, .slice A0_2 l0_2.length c0_2]) (t := 31) ?hr ?_; (case hd => rfl); (case hg => rfl); (case hr => first | (go_simp; done) | (go_simp; rfl)); intro gb419 hg w35 hbox hb; have BK419 := Aside0.mk hbox; have GW419 := ge hg HB; have GE419 := ge hg HB; replace HB := bh HB hb; clear hb hbox hg) | ((with_reducible refine gate_dst (N := 3) rfl ?_); refine box_event ?hg (N := 3) ?hd (cs := #[.int .i64 a1_0, .int .i64 a1_1, .slice A1_2 l1_2.length c1_2]) (t := 31) ?hr ?_; (case hd => rfl); (case hg => rfl); (case hr => first | (go_simp; done) | (go_simp; rfl)); intro gb420 hg w36 hbox hb; have BK420 := Aside0.mk hbox; have GW420 := ge hg HB; have GE420 := ge hg HB; have NB419_420 := nl hg BK419; have NB420_419 := ng hg BK419; replace BK419 := bb BK419 hb; replace HB := bh HB hb; clear hb hbox hg) | ((with_reducible refine gate_dst (N := 4) rfl ?_); refine box_event ?hg (N := 4) ?hd (cs := #[.int .i64 0, .int .i64 0, .slice none 0 0]) (t := 31) ?hr ?_; (case hd => rfl); (case hg => rfl); (case hr => first | (go_simp; done) | (go_simp; rfl)); intro gb421 hg w37 hbox hb; have BK421 := Aside0.mk hbox; have GW421 := ge hg HB; have GE421 := ge hg HB; have NB419_421 := nl hg BK419; have NB421_419 := ng hg BK419; have NB420_421 := nl hg BK420; have NB421_420 := ng hg BK420; replace BK419 := bb BK419 hb; replace BK420 := bb BK420 hb; replace HB := bh HB hb; clear hb hbox hg; have hnb38 := NB419_420.out; have hnc38 := NB420_419.out; have hnb39 := NB419_421.out; have hnc39 := NB421_419.out; obtain ⟨hcz40_0, hcz40_1, hcz40_2⟩ := zc3 BK419; obtain ⟨hfz40_0, hfz40_1, hfz40_2⟩ := zf3 BK419; have hnb41 := NB420_421.out; have hnc41 := NB421_420.out; obtain ⟨hcz42_0, hcz42_1, hcz42_2⟩ := zc3 BK420; obtain ⟨hfz42_0, hfz42_1, hfz42_2⟩ := zf3 BK420) | ((with_reducible refine gate_callee (f := 48) rfl ?_); refine goesL_ (some 11) rfl rfl Try.func48 (by kernel_rfl) rfl #[.agg #[.int .i64 a0_0, .int .i64 a0_1, .slice A0_2 l0_2.length c0_2], .agg #[.int .i64 a1_0, .int .i64 a1_1, .slice A1_2 l1_2.length c1_2]] rfl (by (try simp only [List.map_toArray, List.map_cons, List.map_nil]); first | done | rfl | (simp only [List.length_drop, List.length_take]; rfl)) ?_; (with_reducible refine (pack_alike.calls a0_0 a0_1 _ _ l0_2 a1_0 a1_1 _ _ l1_2 false _ ?side1 ?side2 ?side3 ?side4 A3.out).mono ?_); (case side1 => repeat (first | exact (Kd.C_below HR0_2.out HB.out) | (with_reducible refine Kd.C_alloc ?_ _) | (with_reducible refine Kd.C_drewN ?_ _) | (with_reducible refine Kd.C_drew ?_))); (case side2 => exact HC0_2.out); (case side3 => repeat (first | exact (Kd.C_below HR1_2.out HB.out) | (with_reducible refine Kd.C_alloc ?_ _) | (with_reducible refine Kd.C_drewN ?_ _) | (with_reducible refine Kd.C_drew ?_))); (case side4 => exact HC1_2.out); rintro e w43 ⟨rfl, hb⟩; refine ⟨_, rfl, ?_⟩; replace BK419 := bb BK419 hb; replace BK420 := bb BK420 hb; replace BK421 := bb BK421 hb; replace HB := bh HB hb; (try clear hb); (try clear hb2); (try clear hk); (try clear hi); obtain ⟨hcz44_0, hcz44_1, hcz44_2⟩ := zc3 BK421; obtain ⟨hfz44_0, hfz44_1, hfz44_2⟩ := zf3 BK421))
  refine bodyPost_ret (results_ct rfl _ _ gb421 31 #[.int .i64 0, .int .i64 0, .slice none 0 0] (0, 0) _ rfl (by (with_reducible repeat refine bl ?_); refine blk_put (cs := #[.int .i64 0, .int .i64 0, .slice none 0 0]) ?_ 2 _ rfl; (with_reducible repeat refine bl ?_); refine blk_put (cs := #[.int .i64 0, .int .i64 0, .slice none 0 0]) ?_ 1 _ rfl; (with_reducible repeat refine bl ?_); refine blk_put (cs := #[.int .i64 0, .int .i64 0, .slice none 0 0]) ?_ 0 _ rfl; (with_reducible repeat refine bl ?_); exact BK421.out) Try.underlying31 rfl (by kernel_rfl)) rfl ?_
  exact ⟨_, by first | rfl | (simp [errW_none, errW_some] <;> rfl) | (simp [*, errW_none, errW_some] <;> rfl), by first | exact Kd.R_nil _ _ _ _ _ | exact Kd.N_nil _ _ _ _ _ | exact Kd.V_nil _ _ _ _ _ | exact Kd.Q_nil _ _ _ _ _ | exact Kd.S_nil _ _ _ _ _, bq HB.out⟩

end Go.Proofs.Ytceneggampgboaa.P
