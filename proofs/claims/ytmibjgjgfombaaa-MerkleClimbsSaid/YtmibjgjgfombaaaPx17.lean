/- Written by a program of this session: functions that the law reaches, as Lean functions, and that the code comes to their answers. Conditions: those that each theorem names. -/
import Derived.Test.YtmibjgjgfombaaaPx0
import Derived.Test.YtmibjgjgfombaaaX2
import Derived.Test.YtmibjgjgfombaaaPx4
import Derived.Test.YtmibjgjgfombaaaPx12
import Derived.Test.YtmibjgjgfombaaaPx16
-- HND
namespace Go.Proofs.Ytmibjgjgfombaaa.P
open Go.RowKit Go.Proofs.YtmibjgjgfombaaaX Go.Proofs.YtmibjgjgfombaaaW.PrintWords Go.Proofs.YtmibjgjgfombaaaW.PrintLast Go.Proofs.YtmibjgjgfombaaaW.PrintMore
attribute [local go_sem] max2_int min2_int max_two min_two max_three min_three max_four min_four   -- for this text's walks alone
set_option linter.unusedVariables false
set_option linter.unusedSimpArgs false

/-! ### steepleref12_Climb: function 23 -/
mutual
def steepleref12_Climb.j0 : Nat → Int → Int → ByteArray → List ByteArray → Int → Bool → List Int → List (List Int) → Option (ByteArray × List ByteArray × Int)
 | 0, _, _, _, _, _, _, _, _ => none
 | k + 1, x1, x2, x3, x4, x11, x23, x427000, x427001 => if x23 = true then (some ((⟨#[]⟩ : ByteArray), ([] : List ByteArray), 1)) else (steepleref12_Climb.l0 k x1 x2 x3 x4 x11 0 x427000 x427001)
def steepleref12_Climb.l0 : Nat → Int → Int → ByteArray → List ByteArray → Int → Int → List Int → List (List Int) → Option (ByteArray × List ByteArray × Int)
 | 0, _, _, _, _, _, _, _, _ => none
 | k + 1, x1, x2, x3, x4, x11, x12, x427000, x427001 => if x12 < x1 then (steepleref12_Climb.l0 k x1 x2 x3 x4 (wrap64 (2 * x11)) (wrap64 (x12 + 1)) x427000 x427001) else (if x2 < 0 then (steepleref12_Climb.j2 k x1 x2 x3 x4 true x427000 x427001) else (steepleref12_Climb.j2 k x1 x2 x3 x4 (decide (x2 ≥ x11)) x427000 x427001))
def steepleref12_Climb.j2 : Nat → Int → Int → ByteArray → List ByteArray → Bool → List Int → List (List Int) → Option (ByteArray × List ByteArray × Int)
 | 0, _, _, _, _, _, _, _ => none
 | k + 1, x1, x2, x3, x4, x38, x427000, x427001 => if x38 = true then (some ((⟨#[]⟩ : ByteArray), ([] : List ByteArray), 1)) else (if (x3.size : Int) = 32 then (steepleref12_Climb.j3 k x2 x3 x4 ((x4.length : Int) != x1) x427000 x427001) else (steepleref12_Climb.j3 k x2 x3 x4 true x427000 x427001))
def steepleref12_Climb.j3 : Nat → Int → ByteArray → List ByteArray → Bool → List Int → List (List Int) → Option (ByteArray × List ByteArray × Int)
 | 0, _, _, _, _, _, _ => none
 | k + 1, x2, x3, x4, x48, x427000, x427001 => if x48 = true then (some ((⟨#[]⟩ : ByteArray), ([] : List ByteArray), 6)) else (steepleref12_Climb.l1 k x2 x3 x4 0 x427000 x427001)
def steepleref12_Climb.l1 : Nat → Int → ByteArray → List ByteArray → Int → List Int → List (List Int) → Option (ByteArray × List ByteArray × Int)
 | 0, _, _, _, _, _, _ => none
 | k + 1, x2, x3, x4, x13, x427000, x427001 => if x13 < (x4.length : Int) then (if 0 ≤ x13 then (if ((rdOf ByteArray.empty x4 x13).size : Int) = 32 then (steepleref12_Climb.l1 k x2 x3 x4 (wrap64 (x13 + 1)) x427000 x427001) else (some ((⟨#[]⟩ : ByteArray), ([] : List ByteArray), 6))) else (none)) else (steepleref12_Climb.l2 k x4 x2 0 x427000 x427001 x3 ([] : List ByteArray) 0)
def steepleref12_Climb.l2 : Nat → List ByteArray → Int → Int → List Int → List (List Int) → ByteArray → List ByteArray → Int → Option (ByteArray × List ByteArray × Int)
 | 0, _, _, _, _, _, _, _, _ => none
 | k + 1, x4, x15, x16, x427000, x427001, x430000, x430001, x430002 => if x16 < (x4.length : Int) then (if 1 + x430000.size ≤ 9223372036854775807 then (if 0 ≤ x16 then (if ((⟨#[1]⟩ : ByteArray) ++ x430000).size + (rdOf ByteArray.empty x4 x16).size ≤ 9223372036854775807 then (if (Int.tmod x15 2) = 1 then (if 1 + (rdOf ByteArray.empty x4 x16).size ≤ 9223372036854775807 then (if ((⟨#[1]⟩ : ByteArray) ++ (rdOf ByteArray.empty x4 x16)).size + x430000.size ≤ 9223372036854775807 then (if x430001.length < 8796093022208 then ((steepleref11_Sum.f k x427000 x427001 (((⟨#[1]⟩ : ByteArray) ++ (rdOf ByteArray.empty x4 x16)) ++ x430000)).bind fun t435 => (steepleref12_Climb.l2 k x4 (wrap64 (Int.tdiv x15 2)) (wrap64 (x16 + 1)) x427000 x427001 t435 (x430001 ++ [((⟨#[1]⟩ : ByteArray) ++ (rdOf ByteArray.empty x4 x16)) ++ x430000]) x430002)) else (none)) else (none)) else (none)) else (if x430001.length < 8796093022208 then ((steepleref11_Sum.f k x427000 x427001 (((⟨#[1]⟩ : ByteArray) ++ x430000) ++ (rdOf ByteArray.empty x4 x16))).bind fun t439 => (steepleref12_Climb.l2 k x4 (wrap64 (Int.tdiv x15 2)) (wrap64 (x16 + 1)) x427000 x427001 t439 (x430001 ++ [((⟨#[1]⟩ : ByteArray) ++ x430000) ++ (rdOf ByteArray.empty x4 x16)]) x430002)) else (none))) else (none)) else (none)) else (none)) else (some (x430000, x430001, x430002))
end
def steepleref12_Climb.f (k : Nat) (l0_0 : List Int) (l0_1 : List (List Int)) (a1 : Int) (a2 : Int) (a3 : ByteArray) (l4 : List ByteArray) : Option (ByteArray × List ByteArray × Int) := if a1 < 0 then (steepleref12_Climb.j0 k a1 a2 a3 l4 1 true l0_0 l0_1) else (steepleref12_Climb.j0 k a1 a2 a3 l4 1 (decide (a1 > 12)) l0_0 l0_1)
set_option maxHeartbeats 8000000 in
set_option maxRecDepth 100000 in
theorem steepleref12_Climb.calls (k : Nat) (A0_0 : Option Addr) (c0_0 : Nat) (l0_0 : List Int) (A0_1 : Option Addr) (c0_1 : Nat) (l0_1 : List (List Int)) (a1 : Int) (a2 : Int) (a3 : ByteArray) (A4 : Option Addr) (c4 : Nat) (l4 : List ByteArray) (r1 : ByteArray) (r2 : List ByteArray) (r3 : Int) (w : World) (hr0_0 : Kd.C (Kd.int .i64) w A0_0 l0_0.length l0_0) (hc0_0 : l0_0.length ≤ c0_0) (hr0_1 : Kd.C (Kd.slice 3 (Kd.int .i64)) w A0_1 l0_1.length l0_1) (hc0_1 : l0_1.length ≤ c0_1) (hr4 : Kd.C Kd.string w A4 l4.length l4) (hc4 : l4.length ≤ c4) (h : steepleref12_Climb.f k l0_0 l0_1 a1 a2 a3 l4 = some (r1, r2, r3)) :
  Calls Try.prog 23 #[.agg #[.slice A0_0 l0_0.length c0_0, .slice A0_1 l0_1.length c0_1], .int .i64 a1, .int .i64 a2, .string a3, .slice A4 l4.length c4] w fun e w' => ∃ v1_ : Value, e = .returned (.agg #[.string r1, v1_, .int .i64 r3]) ∧ Kd.R Kd.string 9 w' w.heap.size (fun _ => True) v1_ r2 ∧ Below w.heap.size w w' := by
 have hu39 := Try.underlying39
 have hu53 := Try.underlying53
 have HR0_0 := Aside0.mk hr0_0
 have HC0_0 := Aside0.mk hc0_0
 clear hr0_0 hc0_0
 have HR0_1 := Aside0.mk hr0_1
 have HC0_1 := Aside0.mk hc0_1
 clear hr0_1 hc0_1
 have HR4 := Aside0.mk hr4
 have HC4 := Aside0.mk hc4
 clear hr4 hc4
 have HB := Aside0.mk (Below.refl w.heap.size w)
 have H : (if a1 < 0 then (steepleref12_Climb.j0 k a1 a2 a3 l4 1 true l0_0 l0_1) else (steepleref12_Climb.j0 k a1 a2 a3 l4 1 (decide (a1 > 12)) l0_0 l0_1)) = some (r1, r2, r3) := h
 clear h
 have HC6 := Aside0.mk H
 clear H
 go_enter Try.func23, Try.ntmps23
 go_upto_region 2 with (first | ((with_reducible refine gate_dst (N := 5) rfl ?_); (try (refine gate_guard (by rfl) ?_; dsimp only)); refine box_event ?hg (N := 5) ?hd (cs := #[.slice A0_0 l0_0.length c0_0, .slice A0_1 l0_1.length c0_1]) (t := 39) ?hr ?_; (case hd => rfl); (case hg => rfl); (case hr => go_simp <;> rfl); intro gb426 hg w7 hbox hb; have BK426 := Aside0.mk hbox; have GW426 := ge hg HB; have GE426 := ge hg HB; replace HB := bh HB hb; clear hb hbox hg) | ((with_reducible refine gate_dst (N := 10) rfl ?_); (try (refine gate_guard (by rfl) ?_; dsimp only)); refine box_event ?hg (N := 10) ?hd (cs := #[.string (⟨#[]⟩ : ByteArray), .slice none 0 0, .int .i64 0]) (t := 53) ?hr ?_; (case hd => rfl); (case hg => rfl); (case hr => go_simp <;> rfl); intro gb427 hg w8 hbox hb; have BK427 := Aside0.mk hbox; have GW427 := ge hg HB; have GE427 := ge hg HB; have NB426_427 := nl hg BK426; have NB427_426 := ng hg BK426; replace BK426 := bb BK426 hb; replace HB := bh HB hb; clear hb hbox hg))
 repeat (go_quiet (first | ((with_reducible refine gate_dst (N := 5) rfl ?_); (try (refine gate_guard (by rfl) ?_; dsimp only)); refine box_event ?hg (N := 5) ?hd (cs := #[.slice A0_0 l0_0.length c0_0, .slice A0_1 l0_1.length c0_1]) (t := 39) ?hr ?_; (case hd => rfl); (case hg => rfl); (case hr => go_simp <;> rfl); intro gb426 hg w7 hbox hb; have BK426 := Aside0.mk hbox; have GW426 := ge hg HB; have GE426 := ge hg HB; replace HB := bh HB hb; clear hb hbox hg) | ((with_reducible refine gate_dst (N := 10) rfl ?_); (try (refine gate_guard (by rfl) ?_; dsimp only)); refine box_event ?hg (N := 10) ?hd (cs := #[.string (⟨#[]⟩ : ByteArray), .slice none 0 0, .int .i64 0]) (t := 53) ?hr ?_; (case hd => rfl); (case hg => rfl); (case hr => go_simp <;> rfl); intro gb427 hg w8 hbox hb; have BK427 := Aside0.mk hbox; have GW427 := ge hg HB; have GE427 := ge hg HB; have NB426_427 := nl hg BK426; have NB427_426 := ng hg BK426; replace BK426 := bb BK426 hb; replace HB := bh HB hb; clear hb hbox hg)); go_upto_region 2 with (first | ((with_reducible refine gate_dst (N := 5) rfl ?_); (try (refine gate_guard (by rfl) ?_; dsimp only)); refine box_event ?hg (N := 5) ?hd (cs := #[.slice A0_0 l0_0.length c0_0, .slice A0_1 l0_1.length c0_1]) (t := 39) ?hr ?_; (case hd => rfl); (case hg => rfl); (case hr => go_simp <;> rfl); intro gb426 hg w7 hbox hb; have BK426 := Aside0.mk hbox; have GW426 := ge hg HB; have GE426 := ge hg HB; replace HB := bh HB hb; clear hb hbox hg) | ((with_reducible refine gate_dst (N := 10) rfl ?_); (try (refine gate_guard (by rfl) ?_; dsimp only)); refine box_event ?hg (N := 10) ?hd (cs := #[.string (⟨#[]⟩ : ByteArray), .slice none 0 0, .int .i64 0]) (t := 53) ?hr ?_; (case hd => rfl); (case hg => rfl); (case hr => go_simp <;> rfl); intro gb427 hg w8 hbox hb; have BK427 := Aside0.mk hbox; have GW427 := ge hg HB; have GE427 := ge hg HB; have NB426_427 := nl hg BK426; have NB427_426 := ng hg BK426; replace BK426 := bb BK426 hb; replace HB := bh HB hb; clear hb hbox hg)))
 (try simp only [Act.put, sA, s0, sS])
 go_cut [23] (fun v23 wc => ∃ (kq : Nat) (x23_5 : Bool), v23 = .bool x23_5 ∧ Aside0 (steepleref12_Climb.j0 kq a1 a2 a3 l4 1 x23_5 l0_0 l0_1 = some (r1, r2, r3)) ∧ Aside0 (kq ≤ k) ∧ Aside0 (wc.heap[gb426]? = some (.cells #[(.slice A0_0 l0_0.length c0_0), (.slice A0_1 l0_1.length c0_1)] 39 (0, 0))) ∧ Aside0 (wc.heap[gb427]? = some (.cells #[.string (⟨#[]⟩ : ByteArray), (.slice none 0 0), .int .i64 0] 53 (0, 0))) ∧ Aside0 (Below w.heap.size w wc))
 case first =>
  have H := HC6.out
  clear HC6
  by_cases c9 : a1 < 0
  ·rw [if_pos c9] at H
   have c9b0 : decide (a1 < 0) = true := decide_eq_true c9
   clear c9
   (first | rw [c9b0] | (simp only [i64_w, i32_w]; rw [c9b0]) | skip)
   have H' := Aside0.mk H
   clear H
   go_wp2
   repeat (go_quiet (fail); try go_wp2)
   go_meet
   case rel => exact ⟨_, (true), (by first | rfl | (simp; done) | (simp [*]; done)), H', ⟨by first | omega | exact Nat.le_refl _⟩, ⟨bk BK426.out⟩, ⟨bk BK427.out⟩, ⟨bq HB.out⟩⟩
  rw [if_neg c9] at H
  have c9b0 : decide (a1 < 0) = false := decide_eq_false c9
  clear c9
  (first | rw [c9b0] | (simp only [i64_w, i32_w]; rw [c9b0]) | skip)
  have H' := Aside0.mk H
  clear H
  go_wp2
  repeat (go_quiet (fail); try go_wp2)
  go_meet
  case rel => exact ⟨_, (decide (a1 > 12)), (by first | rfl | (simp; done) | (simp [*]; done)), H', ⟨by first | omega | exact Nat.le_refl _⟩, ⟨bk BK426.out⟩, ⟨bk BK427.out⟩, ⟨bq HB.out⟩⟩
 case rest =>
  clear HC6
  try clear c2
  try clear p2
  try clear c4
  try clear c9
  try clear c9b0
  obtain ⟨kq, x23_5, rfl, HA, HJ5, BK426, BK427, HB⟩ := hcut
  cases kq with
  | zero => exact absurd HA.out (by simp [steepleref12_Climb.j0])
  | succ kj5 =>
   have H := HA.out
   clear HA
   simp only [steepleref12_Climb.j0] at H
   by_cases c10 : x23_5 = true
   ·subst c10
    have H1 : (some ((⟨#[]⟩ : ByteArray), ([] : List ByteArray), 1)) = some (r1, r2, r3) := by rw [if_pos rfl] at H; exact H
    clear H
    have H := H1
    clear H1
    simp only [Option.some.injEq, Prod.mk.injEq] at H
    obtain ⟨rfl, rfl, rfl⟩ := H
    have hnb11 := NB427_426.out
    have hnc11 := NB426_427.out
    obtain ⟨hcz12_0, hcz12_1, hcz12_2⟩ := zc3 BK427
    obtain ⟨hfz12_0, hfz12_1, hfz12_2⟩ := zf3 BK427
    go_wp2
    repeat (go_quiet (fail); try go_wp2)
    refine bodyPost_ret (results_cell_row rfl _ _ gb427 53 #[.string (⟨#[]⟩ : ByteArray), .slice none 0 0, .int .i64 1] (0, 0) _ rfl (by (with_reducible repeat refine bl ?_); refine blk_put (cs := #[.string (⟨#[]⟩ : ByteArray), .slice none 0 0, .int .i64 0]) ?_ 2 _ rfl; (with_reducible repeat refine bl ?_); refine blk_put (cs := #[.string (⟨#[]⟩ : ByteArray), .slice none 0 0, .int .i64 0]) ?_ 1 _ rfl; (with_reducible repeat refine bl ?_); refine blk_put (cs := #[.string (⟨#[]⟩ : ByteArray), .slice none 0 0, .int .i64 0]) ?_ 0 _ rfl; (with_reducible repeat refine bl ?_); exact BK427.out) Try.underlying53 rfl (by kernel_rfl)) rfl ?_
    exact ⟨_, by first | rfl | (simp [errW_none, errW_some] <;> rfl) | (simp [*, errW_none, errW_some] <;> rfl), by first | exact Kd.R_nil _ _ _ _ _ | exact Kd.N_nil _ _ _ _ _ | exact Kd.V_nil _ _ _ _ _ | exact Kd.Q_nil _ _ _ _ _ | exact Kd.S_nil _ _ _ _ _, bq HB.out⟩
   replace c10 := Bool.eq_false_iff.mpr c10
   subst c10
   have H1 : (steepleref12_Climb.l0 kj5 a1 a2 a3 l4 1 0 l0_0 l0_1) = some (r1, r2, r3) := by rw [if_neg (show ¬ (false = true) by decide)] at H; exact H
   clear H
   have H := H1
   clear H1
   have H' := Aside0.mk H
   clear H
   go_wp2
   repeat (go_quiet (fail); try go_wp2)
   go_loopg [11, 12] kj5 (fun kq v11 v12 w' => ∃ (x11_2 : Int) (x12_2 : Int), v11 = .int .i64 x11_2 ∧ v12 = .int .i64 x12_2 ∧ Aside0 (steepleref12_Climb.l0 kq a1 a2 a3 l4 x11_2 x12_2 l0_0 l0_1 = some (r1, r2, r3)) ∧ Aside0 (kq ≤ kj5) ∧ Aside0 (w'.heap[gb426]? = some (.cells #[(.slice A0_0 l0_0.length c0_0), (.slice A0_1 l0_1.length c0_1)] 39 (0, 0))) ∧ Aside0 (w'.heap[gb427]? = some (.cells #[.string (⟨#[]⟩ : ByteArray), (.slice none 0 0), .int .i64 0] 53 (0, 0))) ∧ Aside0 (Below w.heap.size w w'))
   case atStart => exact ⟨(1), (0), (by first | rfl | (simp; done) | (simp [*]; done)), (by first | rfl | (simp; done) | (simp [*]; done)), H', ⟨Nat.le_refl _⟩, ⟨bk BK426.out⟩, ⟨bk BK427.out⟩, ⟨bq HB.out⟩⟩
   case round =>
    clear H'
    try clear c1
    try clear c2
    try clear p2
    try clear c4
    try clear c9
    try clear c9b0
    try clear c10
    try clear c11
    try clear hcz12_0
    try clear hcz12_1
    try clear hcz12_2
    try clear hfz12_0
    try clear hfz12_1
    try clear hfz12_2
    try clear p2
    obtain ⟨x11_2, x12_2, rfl, rfl, HA, HK2, BK426, BK427, HB⟩ := hrel
    cases gk with
    | zero => exact absurd HA.out (by simp [steepleref12_Climb.l0])
    | succ k2 =>
     have H := HA.out
     clear HA
     simp only [steepleref12_Climb.l0] at H
     by_cases c13 : x12_2 < a1
     ·rw [if_pos c13] at H
      have c13b0 : decide (x12_2 < a1) = true := decide_eq_true c13
      clear c13
      have H' := Aside0.mk H
      clear H
      go_wp2
      repeat (go_quiet (fail); try go_wp2)
      go_roundg k2
      case measure => have := HJ5.out; have := HK2.out; omega
      case rel => exact ⟨(wrap64 (2 * x11_2)), (wrap64 (x12_2 + 1)), (by first | rfl | (simp; done) | (simp [*]; done)), (by first | rfl | (simp; done) | (simp [*]; done)), H', ⟨by have := HJ5.out; have := HK2.out; omega⟩, ⟨bk BK426.out⟩, ⟨bk BK427.out⟩, ⟨bq HB.out⟩⟩
     rw [if_neg c13] at H
     have c13b0 : decide (x12_2 < a1) = false := decide_eq_false c13
     clear c13
     have HC14 := Aside0.mk H
     clear H
     go_upto_region 8 with (fail)
     repeat (go_quiet (fail); go_upto_region 8 with (fail))
     go_cut [38] (fun v38 wc => ∃ (kq : Nat) (x38_13 : Bool), v38 = .bool x38_13 ∧ Aside0 (steepleref12_Climb.j2 kq a1 a2 a3 l4 x38_13 l0_0 l0_1 = some (r1, r2, r3)) ∧ Aside0 (kq ≤ k2) ∧ Aside0 (wc.heap[gb426]? = some (.cells #[(.slice A0_0 l0_0.length c0_0), (.slice A0_1 l0_1.length c0_1)] 39 (0, 0))) ∧ Aside0 (wc.heap[gb427]? = some (.cells #[.string (⟨#[]⟩ : ByteArray), (.slice none 0 0), .int .i64 0] 53 (0, 0))) ∧ Aside0 (Below w.heap.size w wc))
     case first =>
      have H := HC14.out
      clear HC14
      by_cases c15 : a2 < 0
      ·rw [if_pos c15] at H
       have c15b0 : decide (a2 < 0) = true := decide_eq_true c15
       clear c15
       (first | rw [c15b0] | (simp only [i64_w, i32_w]; rw [c15b0]) | skip)
       have H' := Aside0.mk H
       clear H
       go_wp2
       repeat (go_quiet (fail); try go_wp2)
       go_meet
       case rel => exact ⟨_, (true), (by first | rfl | (simp; done) | (simp [*]; done)), H', ⟨by have := HJ5.out; have := HK2.out; first | omega | exact Nat.le_refl _⟩, ⟨bk BK426.out⟩, ⟨bk BK427.out⟩, ⟨bq HB.out⟩⟩
      rw [if_neg c15] at H
      have c15b0 : decide (a2 < 0) = false := decide_eq_false c15
      clear c15
      (first | rw [c15b0] | (simp only [i64_w, i32_w]; rw [c15b0]) | skip)
      have H' := Aside0.mk H
      clear H
      go_wp2
      repeat (go_quiet (fail); try go_wp2)
      go_meet
      case rel => exact ⟨_, (decide (a2 ≥ x11_2)), (by first | rfl | (simp; done) | (simp [*]; done)), H', ⟨by have := HJ5.out; have := HK2.out; first | omega | exact Nat.le_refl _⟩, ⟨bk BK426.out⟩, ⟨bk BK427.out⟩, ⟨bq HB.out⟩⟩
     case rest =>
      clear HC14
      try clear c1
      try clear c2
      try clear p2
      try clear c4
      try clear p6
      try clear c9
      try clear c9b0
      try clear c10
      try clear c11
      try clear c13
      try clear c13b0
      try clear c15
      try clear c15b0
      try clear hcz12_0
      try clear hcz12_1
      try clear hcz12_2
      try clear hfz12_0
      try clear hfz12_1
      try clear hfz12_2
      try clear p2
      obtain ⟨kq, x38_13, rfl, HA, HJ13, BK426, BK427, HB⟩ := hcut
      cases kq with
      | zero => exact absurd HA.out (by simp [steepleref12_Climb.j2])
      | succ kj13 =>
       have H := HA.out
       clear HA
       simp only [steepleref12_Climb.j2] at H
       by_cases c16 : x38_13 = true
       ·subst c16
        have H1 : (some ((⟨#[]⟩ : ByteArray), ([] : List ByteArray), 1)) = some (r1, r2, r3) := by rw [if_pos rfl] at H; exact H
        clear H
        have H := H1
        clear H1
        simp only [Option.some.injEq, Prod.mk.injEq] at H
        obtain ⟨rfl, rfl, rfl⟩ := H
        have hnb17 := NB427_426.out
        have hnc17 := NB426_427.out
        obtain ⟨hcz18_0, hcz18_1, hcz18_2⟩ := zc3 BK427
        obtain ⟨hfz18_0, hfz18_1, hfz18_2⟩ := zf3 BK427
        go_wp2
        repeat (go_quiet (fail); try go_wp2)
        refine bodyPost_ret (results_cell_row rfl _ _ gb427 53 #[.string (⟨#[]⟩ : ByteArray), .slice none 0 0, .int .i64 1] (0, 0) _ rfl (by (with_reducible repeat refine bl ?_); refine blk_put (cs := #[.string (⟨#[]⟩ : ByteArray), .slice none 0 0, .int .i64 0]) ?_ 2 _ rfl; (with_reducible repeat refine bl ?_); refine blk_put (cs := #[.string (⟨#[]⟩ : ByteArray), .slice none 0 0, .int .i64 0]) ?_ 1 _ rfl; (with_reducible repeat refine bl ?_); refine blk_put (cs := #[.string (⟨#[]⟩ : ByteArray), .slice none 0 0, .int .i64 0]) ?_ 0 _ rfl; (with_reducible repeat refine bl ?_); exact BK427.out) Try.underlying53 rfl (by kernel_rfl)) rfl ?_
        exact ⟨_, by first | rfl | (simp [errW_none, errW_some] <;> rfl) | (simp [*, errW_none, errW_some] <;> rfl), by first | exact Kd.R_nil _ _ _ _ _ | exact Kd.N_nil _ _ _ _ _ | exact Kd.V_nil _ _ _ _ _ | exact Kd.Q_nil _ _ _ _ _ | exact Kd.S_nil _ _ _ _ _, bq HB.out⟩
       replace c16 := Bool.eq_false_iff.mpr c16
       subst c16
       have H1 : (if (a3.size : Int) = 32 then (steepleref12_Climb.j3 kj13 a2 a3 l4 ((l4.length : Int) != a1) l0_0 l0_1) else (steepleref12_Climb.j3 kj13 a2 a3 l4 true l0_0 l0_1)) = some (r1, r2, r3) := by rw [if_neg (show ¬ (false = true) by decide)] at H; exact H
       clear H
       have H := H1
       clear H1
       have HC19 := Aside0.mk H
       clear H
       go_upto_region 10 with (fail)
       repeat (go_quiet (fail); go_upto_region 10 with (fail))
       go_cut [48] (fun v48 wc => ∃ (kq : Nat) (x48_18 : Bool), v48 = .bool x48_18 ∧ Aside0 (steepleref12_Climb.j3 kq a2 a3 l4 x48_18 l0_0 l0_1 = some (r1, r2, r3)) ∧ Aside0 (kq ≤ kj13) ∧ Aside0 (wc.heap[gb426]? = some (.cells #[(.slice A0_0 l0_0.length c0_0), (.slice A0_1 l0_1.length c0_1)] 39 (0, 0))) ∧ Aside0 (wc.heap[gb427]? = some (.cells #[.string (⟨#[]⟩ : ByteArray), (.slice none 0 0), .int .i64 0] 53 (0, 0))) ∧ Aside0 (Below w.heap.size w wc))
       case first =>
        have H := HC19.out
        clear HC19
        by_cases c20 : (a3.size : Int) = 32
        rotate_left
        ·rw [if_neg c20] at H
         have c20b0 : ((a3.size : Int) == 32) = false := beq_eq_false_iff_ne.mpr c20
         have c20b1 : ((a3.size : Int) != 32) = true := bne_iff_ne.mpr c20
         (first | rw [c20b0] | (simp only [i64_w, i32_w]; rw [c20b0]) | skip)
         have H' := Aside0.mk H
         clear H
         go_wp2
         repeat (go_quiet (fail); try go_wp2)
         go_meet
         case rel => exact ⟨_, (true), (by first | rfl | (simp; done) | (simp [*]; done)), H', ⟨by have := HJ5.out; have := HK2.out; have := HJ13.out; first | omega | exact Nat.le_refl _⟩, ⟨bk BK426.out⟩, ⟨bk BK427.out⟩, ⟨bq HB.out⟩⟩
        rw [if_pos c20] at H
        have c20b0 : ((a3.size : Int) == 32) = true := beq_iff_eq.mpr c20
        have c20b1 : ((a3.size : Int) != 32) = false := bne_eq_false_iff_eq.mpr c20
        clear c20
        (first | rw [c20b0] | (simp only [i64_w, i32_w]; rw [c20b0]) | skip)
        have H' := Aside0.mk H
        clear H
        go_wp2
        repeat (go_quiet (fail); try go_wp2)
        go_meet
        case rel => exact ⟨_, (((l4.length : Int) != a1)), (by first | rfl | (simp; done) | (simp [*]; done)), H', ⟨by have := HJ5.out; have := HK2.out; have := HJ13.out; first | omega | exact Nat.le_refl _⟩, ⟨bk BK426.out⟩, ⟨bk BK427.out⟩, ⟨bq HB.out⟩⟩
       case rest =>
        clear HC19
        try clear c1
        try clear c2
        try clear p2
        try clear c4
        try clear p6
        try clear c9
        try clear c9b0
        try clear c10
        try clear c11
        try clear c13
        try clear c13b0
        try clear c15
        try clear c15b0
        try clear c16
        try clear c17
        try clear c20
        try clear c20b0
        try clear c20b1
        try clear hcz12_0
        try clear hcz12_1
        try clear hcz12_2
        try clear hcz18_0
        try clear hcz18_1
        try clear hcz18_2
        try clear hfz12_0
        try clear hfz12_1
        try clear hfz12_2
        try clear hfz18_0
        try clear hfz18_1
        try clear hfz18_2
        try clear p2
        try clear p6
        obtain ⟨kq, x48_18, rfl, HA, HJ18, BK426, BK427, HB⟩ := hcut
        cases kq with
        | zero => exact absurd HA.out (by simp [steepleref12_Climb.j3])
        | succ kj18 =>
         have H := HA.out
         clear HA
         simp only [steepleref12_Climb.j3] at H
         by_cases c21 : x48_18 = true
         ·subst c21
          have H1 : (some ((⟨#[]⟩ : ByteArray), ([] : List ByteArray), 6)) = some (r1, r2, r3) := by rw [if_pos rfl] at H; exact H
          clear H
          have H := H1
          clear H1
          simp only [Option.some.injEq, Prod.mk.injEq] at H
          obtain ⟨rfl, rfl, rfl⟩ := H
          have hnb22 := NB427_426.out
          have hnc22 := NB426_427.out
          obtain ⟨hcz23_0, hcz23_1, hcz23_2⟩ := zc3 BK427
          obtain ⟨hfz23_0, hfz23_1, hfz23_2⟩ := zf3 BK427
          go_wp2
          repeat (go_quiet (fail); try go_wp2)
          refine bodyPost_ret (results_cell_row rfl _ _ gb427 53 #[.string (⟨#[]⟩ : ByteArray), .slice none 0 0, .int .i64 6] (0, 0) _ rfl (by (with_reducible repeat refine bl ?_); refine blk_put (cs := #[.string (⟨#[]⟩ : ByteArray), .slice none 0 0, .int .i64 0]) ?_ 2 _ rfl; (with_reducible repeat refine bl ?_); refine blk_put (cs := #[.string (⟨#[]⟩ : ByteArray), .slice none 0 0, .int .i64 0]) ?_ 1 _ rfl; (with_reducible repeat refine bl ?_); refine blk_put (cs := #[.string (⟨#[]⟩ : ByteArray), .slice none 0 0, .int .i64 0]) ?_ 0 _ rfl; (with_reducible repeat refine bl ?_); exact BK427.out) Try.underlying53 rfl (by kernel_rfl)) rfl ?_
          exact ⟨_, by first | rfl | (simp [errW_none, errW_some] <;> rfl) | (simp [*, errW_none, errW_some] <;> rfl), by first | exact Kd.R_nil _ _ _ _ _ | exact Kd.N_nil _ _ _ _ _ | exact Kd.V_nil _ _ _ _ _ | exact Kd.Q_nil _ _ _ _ _ | exact Kd.S_nil _ _ _ _ _, bq HB.out⟩
         replace c21 := Bool.eq_false_iff.mpr c21
         subst c21
         have H1 : (steepleref12_Climb.l1 kj18 a2 a3 l4 0 l0_0 l0_1) = some (r1, r2, r3) := by rw [if_neg (show ¬ (false = true) by decide)] at H; exact H
         clear H
         have H := H1
         clear H1
         have H' := Aside0.mk H
         clear H
         go_wp2
         repeat (go_quiet (fail); try go_wp2)
         go_loopg [13] kj18 (fun kq v13 w' => ∃ (x13_5 : Int) (x428000_5 : ByteArray) (x428002_5 : Int), v13 = .int .i64 x13_5 ∧ Aside0 (steepleref12_Climb.l1 kq a2 a3 l4 x13_5 l0_0 l0_1 = some (r1, r2, r3)) ∧ Aside0 (kq ≤ kj18) ∧ Aside0 (w'.heap[gb426]? = some (.cells #[(.slice A0_0 l0_0.length c0_0), (.slice A0_1 l0_1.length c0_1)] 39 (0, 0))) ∧ Aside0 (w'.heap[gb427]? = some (.cells #[.string x428000_5, (.slice none 0 0), .int .i64 x428002_5] 53 (0, 0))) ∧ Aside0 (Below w.heap.size w w'))
         case atStart => exact ⟨(0), ((⟨#[]⟩ : ByteArray)), (0), (by first | rfl | (simp; done) | (simp [*]; done)), H', ⟨Nat.le_refl _⟩, ⟨bk BK426.out⟩, ⟨bk BK427.out⟩, ⟨bq HB.out⟩⟩
         case round =>
          clear H'
          try clear c1
          try clear c2
          try clear p2
          try clear c4
          try clear p6
          try clear c9
          try clear c9b0
          try clear c10
          try clear c11
          try clear c13
          try clear c13b0
          try clear c15
          try clear c15b0
          try clear c16
          try clear c17
          try clear c20
          try clear c20b0
          try clear c20b1
          try clear c21
          try clear c22
          try clear c23
          try clear hcz12_0
          try clear hcz12_1
          try clear hcz12_2
          try clear hcz18_0
          try clear hcz18_1
          try clear hcz18_2
          try clear hcz23_0
          try clear hcz23_1
          try clear hcz23_2
          try clear hfz12_0
          try clear hfz12_1
          try clear hfz12_2
          try clear hfz18_0
          try clear hfz18_1
          try clear hfz18_2
          try clear hfz23_0
          try clear hfz23_1
          try clear hfz23_2
          try clear p2
          try clear p6
          obtain ⟨x13_5, x428000_5, x428002_5, rfl, HA, HK5, BK426, BK427, HB⟩ := hrel
          cases gk with
          | zero => exact absurd HA.out (by simp [steepleref12_Climb.l1])
          | succ k5 =>
           have H := HA.out
           clear HA
           simp only [steepleref12_Climb.l1] at H
           by_cases c24 : x13_5 < (l4.length : Int)
           ·rw [if_pos c24] at H
            have c24b0 : decide (x13_5 < (l4.length : Int)) = true := decide_eq_true c24
            clear c24
            by_cases c25 : 0 ≤ x13_5
            rotate_left
            ·rw [if_neg c25] at H
             exact absurd H (by simp)
            rw [if_pos c25] at H
            have c25b0 : decide (0 ≤ x13_5) = true := decide_eq_true c25
            clear c25
            by_cases c26 : ((rdOf ByteArray.empty l4 x13_5).size : Int) = 32
            ·rw [if_pos c26] at H
             have c26b0 : (((rdOf ByteArray.empty l4 x13_5).size : Int) == 32) = true := beq_iff_eq.mpr c26
             have c26b1 : (((rdOf ByteArray.empty l4 x13_5).size : Int) != 32) = false := bne_eq_false_iff_eq.mpr c26
             clear c26
             have H' := Aside0.mk H
             clear H
             have p428 : 0 ≤ (x13_5 : Int) := of_decide_eq_true (by first | (with_reducible assumption) | assumption)
             have q428 : x13_5 < (l4.length : Int) := of_decide_eq_true (by first | (with_reducible assumption) | assumption)
             obtain ⟨ad428, e428, hx428_0⟩ := Kd.at_string HR4.out x13_5 p428 q428
             cases e428
             replace hx428_0 := (HB.out.cell (World.block_lt_of_cell? w _ hx428_0)).trans hx428_0
             replace p428 := eq_true p428
             replace q428 := eq_true q428
             go_wp2
             repeat (go_quiet (fail); try go_wp2)
             go_roundg k5
             case measure => have := HJ5.out; have := HK2.out; have := HJ13.out; have := HJ18.out; have := HK5.out; omega
             case rel => exact ⟨(wrap64 (x13_5 + 1)), (x428000_5), (x428002_5), (by first | rfl | (simp; done) | (simp [*]; done)), H', ⟨by have := HJ5.out; have := HK2.out; have := HJ13.out; have := HJ18.out; have := HK5.out; omega⟩, ⟨bk BK426.out⟩, ⟨bk BK427.out⟩, ⟨bq HB.out⟩⟩
            rw [if_neg c26] at H
            have c26b0 : (((rdOf ByteArray.empty l4 x13_5).size : Int) == 32) = false := beq_eq_false_iff_ne.mpr c26
            have c26b1 : (((rdOf ByteArray.empty l4 x13_5).size : Int) != 32) = true := bne_iff_ne.mpr c26
            simp only [Option.some.injEq, Prod.mk.injEq] at H
            obtain ⟨rfl, rfl, rfl⟩ := H
            have p428 : 0 ≤ (x13_5 : Int) := of_decide_eq_true (by first | (with_reducible assumption) | assumption)
            have q428 : x13_5 < (l4.length : Int) := of_decide_eq_true (by first | (with_reducible assumption) | assumption)
            obtain ⟨ad428, e428, hx428_0⟩ := Kd.at_string HR4.out x13_5 p428 q428
            cases e428
            replace hx428_0 := (HB.out.cell (World.block_lt_of_cell? w _ hx428_0)).trans hx428_0
            replace p428 := eq_true p428
            replace q428 := eq_true q428
            have hnb27 := NB427_426.out
            have hnc27 := NB426_427.out
            obtain ⟨hcz28_0, hcz28_1, hcz28_2⟩ := zc3 BK427
            obtain ⟨hfz28_0, hfz28_1, hfz28_2⟩ := zf3 BK427
            go_wp2
            repeat (go_quiet (fail); try go_wp2)
            refine bodyPost_ret (results_cell_row rfl _ _ gb427 53 #[.string (⟨#[]⟩ : ByteArray), .slice none 0 0, .int .i64 6] (0, 0) _ rfl (by (with_reducible repeat refine bl ?_); refine blk_put (cs := #[.string (⟨#[]⟩ : ByteArray), .slice none 0 0, .int .i64 x428002_5]) ?_ 2 _ rfl; (with_reducible repeat refine bl ?_); refine blk_put (cs := #[.string (⟨#[]⟩ : ByteArray), .slice none 0 0, .int .i64 x428002_5]) ?_ 1 _ rfl; (with_reducible repeat refine bl ?_); refine blk_put (cs := #[.string x428000_5, .slice none 0 0, .int .i64 x428002_5]) ?_ 0 _ rfl; (with_reducible repeat refine bl ?_); exact BK427.out) Try.underlying53 rfl (by kernel_rfl)) rfl ?_
            exact ⟨_, by first | rfl | (simp [errW_none, errW_some] <;> rfl) | (simp [*, errW_none, errW_some] <;> rfl), by first | exact Kd.R_nil _ _ _ _ _ | exact Kd.N_nil _ _ _ _ _ | exact Kd.V_nil _ _ _ _ _ | exact Kd.Q_nil _ _ _ _ _ | exact Kd.S_nil _ _ _ _ _, bq HB.out⟩
           rw [if_neg c24] at H
           have c24b0 : decide (x13_5 < (l4.length : Int)) = false := decide_eq_false c24
           clear c24
           have H' := Aside0.mk H
           clear H
           go_wp2_with (first | ((with_reducible refine gate_dst (N := 14) rfl ?_); (try (refine gate_guard (by rfl) ?_; dsimp only)); refine box_event ?hg (N := 14) ?hd (cs := #[.string (⟨#[]⟩ : ByteArray), .slice none 0 0, .int .i64 0]) (t := 53) ?hr ?_; (case hd => rfl); (case hg => rfl); (case hr => go_simp <;> rfl); intro gb429 hg w29 hbox hb; have BK429 := Aside0.mk hbox; have GW429 := ge hg HB; have GE429 := ge hg HB; have NB426_429 := nl hg BK426; have NB429_426 := ng hg BK426; have NB427_429 := nl hg BK427; have NB429_427 := ng hg BK427; replace BK426 := bb BK426 hb; replace BK427 := bb BK427 hb; replace HB := bh HB hb; clear hb hbox hg; have hnb30 := NB429_426.out; have hnc30 := NB426_429.out; have hnb31 := NB429_427.out; have hnc31 := NB427_429.out; obtain ⟨hcz32_0, hcz32_1, hcz32_2⟩ := zc3 BK429; obtain ⟨hfz32_0, hfz32_1, hfz32_2⟩ := zf3 BK429))
           repeat (go_quiet (first | ((with_reducible refine gate_dst (N := 14) rfl ?_); (try (refine gate_guard (by rfl) ?_; dsimp only)); refine box_event ?hg (N := 14) ?hd (cs := #[.string (⟨#[]⟩ : ByteArray), .slice none 0 0, .int .i64 0]) (t := 53) ?hr ?_; (case hd => rfl); (case hg => rfl); (case hr => go_simp <;> rfl); intro gb429 hg w29 hbox hb; have BK429 := Aside0.mk hbox; have GW429 := ge hg HB; have GE429 := ge hg HB; have NB426_429 := nl hg BK426; have NB429_426 := ng hg BK426; have NB427_429 := nl hg BK427; have NB429_427 := ng hg BK427; replace BK426 := bb BK426 hb; replace BK427 := bb BK427 hb; replace HB := bh HB hb; clear hb hbox hg; have hnb30 := NB429_426.out; have hnc30 := NB426_429.out; have hnb31 := NB429_427.out; have hnc31 := NB427_429.out; obtain ⟨hcz32_0, hcz32_1, hcz32_2⟩ := zc3 BK429; obtain ⟨hfz32_0, hfz32_1, hfz32_2⟩ := zf3 BK429)); try go_wp2_with (first | ((with_reducible refine gate_dst (N := 14) rfl ?_); (try (refine gate_guard (by rfl) ?_; dsimp only)); refine box_event ?hg (N := 14) ?hd (cs := #[.string (⟨#[]⟩ : ByteArray), .slice none 0 0, .int .i64 0]) (t := 53) ?hr ?_; (case hd => rfl); (case hg => rfl); (case hr => go_simp <;> rfl); intro gb429 hg w29 hbox hb; have BK429 := Aside0.mk hbox; have GW429 := ge hg HB; have GE429 := ge hg HB; have NB426_429 := nl hg BK426; have NB429_426 := ng hg BK426; have NB427_429 := nl hg BK427; have NB429_427 := ng hg BK427; replace BK426 := bb BK426 hb; replace BK427 := bb BK427 hb; replace HB := bh HB hb; clear hb hbox hg; have hnb30 := NB429_426.out; have hnc30 := NB426_429.out; have hnb31 := NB429_427.out; have hnc31 := NB427_429.out; obtain ⟨hcz32_0, hcz32_1, hcz32_2⟩ := zc3 BK429; obtain ⟨hfz32_0, hfz32_1, hfz32_2⟩ := zf3 BK429)))
           go_loopg [15, 16] k5 (fun kq v15 v16 w' => ∃ (x15_6 : Int) (x16_6 : Int) (x430000_6 : ByteArray) (x430001_6 : List ByteArray) (u430001 : Value), v15 = .int .i64 x15_6 ∧ v16 = .int .i64 x16_6 ∧ Aside0 (steepleref12_Climb.l2 kq l4 x15_6 x16_6 l0_0 l0_1 x430000_6 x430001_6 0 = some (r1, r2, r3)) ∧ Aside0 (kq ≤ k5) ∧ Aside0 (Kd.R Kd.string 9 w' w.heap.size (fun _ => True) u430001 x430001_6) ∧ Aside0 (w'.heap[gb426]? = some (.cells #[(.slice A0_0 l0_0.length c0_0), (.slice A0_1 l0_1.length c0_1)] 39 (0, 0))) ∧ Aside0 (w'.heap[gb427]? = some (.cells #[.string x428000_5, (.slice none 0 0), .int .i64 x428002_5] 53 (0, 0))) ∧ Aside0 (w'.heap[gb429]? = some (.cells #[.string x430000_6, u430001, .int .i64 0] 53 (0, 0))) ∧ Aside0 (Below w.heap.size w w'))
           case atStart => exact ⟨(a2), (0), (a3), (([] : List ByteArray)), (.slice none 0 0), (by first | rfl | (simp; done) | (simp [*]; done)), (by first | rfl | (simp; done) | (simp [*]; done)), H', ⟨Nat.le_refl _⟩, ⟨by first | exact Kd.R_nil _ _ _ _ _ | exact Kd.N_nil _ _ _ _ _ | exact Kd.V_nil _ _ _ _ _ | exact Kd.Q_nil _ _ _ _ _ | exact Kd.S_nil _ _ _ _ _⟩, ⟨by (with_reducible repeat refine bl ?_); refine blk_far ?_ NB426_429.out _; (with_reducible repeat refine bl ?_); refine blk_far ?_ NB426_429.out _; (with_reducible repeat refine bl ?_); refine blk_far ?_ NB426_429.out _; (with_reducible repeat refine bl ?_); exact BK426.out⟩, ⟨by (with_reducible repeat refine bl ?_); refine blk_far ?_ NB427_429.out _; (with_reducible repeat refine bl ?_); refine blk_far ?_ NB427_429.out _; (with_reducible repeat refine bl ?_); refine blk_far ?_ NB427_429.out _; (with_reducible repeat refine bl ?_); exact BK427.out⟩, ⟨by (with_reducible repeat refine bl ?_); refine blk_put (cs := #[.string a3, .slice none 0 0, .int .i64 0]) ?_ 2 _ rfl; (with_reducible repeat refine bl ?_); refine blk_put (cs := #[.string a3, .slice none 0 0, .int .i64 0]) ?_ 1 _ rfl; (with_reducible repeat refine bl ?_); refine blk_put (cs := #[.string (⟨#[]⟩ : ByteArray), .slice none 0 0, .int .i64 0]) ?_ 0 _ rfl; (with_reducible repeat refine bl ?_); exact BK429.out⟩, ⟨bq HB.out⟩⟩
           case round =>
            clear H'
            try clear c1
            try clear c2
            try clear p2
            try clear c3
            try clear c4
            try clear p4
            try clear q4
            try clear hx4
            try clear p6
            try clear c9
            try clear c9b0
            try clear c10
            try clear c11
            try clear c13
            try clear c13b0
            try clear c15
            try clear c15b0
            try clear c16
            try clear c17
            try clear c20
            try clear c20b0
            try clear c20b1
            try clear c21
            try clear c22
            try clear c23
            try clear c24
            try clear c24b0
            try clear c25
            try clear c25b0
            try clear c26
            try clear c26b0
            try clear c26b1
            try clear c27
            try clear c30
            try clear c31
            try clear hcz12_0
            try clear hcz12_1
            try clear hcz12_2
            try clear hcz18_0
            try clear hcz18_1
            try clear hcz18_2
            try clear hcz23_0
            try clear hcz23_1
            try clear hcz23_2
            try clear hcz28_0
            try clear hcz28_1
            try clear hcz28_2
            try clear hcz32_0
            try clear hcz32_1
            try clear hcz32_2
            try clear hfz12_0
            try clear hfz12_1
            try clear hfz12_2
            try clear hfz18_0
            try clear hfz18_1
            try clear hfz18_2
            try clear hfz23_0
            try clear hfz23_1
            try clear hfz23_2
            try clear hfz28_0
            try clear hfz28_1
            try clear hfz28_2
            try clear hfz32_0
            try clear hfz32_1
            try clear hfz32_2
            try clear hx428_0
            try clear p2
            try clear p428
            try clear p6
            try clear q428
            obtain ⟨x15_6, x16_6, x430000_6, x430001_6, u430001, rfl, rfl, HA, HK6, HO_430001, BK426, BK427, BK429, HB⟩ := hrel
            cases gk with
            | zero => exact absurd HA.out (by simp [steepleref12_Climb.l2])
            | succ k6 =>
             have H := HA.out
             clear HA
             simp only [steepleref12_Climb.l2] at H
             by_cases c33 : x16_6 < (l4.length : Int)
             rotate_left
             ·rw [if_neg c33] at H
              have c33b0 : decide (x16_6 < (l4.length : Int)) = false := decide_eq_false c33
              clear c33
              simp only [Option.some.injEq, Prod.mk.injEq] at H
              obtain ⟨rfl, rfl, rfl⟩ := H
              have hnb64 := NB429_426.out
              have hnc64 := NB426_429.out
              have hnb65 := NB429_427.out
              have hnc65 := NB427_429.out
              obtain ⟨hcz66_0, hcz66_1, hcz66_2⟩ := zc3 BK429
              obtain ⟨hfz66_0, hfz66_1, hfz66_2⟩ := zf3 BK429
              have hnb67 := NB427_426.out
              have hnc67 := NB426_427.out
              obtain ⟨hcz68_0, hcz68_1, hcz68_2⟩ := zc3 BK427
              obtain ⟨hfz68_0, hfz68_1, hfz68_2⟩ := zf3 BK427
              obtain ⟨Ao69, co69, eo69⟩ := Kd.R_slice HO_430001.out
              subst eo69
              go_wp2
              repeat (go_quiet (fail); try go_wp2)
              refine bodyPost_ret (results_cell_row rfl _ _ gb427 53 #[.string x430000_6, .slice Ao69 x430001_6.length co69, .int .i64 0] (0, 0) _ rfl (by (with_reducible repeat refine bl ?_); refine blk_put (cs := #[.string x430000_6, .slice Ao69 x430001_6.length co69, .int .i64 x428002_5]) ?_ 2 _ rfl; (with_reducible repeat refine bl ?_); refine blk_put (cs := #[.string x430000_6, .slice none 0 0, .int .i64 x428002_5]) ?_ 1 _ rfl; (with_reducible repeat refine bl ?_); refine blk_put (cs := #[.string x428000_5, .slice none 0 0, .int .i64 x428002_5]) ?_ 0 _ rfl; (with_reducible repeat refine bl ?_); exact BK427.out) Try.underlying53 rfl (by kernel_rfl)) rfl ?_
              exact ⟨_, by first | rfl | (simp [errW_none, errW_some] <;> rfl) | (simp [*, errW_none, errW_some] <;> rfl), by (with_reducible repeat refine kl ?_); exact Kd.R_mono (Kd.R_far (p := ⟨gb427, 2, none⟩) (Kd.R_far (p := ⟨gb427, 1, none⟩) (Kd.R_far (p := ⟨gb427, 0, none⟩) (Kd.R_types HO_430001.out BK427.out (by decide)) (fun _ hk => hk.2) (.string x430000_6)) (fun _ hk => hk.2) (.slice Ao69 x430001_6.length co69)) (fun _ hk => hk.2) (.int .i64 0)) (fun _ hk => trivial), bq HB.out⟩

             rw [if_pos c33] at H
             have c33b0 : decide (x16_6 < (l4.length : Int)) = true := decide_eq_true c33
             clear c33
             by_cases c34 : 1 + x430000_6.size ≤ 9223372036854775807
             rotate_left
             ·rw [if_neg c34] at H
              exact absurd H (by simp)
             rw [if_pos c34] at H
             have c34b0 := eq_true c34
             have c34b1 : decide (1 + x430000_6.size ≤ 9223372036854775807) = true := decide_eq_true c34
             try have c34b2 : (9223372036854775807 < 1 + x430000_6.size) = False := eq_false (Nat.not_lt.2 c34)
             by_cases c35 : 0 ≤ x16_6
             rotate_left
             ·rw [if_neg c35] at H
              exact absurd H (by simp)
             rw [if_pos c35] at H
             have c35b0 : decide (0 ≤ x16_6) = true := decide_eq_true c35
             clear c35
             by_cases c36 : ((⟨#[1]⟩ : ByteArray) ++ x430000_6).size + (rdOf ByteArray.empty l4 x16_6).size ≤ 9223372036854775807
             rotate_left
             ·rw [if_neg c36] at H
              exact absurd H (by simp)
             rw [if_pos c36] at H
             have c36b0 := eq_true c36
             have c36b1 : decide (((⟨#[1]⟩ : ByteArray) ++ x430000_6).size + (rdOf ByteArray.empty l4 x16_6).size ≤ 9223372036854775807) = true := decide_eq_true c36
             try have c36b2 : (9223372036854775807 < ((⟨#[1]⟩ : ByteArray) ++ x430000_6).size + (rdOf ByteArray.empty l4 x16_6).size) = False := eq_false (Nat.not_lt.2 c36)
             by_cases c37 : (Int.tmod x15_6 2) = 1
             rotate_left
             ·rw [if_neg c37] at H
              have c37b0 : ((Int.tmod x15_6 2) == 1) = false := beq_eq_false_iff_ne.mpr c37
              have c37b1 : ((Int.tmod x15_6 2) != 1) = true := bne_iff_ne.mpr c37
              by_cases c52 : x430001_6.length < 8796093022208
              rotate_left
              ·rw [if_neg c52] at H
               exact absurd H (by simp)
              rw [if_pos c52] at H
              have LMc52 := Aside0.mk c52
              clear c52
              obtain ⟨y436, hy436⟩ : ∃ y_ : List ByteArray, y_ = (x430001_6 ++ [((⟨#[1]⟩ : ByteArray) ++ x430000_6) ++ (rdOf ByteArray.empty l4 x16_6)]) := ⟨_, rfl⟩
              replace H : ((steepleref11_Sum.f k6 l0_0 l0_1 (((⟨#[1]⟩ : ByteArray) ++ x430000_6) ++ (rdOf ByteArray.empty l4 x16_6))).bind fun t439 => (steepleref12_Climb.l2 k6 l4 (wrap64 (Int.tdiv x15_6 2)) (wrap64 (x16_6 + 1)) l0_0 l0_1 t439 y436 0)) = some (r1, r2, r3) := by first | (rw [hy436]; with_reducible exact H) | (have H2_ := (Option.bind_some _ _).symm.trans H; rw [hy436]; with_reducible exact H2_) | (have H2_ := (Option.bind_some _ _).symm.trans H; with_reducible exact H2_) | with_reducible exact H | (rw [hy436]; exact H) | exact H
              have Ny436 := Aside0.mk hy436
              clear hy436
              replace H := Option.bind_eq_some_iff.mp H
              obtain ⟨t439, A530, H⟩ := H
              try dsimp only at H
              have A53 := Aside0.mk A530
              clear A530
              have H' := Aside0.mk H
              clear H
              have hnb54 := NB429_426.out
              have hnc54 := NB426_429.out
              have hnb55 := NB429_427.out
              have hnc55 := NB427_429.out
              obtain ⟨hcz56_0, hcz56_1, hcz56_2⟩ := zc3 BK429
              obtain ⟨hfz56_0, hfz56_1, hfz56_2⟩ := zf3 BK429
              have p430 : 0 ≤ (x16_6 : Int) := of_decide_eq_true (by first | (with_reducible assumption) | assumption)
              have q430 : x16_6 < (l4.length : Int) := of_decide_eq_true (by first | (with_reducible assumption) | assumption)
              obtain ⟨ad430, e430, hx430_0⟩ := Kd.at_string HR4.out x16_6 p430 q430
              cases e430
              replace hx430_0 := (HB.out.cell (World.block_lt_of_cell? w _ hx430_0)).trans hx430_0
              replace p430 := eq_true p430
              replace q430 := eq_true q430
              go_wp2_with (first | ((with_reducible refine gate_builtin (b := .append) (xs := #[.tmp 92, .tmp 94]) rfl ?_); (try (refine gate_guard (by rfl) ?_; dsimp only)); at_builtin; refine Kd.R_append Kd.string (w0 := w) w.heap.size rfl (.tmp 92) (.tmp 94) 22 9 (.string ⟨#[]⟩) 16 rfl Try.underlying22 info9 rfl (by decide) (by omega) u430001 x430001_6 (((⟨#[1]⟩ : ByteArray) ++ x430000_6) ++ (rdOf ByteArray.empty l4 x16_6)) [.string (((⟨#[1]⟩ : ByteArray) ++ x430000_6) ++ (rdOf ByteArray.empty l4 x16_6))] (fun _ => True) (fun _ => False) rfl rfl ?aP (fun _ hk => hk.elim) ?aF ?aO ?aB ?aS ?aL ?_; (case aP => exact rfl); (case aB => exact (bq HB.out)); (case aF => exact (fun _ _ => trivial)); (case aO => exact (kr HO_430001.out)); (case aS => exact (below_size (bq HB.out))); (case aL => have := LMc52.out; omega); intro v437 w57 ho hb hg hat; rw [← Ny436.out] at ho; have HO438 := Aside0.mk ho; replace BK426 := Aside0.mk (blk_grown (g := gb426) (o := .cells #[.slice A0_0 l0_0.length c0_0, .slice A0_1 l0_1.length c0_1] 39 (0, 0)) (bk BK426.out) hg (Kd.R_ne HO_430001.out BK426.out (by decide))); replace BK427 := Aside0.mk (blk_grown (g := gb427) (o := .cells #[.string x428000_5, .slice none 0 0, .int .i64 x428002_5] 53 (0, 0)) (bk BK427.out) hg (Kd.R_ne HO_430001.out BK427.out (by decide))); replace BK429 := Aside0.mk (blk_grown (g := gb429) (o := .cells #[.string x430000_6, u430001, .int .i64 0] 53 (0, 0)) (bk BK429.out) hg (Kd.R_ne HO_430001.out BK429.out (by decide))); replace HB := Aside0.mk hb; clear HO_430001; clear ho hb hg hat; obtain ⟨Ao58, co58, eo58⟩ := Kd.R_slice HO438.out; subst eo58; obtain ⟨hcz59_0, hcz59_1, hcz59_2⟩ := zc3 BK429; obtain ⟨hfz59_0, hfz59_1, hfz59_2⟩ := zf3 BK429; have hnb60 := NB426_427.out; have hnc60 := NB427_426.out; obtain ⟨hcz61_0, hcz61_1⟩ := zc2 BK426; obtain ⟨hfz61_0, hfz61_1⟩ := zf2 BK426) | (go_at_call 27; (with_reducible refine (steepleref11_Sum.calls k6 _ _ l0_0 _ _ l0_1 (((⟨#[1]⟩ : ByteArray) ++ x430000_6) ++ (rdOf ByteArray.empty l4 x16_6)) t439 _ ?side1 ?side2 ?side3 ?side4 A53.out).mono ?_); (case side1 => exact Kd.C_below HR0_0.out (bq HB.out)); (case side2 => exact HC0_0.out); (case side3 => exact Kd.C_below HR0_1.out (bq HB.out)); (case side4 => exact HC0_1.out); rintro e w62 ⟨rfl, hb⟩; replace HO438 := Aside0.mk (Kd.R_below (by (with_reducible repeat refine kl ?_); exact (Kd.R_mono (Kd.R_far (p := ⟨gb429, 1, none⟩) (Kd.R_types HO438.out BK429.out (by decide)) (fun _ hk => hk.2) (.slice Ao58 y436.length co58)) (fun _ h_ => h_.1))) hb); replace BK426 := Aside0.mk (blk_below (g := gb426) (o := .cells #[.slice A0_0 l0_0.length c0_0, .slice A0_1 l0_1.length c0_1] 39 (0, 0)) (by (with_reducible repeat refine bl ?_); refine blk_far ?_ NB426_429.out _; (with_reducible repeat refine bl ?_); exact BK426.out) hb); replace BK427 := Aside0.mk (blk_below (g := gb427) (o := .cells #[.string x428000_5, .slice none 0 0, .int .i64 x428002_5] 53 (0, 0)) (by (with_reducible repeat refine bl ?_); refine blk_far ?_ NB427_429.out _; (with_reducible repeat refine bl ?_); exact BK427.out) hb); replace BK429 := Aside0.mk (blk_below (g := gb429) (o := .cells #[.string x430000_6, .slice Ao58 y436.length co58, .int .i64 0] 53 (0, 0)) (by (with_reducible repeat refine bl ?_); refine blk_put (cs := #[.string x430000_6, u430001, .int .i64 0]) ?_ 1 _ rfl; (with_reducible repeat refine bl ?_); exact BK429.out) hb); replace HB := bh HB hb; (try clear hb); (try clear hb2); (try clear hk); (try clear hi); obtain ⟨hcz63_0, hcz63_1, hcz63_2⟩ := zc3 BK429; obtain ⟨hfz63_0, hfz63_1, hfz63_2⟩ := zf3 BK429))
              repeat (go_quiet (first | ((with_reducible refine gate_builtin (b := .append) (xs := #[.tmp 92, .tmp 94]) rfl ?_); (try (refine gate_guard (by rfl) ?_; dsimp only)); at_builtin; refine Kd.R_append Kd.string (w0 := w) w.heap.size rfl (.tmp 92) (.tmp 94) 22 9 (.string ⟨#[]⟩) 16 rfl Try.underlying22 info9 rfl (by decide) (by omega) u430001 x430001_6 (((⟨#[1]⟩ : ByteArray) ++ x430000_6) ++ (rdOf ByteArray.empty l4 x16_6)) [.string (((⟨#[1]⟩ : ByteArray) ++ x430000_6) ++ (rdOf ByteArray.empty l4 x16_6))] (fun _ => True) (fun _ => False) rfl rfl ?aP (fun _ hk => hk.elim) ?aF ?aO ?aB ?aS ?aL ?_; (case aP => exact rfl); (case aB => exact (bq HB.out)); (case aF => exact (fun _ _ => trivial)); (case aO => exact (kr HO_430001.out)); (case aS => exact (below_size (bq HB.out))); (case aL => have := LMc52.out; omega); intro v437 w57 ho hb hg hat; rw [← Ny436.out] at ho; have HO438 := Aside0.mk ho; replace BK426 := Aside0.mk (blk_grown (g := gb426) (o := .cells #[.slice A0_0 l0_0.length c0_0, .slice A0_1 l0_1.length c0_1] 39 (0, 0)) (bk BK426.out) hg (Kd.R_ne HO_430001.out BK426.out (by decide))); replace BK427 := Aside0.mk (blk_grown (g := gb427) (o := .cells #[.string x428000_5, .slice none 0 0, .int .i64 x428002_5] 53 (0, 0)) (bk BK427.out) hg (Kd.R_ne HO_430001.out BK427.out (by decide))); replace BK429 := Aside0.mk (blk_grown (g := gb429) (o := .cells #[.string x430000_6, u430001, .int .i64 0] 53 (0, 0)) (bk BK429.out) hg (Kd.R_ne HO_430001.out BK429.out (by decide))); replace HB := Aside0.mk hb; clear HO_430001; clear ho hb hg hat; obtain ⟨Ao58, co58, eo58⟩ := Kd.R_slice HO438.out; subst eo58; obtain ⟨hcz59_0, hcz59_1, hcz59_2⟩ := zc3 BK429; obtain ⟨hfz59_0, hfz59_1, hfz59_2⟩ := zf3 BK429; have hnb60 := NB426_427.out; have hnc60 := NB427_426.out; obtain ⟨hcz61_0, hcz61_1⟩ := zc2 BK426; obtain ⟨hfz61_0, hfz61_1⟩ := zf2 BK426) | (go_at_call 27; (with_reducible refine (steepleref11_Sum.calls k6 _ _ l0_0 _ _ l0_1 (((⟨#[1]⟩ : ByteArray) ++ x430000_6) ++ (rdOf ByteArray.empty l4 x16_6)) t439 _ ?side1 ?side2 ?side3 ?side4 A53.out).mono ?_); (case side1 => exact Kd.C_below HR0_0.out (bq HB.out)); (case side2 => exact HC0_0.out); (case side3 => exact Kd.C_below HR0_1.out (bq HB.out)); (case side4 => exact HC0_1.out); rintro e w62 ⟨rfl, hb⟩; replace HO438 := Aside0.mk (Kd.R_below (by (with_reducible repeat refine kl ?_); exact (Kd.R_mono (Kd.R_far (p := ⟨gb429, 1, none⟩) (Kd.R_types HO438.out BK429.out (by decide)) (fun _ hk => hk.2) (.slice Ao58 y436.length co58)) (fun _ h_ => h_.1))) hb); replace BK426 := Aside0.mk (blk_below (g := gb426) (o := .cells #[.slice A0_0 l0_0.length c0_0, .slice A0_1 l0_1.length c0_1] 39 (0, 0)) (by (with_reducible repeat refine bl ?_); refine blk_far ?_ NB426_429.out _; (with_reducible repeat refine bl ?_); exact BK426.out) hb); replace BK427 := Aside0.mk (blk_below (g := gb427) (o := .cells #[.string x428000_5, .slice none 0 0, .int .i64 x428002_5] 53 (0, 0)) (by (with_reducible repeat refine bl ?_); refine blk_far ?_ NB427_429.out _; (with_reducible repeat refine bl ?_); exact BK427.out) hb); replace BK429 := Aside0.mk (blk_below (g := gb429) (o := .cells #[.string x430000_6, .slice Ao58 y436.length co58, .int .i64 0] 53 (0, 0)) (by (with_reducible repeat refine bl ?_); refine blk_put (cs := #[.string x430000_6, u430001, .int .i64 0]) ?_ 1 _ rfl; (with_reducible repeat refine bl ?_); exact BK429.out) hb); replace HB := bh HB hb; (try clear hb); (try clear hb2); (try clear hk); (try clear hi); obtain ⟨hcz63_0, hcz63_1, hcz63_2⟩ := zc3 BK429; obtain ⟨hfz63_0, hfz63_1, hfz63_2⟩ := zf3 BK429)); try go_wp2_with (first | ((with_reducible refine gate_builtin (b := .append) (xs := #[.tmp 92, .tmp 94]) rfl ?_); (try (refine gate_guard (by rfl) ?_; dsimp only)); at_builtin; refine Kd.R_append Kd.string (w0 := w) w.heap.size rfl (.tmp 92) (.tmp 94) 22 9 (.string ⟨#[]⟩) 16 rfl Try.underlying22 info9 rfl (by decide) (by omega) u430001 x430001_6 (((⟨#[1]⟩ : ByteArray) ++ x430000_6) ++ (rdOf ByteArray.empty l4 x16_6)) [.string (((⟨#[1]⟩ : ByteArray) ++ x430000_6) ++ (rdOf ByteArray.empty l4 x16_6))] (fun _ => True) (fun _ => False) rfl rfl ?aP (fun _ hk => hk.elim) ?aF ?aO ?aB ?aS ?aL ?_; (case aP => exact rfl); (case aB => exact (bq HB.out)); (case aF => exact (fun _ _ => trivial)); (case aO => exact (kr HO_430001.out)); (case aS => exact (below_size (bq HB.out))); (case aL => have := LMc52.out; omega); intro v437 w57 ho hb hg hat; rw [← Ny436.out] at ho; have HO438 := Aside0.mk ho; replace BK426 := Aside0.mk (blk_grown (g := gb426) (o := .cells #[.slice A0_0 l0_0.length c0_0, .slice A0_1 l0_1.length c0_1] 39 (0, 0)) (bk BK426.out) hg (Kd.R_ne HO_430001.out BK426.out (by decide))); replace BK427 := Aside0.mk (blk_grown (g := gb427) (o := .cells #[.string x428000_5, .slice none 0 0, .int .i64 x428002_5] 53 (0, 0)) (bk BK427.out) hg (Kd.R_ne HO_430001.out BK427.out (by decide))); replace BK429 := Aside0.mk (blk_grown (g := gb429) (o := .cells #[.string x430000_6, u430001, .int .i64 0] 53 (0, 0)) (bk BK429.out) hg (Kd.R_ne HO_430001.out BK429.out (by decide))); replace HB := Aside0.mk hb; clear HO_430001; clear ho hb hg hat; obtain ⟨Ao58, co58, eo58⟩ := Kd.R_slice HO438.out; subst eo58; obtain ⟨hcz59_0, hcz59_1, hcz59_2⟩ := zc3 BK429; obtain ⟨hfz59_0, hfz59_1, hfz59_2⟩ := zf3 BK429; have hnb60 := NB426_427.out; have hnc60 := NB427_426.out; obtain ⟨hcz61_0, hcz61_1⟩ := zc2 BK426; obtain ⟨hfz61_0, hfz61_1⟩ := zf2 BK426) | (go_at_call 27; (with_reducible refine (steepleref11_Sum.calls k6 _ _ l0_0 _ _ l0_1 (((⟨#[1]⟩ : ByteArray) ++ x430000_6) ++ (rdOf ByteArray.empty l4 x16_6)) t439 _ ?side1 ?side2 ?side3 ?side4 A53.out).mono ?_); (case side1 => exact Kd.C_below HR0_0.out (bq HB.out)); (case side2 => exact HC0_0.out); (case side3 => exact Kd.C_below HR0_1.out (bq HB.out)); (case side4 => exact HC0_1.out); rintro e w62 ⟨rfl, hb⟩; replace HO438 := Aside0.mk (Kd.R_below (by (with_reducible repeat refine kl ?_); exact (Kd.R_mono (Kd.R_far (p := ⟨gb429, 1, none⟩) (Kd.R_types HO438.out BK429.out (by decide)) (fun _ hk => hk.2) (.slice Ao58 y436.length co58)) (fun _ h_ => h_.1))) hb); replace BK426 := Aside0.mk (blk_below (g := gb426) (o := .cells #[.slice A0_0 l0_0.length c0_0, .slice A0_1 l0_1.length c0_1] 39 (0, 0)) (by (with_reducible repeat refine bl ?_); refine blk_far ?_ NB426_429.out _; (with_reducible repeat refine bl ?_); exact BK426.out) hb); replace BK427 := Aside0.mk (blk_below (g := gb427) (o := .cells #[.string x428000_5, .slice none 0 0, .int .i64 x428002_5] 53 (0, 0)) (by (with_reducible repeat refine bl ?_); refine blk_far ?_ NB427_429.out _; (with_reducible repeat refine bl ?_); exact BK427.out) hb); replace BK429 := Aside0.mk (blk_below (g := gb429) (o := .cells #[.string x430000_6, .slice Ao58 y436.length co58, .int .i64 0] 53 (0, 0)) (by (with_reducible repeat refine bl ?_); refine blk_put (cs := #[.string x430000_6, u430001, .int .i64 0]) ?_ 1 _ rfl; (with_reducible repeat refine bl ?_); exact BK429.out) hb); replace HB := bh HB hb; (try clear hb); (try clear hb2); (try clear hk); (try clear hi); obtain ⟨hcz63_0, hcz63_1, hcz63_2⟩ := zc3 BK429; obtain ⟨hfz63_0, hfz63_1, hfz63_2⟩ := zf3 BK429)))
              go_roundg k6
              case measure => have := HJ5.out; have := HK2.out; have := HJ13.out; have := HJ18.out; have := HK5.out; have := HK6.out; omega
              case rel => exact ⟨(wrap64 (Int.tdiv x15_6 2)), (wrap64 (x16_6 + 1)), (t439), (y436), (.slice Ao58 y436.length co58), (by first | rfl | (simp; done) | (simp [*]; done)), (by first | rfl | (simp; done) | (simp [*]; done)), H', ⟨by have := HJ5.out; have := HK2.out; have := HJ13.out; have := HJ18.out; have := HK5.out; have := HK6.out; omega⟩, ⟨by (with_reducible repeat refine kl ?_); exact Kd.R_mono (Kd.R_far (p := ⟨gb429, 0, none⟩) (Kd.R_types HO438.out BK429.out (by decide)) (fun _ hk => hk.2) (.string t439)) (fun _ hk => trivial)⟩, ⟨by (with_reducible repeat refine bl ?_); refine blk_far ?_ NB426_429.out _; (with_reducible repeat refine bl ?_); exact BK426.out⟩, ⟨by (with_reducible repeat refine bl ?_); refine blk_far ?_ NB427_429.out _; (with_reducible repeat refine bl ?_); exact BK427.out⟩, ⟨by (with_reducible repeat refine bl ?_); refine blk_put (cs := #[.string x430000_6, .slice Ao58 y436.length co58, .int .i64 0]) ?_ 0 _ rfl; (with_reducible repeat refine bl ?_); exact BK429.out⟩, ⟨bq HB.out⟩⟩
             rw [if_pos c37] at H
             have c37b0 : ((Int.tmod x15_6 2) == 1) = true := beq_iff_eq.mpr c37
             have c37b1 : ((Int.tmod x15_6 2) != 1) = false := bne_eq_false_iff_eq.mpr c37
             clear c37
             by_cases c38 : 1 + (rdOf ByteArray.empty l4 x16_6).size ≤ 9223372036854775807
             rotate_left
             ·rw [if_neg c38] at H
              exact absurd H (by simp)
             rw [if_pos c38] at H
             have c38b0 := eq_true c38
             have c38b1 : decide (1 + (rdOf ByteArray.empty l4 x16_6).size ≤ 9223372036854775807) = true := decide_eq_true c38
             try have c38b2 : (9223372036854775807 < 1 + (rdOf ByteArray.empty l4 x16_6).size) = False := eq_false (Nat.not_lt.2 c38)
             by_cases c39 : ((⟨#[1]⟩ : ByteArray) ++ (rdOf ByteArray.empty l4 x16_6)).size + x430000_6.size ≤ 9223372036854775807
             rotate_left
             ·rw [if_neg c39] at H
              exact absurd H (by simp)
             rw [if_pos c39] at H
             have c39b0 := eq_true c39
             have c39b1 : decide (((⟨#[1]⟩ : ByteArray) ++ (rdOf ByteArray.empty l4 x16_6)).size + x430000_6.size ≤ 9223372036854775807) = true := decide_eq_true c39
             try have c39b2 : (9223372036854775807 < ((⟨#[1]⟩ : ByteArray) ++ (rdOf ByteArray.empty l4 x16_6)).size + x430000_6.size) = False := eq_false (Nat.not_lt.2 c39)
             by_cases c40 : x430001_6.length < 8796093022208
             rotate_left
             ·rw [if_neg c40] at H
              exact absurd H (by simp)
             rw [if_pos c40] at H
             have LMc40 := Aside0.mk c40
             clear c40
             obtain ⟨y432, hy432⟩ : ∃ y_ : List ByteArray, y_ = (x430001_6 ++ [((⟨#[1]⟩ : ByteArray) ++ (rdOf ByteArray.empty l4 x16_6)) ++ x430000_6]) := ⟨_, rfl⟩
             replace H : ((steepleref11_Sum.f k6 l0_0 l0_1 (((⟨#[1]⟩ : ByteArray) ++ (rdOf ByteArray.empty l4 x16_6)) ++ x430000_6)).bind fun t435 => (steepleref12_Climb.l2 k6 l4 (wrap64 (Int.tdiv x15_6 2)) (wrap64 (x16_6 + 1)) l0_0 l0_1 t435 y432 0)) = some (r1, r2, r3) := by first | (rw [hy432]; with_reducible exact H) | (have H2_ := (Option.bind_some _ _).symm.trans H; rw [hy432]; with_reducible exact H2_) | (have H2_ := (Option.bind_some _ _).symm.trans H; with_reducible exact H2_) | with_reducible exact H | (rw [hy432]; exact H) | exact H
             have Ny432 := Aside0.mk hy432
             clear hy432
             replace H := Option.bind_eq_some_iff.mp H
             obtain ⟨t435, A410, H⟩ := H
             try dsimp only at H
             have A41 := Aside0.mk A410
             clear A410
             have H' := Aside0.mk H
             clear H
             have hnb42 := NB429_426.out
             have hnc42 := NB426_429.out
             have hnb43 := NB429_427.out
             have hnc43 := NB427_429.out
             obtain ⟨hcz44_0, hcz44_1, hcz44_2⟩ := zc3 BK429
             obtain ⟨hfz44_0, hfz44_1, hfz44_2⟩ := zf3 BK429
             have p430 : 0 ≤ (x16_6 : Int) := of_decide_eq_true (by first | (with_reducible assumption) | assumption)
             have q430 : x16_6 < (l4.length : Int) := of_decide_eq_true (by first | (with_reducible assumption) | assumption)
             obtain ⟨ad430, e430, hx430_0⟩ := Kd.at_string HR4.out x16_6 p430 q430
             cases e430
             replace hx430_0 := (HB.out.cell (World.block_lt_of_cell? w _ hx430_0)).trans hx430_0
             replace p430 := eq_true p430
             replace q430 := eq_true q430
             have p431 : 0 ≤ (x16_6 : Int) := of_decide_eq_true (by first | (with_reducible assumption) | assumption)
             have q431 : x16_6 < (l4.length : Int) := of_decide_eq_true (by first | (with_reducible assumption) | assumption)
             obtain ⟨ad431, e431, hx431_0⟩ := Kd.at_string HR4.out x16_6 p431 q431
             obtain rfl : ad430 = ad431 := (by injection e431)
             replace hx431_0 := (HB.out.cell (World.block_lt_of_cell? w _ hx431_0)).trans hx431_0
             replace p431 := eq_true p431
             replace q431 := eq_true q431
             go_wp2_with (first | ((with_reducible refine gate_builtin (b := .append) (xs := #[.tmp 92, .tmp 94]) rfl ?_); (try (refine gate_guard (by rfl) ?_; dsimp only)); at_builtin; refine Kd.R_append Kd.string (w0 := w) w.heap.size rfl (.tmp 92) (.tmp 94) 22 9 (.string ⟨#[]⟩) 16 rfl Try.underlying22 info9 rfl (by decide) (by omega) u430001 x430001_6 (((⟨#[1]⟩ : ByteArray) ++ (rdOf ByteArray.empty l4 x16_6)) ++ x430000_6) [.string (((⟨#[1]⟩ : ByteArray) ++ (rdOf ByteArray.empty l4 x16_6)) ++ x430000_6)] (fun _ => True) (fun _ => False) rfl rfl ?aP (fun _ hk => hk.elim) ?aF ?aO ?aB ?aS ?aL ?_; (case aP => exact rfl); (case aB => exact (bq HB.out)); (case aF => exact (fun _ _ => trivial)); (case aO => exact (kr HO_430001.out)); (case aS => exact (below_size (bq HB.out))); (case aL => have := LMc40.out; omega); intro v433 w45 ho hb hg hat; rw [← Ny432.out] at ho; have HO434 := Aside0.mk ho; replace BK426 := Aside0.mk (blk_grown (g := gb426) (o := .cells #[.slice A0_0 l0_0.length c0_0, .slice A0_1 l0_1.length c0_1] 39 (0, 0)) (bk BK426.out) hg (Kd.R_ne HO_430001.out BK426.out (by decide))); replace BK427 := Aside0.mk (blk_grown (g := gb427) (o := .cells #[.string x428000_5, .slice none 0 0, .int .i64 x428002_5] 53 (0, 0)) (bk BK427.out) hg (Kd.R_ne HO_430001.out BK427.out (by decide))); replace BK429 := Aside0.mk (blk_grown (g := gb429) (o := .cells #[.string x430000_6, u430001, .int .i64 0] 53 (0, 0)) (bk BK429.out) hg (Kd.R_ne HO_430001.out BK429.out (by decide))); replace HB := Aside0.mk hb; clear HO_430001; clear ho hb hg hat; obtain ⟨Ao46, co46, eo46⟩ := Kd.R_slice HO434.out; subst eo46; obtain ⟨hcz47_0, hcz47_1, hcz47_2⟩ := zc3 BK429; obtain ⟨hfz47_0, hfz47_1, hfz47_2⟩ := zf3 BK429; have hnb48 := NB426_427.out; have hnc48 := NB427_426.out; obtain ⟨hcz49_0, hcz49_1⟩ := zc2 BK426; obtain ⟨hfz49_0, hfz49_1⟩ := zf2 BK426) | (go_at_call 27; (with_reducible refine (steepleref11_Sum.calls k6 _ _ l0_0 _ _ l0_1 (((⟨#[1]⟩ : ByteArray) ++ (rdOf ByteArray.empty l4 x16_6)) ++ x430000_6) t435 _ ?side1 ?side2 ?side3 ?side4 A41.out).mono ?_); (case side1 => exact Kd.C_below HR0_0.out (bq HB.out)); (case side2 => exact HC0_0.out); (case side3 => exact Kd.C_below HR0_1.out (bq HB.out)); (case side4 => exact HC0_1.out); rintro e w50 ⟨rfl, hb⟩; replace HO434 := Aside0.mk (Kd.R_below (by (with_reducible repeat refine kl ?_); exact (Kd.R_mono (Kd.R_far (p := ⟨gb429, 1, none⟩) (Kd.R_types HO434.out BK429.out (by decide)) (fun _ hk => hk.2) (.slice Ao46 y432.length co46)) (fun _ h_ => h_.1))) hb); replace BK426 := Aside0.mk (blk_below (g := gb426) (o := .cells #[.slice A0_0 l0_0.length c0_0, .slice A0_1 l0_1.length c0_1] 39 (0, 0)) (by (with_reducible repeat refine bl ?_); refine blk_far ?_ NB426_429.out _; (with_reducible repeat refine bl ?_); exact BK426.out) hb); replace BK427 := Aside0.mk (blk_below (g := gb427) (o := .cells #[.string x428000_5, .slice none 0 0, .int .i64 x428002_5] 53 (0, 0)) (by (with_reducible repeat refine bl ?_); refine blk_far ?_ NB427_429.out _; (with_reducible repeat refine bl ?_); exact BK427.out) hb); replace BK429 := Aside0.mk (blk_below (g := gb429) (o := .cells #[.string x430000_6, .slice Ao46 y432.length co46, .int .i64 0] 53 (0, 0)) (by (with_reducible repeat refine bl ?_); refine blk_put (cs := #[.string x430000_6, u430001, .int .i64 0]) ?_ 1 _ rfl; (with_reducible repeat refine bl ?_); exact BK429.out) hb); replace HB := bh HB hb; (try clear hb); (try clear hb2); (try clear hk); (try clear hi); obtain ⟨hcz51_0, hcz51_1, hcz51_2⟩ := zc3 BK429; obtain ⟨hfz51_0, hfz51_1, hfz51_2⟩ := zf3 BK429))
             repeat (go_quiet (first | ((with_reducible refine gate_builtin (b := .append) (xs := #[.tmp 92, .tmp 94]) rfl ?_); (try (refine gate_guard (by rfl) ?_; dsimp only)); at_builtin; refine Kd.R_append Kd.string (w0 := w) w.heap.size rfl (.tmp 92) (.tmp 94) 22 9 (.string ⟨#[]⟩) 16 rfl Try.underlying22 info9 rfl (by decide) (by omega) u430001 x430001_6 (((⟨#[1]⟩ : ByteArray) ++ (rdOf ByteArray.empty l4 x16_6)) ++ x430000_6) [.string (((⟨#[1]⟩ : ByteArray) ++ (rdOf ByteArray.empty l4 x16_6)) ++ x430000_6)] (fun _ => True) (fun _ => False) rfl rfl ?aP (fun _ hk => hk.elim) ?aF ?aO ?aB ?aS ?aL ?_; (case aP => exact rfl); (case aB => exact (bq HB.out)); (case aF => exact (fun _ _ => trivial)); (case aO => exact (kr HO_430001.out)); (case aS => exact (below_size (bq HB.out))); (case aL => have := LMc40.out; omega); intro v433 w45 ho hb hg hat; rw [← Ny432.out] at ho; have HO434 := Aside0.mk ho; replace BK426 := Aside0.mk (blk_grown (g := gb426) (o := .cells #[.slice A0_0 l0_0.length c0_0, .slice A0_1 l0_1.length c0_1] 39 (0, 0)) (bk BK426.out) hg (Kd.R_ne HO_430001.out BK426.out (by decide))); replace BK427 := Aside0.mk (blk_grown (g := gb427) (o := .cells #[.string x428000_5, .slice none 0 0, .int .i64 x428002_5] 53 (0, 0)) (bk BK427.out) hg (Kd.R_ne HO_430001.out BK427.out (by decide))); replace BK429 := Aside0.mk (blk_grown (g := gb429) (o := .cells #[.string x430000_6, u430001, .int .i64 0] 53 (0, 0)) (bk BK429.out) hg (Kd.R_ne HO_430001.out BK429.out (by decide))); replace HB := Aside0.mk hb; clear HO_430001; clear ho hb hg hat; obtain ⟨Ao46, co46, eo46⟩ := Kd.R_slice HO434.out; subst eo46; obtain ⟨hcz47_0, hcz47_1, hcz47_2⟩ := zc3 BK429; obtain ⟨hfz47_0, hfz47_1, hfz47_2⟩ := zf3 BK429; have hnb48 := NB426_427.out; have hnc48 := NB427_426.out; obtain ⟨hcz49_0, hcz49_1⟩ := zc2 BK426; obtain ⟨hfz49_0, hfz49_1⟩ := zf2 BK426) | (go_at_call 27; (with_reducible refine (steepleref11_Sum.calls k6 _ _ l0_0 _ _ l0_1 (((⟨#[1]⟩ : ByteArray) ++ (rdOf ByteArray.empty l4 x16_6)) ++ x430000_6) t435 _ ?side1 ?side2 ?side3 ?side4 A41.out).mono ?_); (case side1 => exact Kd.C_below HR0_0.out (bq HB.out)); (case side2 => exact HC0_0.out); (case side3 => exact Kd.C_below HR0_1.out (bq HB.out)); (case side4 => exact HC0_1.out); rintro e w50 ⟨rfl, hb⟩; replace HO434 := Aside0.mk (Kd.R_below (by (with_reducible repeat refine kl ?_); exact (Kd.R_mono (Kd.R_far (p := ⟨gb429, 1, none⟩) (Kd.R_types HO434.out BK429.out (by decide)) (fun _ hk => hk.2) (.slice Ao46 y432.length co46)) (fun _ h_ => h_.1))) hb); replace BK426 := Aside0.mk (blk_below (g := gb426) (o := .cells #[.slice A0_0 l0_0.length c0_0, .slice A0_1 l0_1.length c0_1] 39 (0, 0)) (by (with_reducible repeat refine bl ?_); refine blk_far ?_ NB426_429.out _; (with_reducible repeat refine bl ?_); exact BK426.out) hb); replace BK427 := Aside0.mk (blk_below (g := gb427) (o := .cells #[.string x428000_5, .slice none 0 0, .int .i64 x428002_5] 53 (0, 0)) (by (with_reducible repeat refine bl ?_); refine blk_far ?_ NB427_429.out _; (with_reducible repeat refine bl ?_); exact BK427.out) hb); replace BK429 := Aside0.mk (blk_below (g := gb429) (o := .cells #[.string x430000_6, .slice Ao46 y432.length co46, .int .i64 0] 53 (0, 0)) (by (with_reducible repeat refine bl ?_); refine blk_put (cs := #[.string x430000_6, u430001, .int .i64 0]) ?_ 1 _ rfl; (with_reducible repeat refine bl ?_); exact BK429.out) hb); replace HB := bh HB hb; (try clear hb); (try clear hb2); (try clear hk); (try clear hi); obtain ⟨hcz51_0, hcz51_1, hcz51_2⟩ := zc3 BK429; obtain ⟨hfz51_0, hfz51_1, hfz51_2⟩ := zf3 BK429)); try go_wp2_with (first | ((with_reducible refine gate_builtin (b := .append) (xs := #[.tmp 92, .tmp 94]) rfl ?_); (try (refine gate_guard (by rfl) ?_; dsimp only)); at_builtin; refine Kd.R_append Kd.string (w0 := w) w.heap.size rfl (.tmp 92) (.tmp 94) 22 9 (.string ⟨#[]⟩) 16 rfl Try.underlying22 info9 rfl (by decide) (by omega) u430001 x430001_6 (((⟨#[1]⟩ : ByteArray) ++ (rdOf ByteArray.empty l4 x16_6)) ++ x430000_6) [.string (((⟨#[1]⟩ : ByteArray) ++ (rdOf ByteArray.empty l4 x16_6)) ++ x430000_6)] (fun _ => True) (fun _ => False) rfl rfl ?aP (fun _ hk => hk.elim) ?aF ?aO ?aB ?aS ?aL ?_; (case aP => exact rfl); (case aB => exact (bq HB.out)); (case aF => exact (fun _ _ => trivial)); (case aO => exact (kr HO_430001.out)); (case aS => exact (below_size (bq HB.out))); (case aL => have := LMc40.out; omega); intro v433 w45 ho hb hg hat; rw [← Ny432.out] at ho; have HO434 := Aside0.mk ho; replace BK426 := Aside0.mk (blk_grown (g := gb426) (o := .cells #[.slice A0_0 l0_0.length c0_0, .slice A0_1 l0_1.length c0_1] 39 (0, 0)) (bk BK426.out) hg (Kd.R_ne HO_430001.out BK426.out (by decide))); replace BK427 := Aside0.mk (blk_grown (g := gb427) (o := .cells #[.string x428000_5, .slice none 0 0, .int .i64 x428002_5] 53 (0, 0)) (bk BK427.out) hg (Kd.R_ne HO_430001.out BK427.out (by decide))); replace BK429 := Aside0.mk (blk_grown (g := gb429) (o := .cells #[.string x430000_6, u430001, .int .i64 0] 53 (0, 0)) (bk BK429.out) hg (Kd.R_ne HO_430001.out BK429.out (by decide))); replace HB := Aside0.mk hb; clear HO_430001; clear ho hb hg hat; obtain ⟨Ao46, co46, eo46⟩ := Kd.R_slice HO434.out; subst eo46; obtain ⟨hcz47_0, hcz47_1, hcz47_2⟩ := zc3 BK429; obtain ⟨hfz47_0, hfz47_1, hfz47_2⟩ := zf3 BK429; have hnb48 := NB426_427.out; have hnc48 := NB427_426.out; obtain ⟨hcz49_0, hcz49_1⟩ := zc2 BK426; obtain ⟨hfz49_0, hfz49_1⟩ := zf2 BK426) | (go_at_call 27; (with_reducible refine (steepleref11_Sum.calls k6 _ _ l0_0 _ _ l0_1 (((⟨#[1]⟩ : ByteArray) ++ (rdOf ByteArray.empty l4 x16_6)) ++ x430000_6) t435 _ ?side1 ?side2 ?side3 ?side4 A41.out).mono ?_); (case side1 => exact Kd.C_below HR0_0.out (bq HB.out)); (case side2 => exact HC0_0.out); (case side3 => exact Kd.C_below HR0_1.out (bq HB.out)); (case side4 => exact HC0_1.out); rintro e w50 ⟨rfl, hb⟩; replace HO434 := Aside0.mk (Kd.R_below (by (with_reducible repeat refine kl ?_); exact (Kd.R_mono (Kd.R_far (p := ⟨gb429, 1, none⟩) (Kd.R_types HO434.out BK429.out (by decide)) (fun _ hk => hk.2) (.slice Ao46 y432.length co46)) (fun _ h_ => h_.1))) hb); replace BK426 := Aside0.mk (blk_below (g := gb426) (o := .cells #[.slice A0_0 l0_0.length c0_0, .slice A0_1 l0_1.length c0_1] 39 (0, 0)) (by (with_reducible repeat refine bl ?_); refine blk_far ?_ NB426_429.out _; (with_reducible repeat refine bl ?_); exact BK426.out) hb); replace BK427 := Aside0.mk (blk_below (g := gb427) (o := .cells #[.string x428000_5, .slice none 0 0, .int .i64 x428002_5] 53 (0, 0)) (by (with_reducible repeat refine bl ?_); refine blk_far ?_ NB427_429.out _; (with_reducible repeat refine bl ?_); exact BK427.out) hb); replace BK429 := Aside0.mk (blk_below (g := gb429) (o := .cells #[.string x430000_6, .slice Ao46 y432.length co46, .int .i64 0] 53 (0, 0)) (by (with_reducible repeat refine bl ?_); refine blk_put (cs := #[.string x430000_6, u430001, .int .i64 0]) ?_ 1 _ rfl; (with_reducible repeat refine bl ?_); exact BK429.out) hb); replace HB := bh HB hb; (try clear hb); (try clear hb2); (try clear hk); (try clear hi); obtain ⟨hcz51_0, hcz51_1, hcz51_2⟩ := zc3 BK429; obtain ⟨hfz51_0, hfz51_1, hfz51_2⟩ := zf3 BK429)))
             go_roundg k6
             case measure => have := HJ5.out; have := HK2.out; have := HJ13.out; have := HJ18.out; have := HK5.out; have := HK6.out; omega
             case rel => exact ⟨(wrap64 (Int.tdiv x15_6 2)), (wrap64 (x16_6 + 1)), (t435), (y432), (.slice Ao46 y432.length co46), (by first | rfl | (simp; done) | (simp [*]; done)), (by first | rfl | (simp; done) | (simp [*]; done)), H', ⟨by have := HJ5.out; have := HK2.out; have := HJ13.out; have := HJ18.out; have := HK5.out; have := HK6.out; omega⟩, ⟨by (with_reducible repeat refine kl ?_); exact Kd.R_mono (Kd.R_far (p := ⟨gb429, 0, none⟩) (Kd.R_types HO434.out BK429.out (by decide)) (fun _ hk => hk.2) (.string t435)) (fun _ hk => trivial)⟩, ⟨by (with_reducible repeat refine bl ?_); refine blk_far ?_ NB426_429.out _; (with_reducible repeat refine bl ?_); exact BK426.out⟩, ⟨by (with_reducible repeat refine bl ?_); refine blk_far ?_ NB427_429.out _; (with_reducible repeat refine bl ?_); exact BK427.out⟩, ⟨by (with_reducible repeat refine bl ?_); refine blk_put (cs := #[.string x430000_6, .slice Ao46 y432.length co46, .int .i64 0]) ?_ 0 _ rfl; (with_reducible repeat refine bl ?_); exact BK429.out⟩, ⟨bq HB.out⟩⟩
/-! ### merkle_Check: function 24 -/
def merkle_Check.f (k : Nat) (a0 : Int) (a1 : ByteArray) (a2 : Int) (a3 : Int) (a4 : ByteArray) (l5 : List ByteArray) : Option (Bool) := (merkle_Leaf.f a0 a4).bind fun t440 => ((merkle_Climb.f k a0 a2 a3 t440 l5).bind fun bt441 => (if bt441.2.2 = 0 then (some (bt441.1.toList == a1.toList)) else (some false)))
set_option maxHeartbeats 8000000 in
set_option maxRecDepth 100000 in
theorem merkle_Check.calls (k : Nat) (a0 : Int) (a1 : ByteArray) (a2 : Int) (a3 : Int) (a4 : ByteArray) (A5 : Option Addr) (c5 : Nat) (l5 : List ByteArray) (r : Bool) (w : World) (gT : Nat) (hT : TabAt w gT) (hr5 : Kd.C Kd.string w A5 l5.length l5) (hc5 : l5.length ≤ c5) (h : merkle_Check.f k a0 a1 a2 a3 a4 l5 = some r) :
  Calls Try.prog 24 #[.pointer (some ⟨gT, 0, none⟩), .string a1, .int .i64 a2, .int .i64 a3, .string a4, .slice A5 l5.length c5] w fun e w' => e = .returned (.bool r) ∧ Below w.heap.size w w' := by
 have HR5 := Aside0.mk hr5
 have HC5 := Aside0.mk hc5
 clear hr5 hc5
 have HT := Aside0.mk hT
 clear hT
 have HB := Aside0.mk (Below.refl w.heap.size w)
 have H : ((merkle_Leaf.f a0 a4).bind fun t440 => ((merkle_Climb.f k a0 a2 a3 t440 l5).bind fun bt441 => (if bt441.2.2 = 0 then (some (bt441.1.toList == a1.toList)) else (some false)))) = some r := h
 clear h
 replace H := Option.bind_eq_some_iff.mp H
 obtain ⟨t440, A70, H⟩ := H
 try dsimp only at H
 have A7 := Aside0.mk A70
 clear A70
 replace H := Option.bind_eq_some_iff.mp H
 obtain ⟨⟨t441, t442, t443⟩, A80, H⟩ := H
 try dsimp only at H
 have A8 := Aside0.mk A80
 clear A80
 by_cases c9 : t443 = 0
 ·rw [if_pos c9] at H
  have c9b0 : (t443 == 0) = true := beq_iff_eq.mpr c9
  have c9b1 : (t443 != 0) = false := bne_eq_false_iff_eq.mpr c9
  clear c9
  obtain rfl := Option.some.inj H
  go_enter Try.func24, Try.ntmps24
  go_wp2_with (first | ((with_reducible refine gate_callee (f := 26) rfl ?_); refine goesL_ (some 22) rfl rfl Try.func26 (by kernel_rfl) rfl #[.pointer (some ⟨gT, 0, none⟩), .string a4] rfl (by (try simp only [mA, mC, mN]); first | done | rfl | (simp only [List.length_drop, List.length_take]; rfl)) ?_; (with_reducible refine (merkle_Leaf.calls (gT := gT) (hT := HT.out.below (bq HB.out)) a0 a4 t440 _ A7.out).mono ?_); rintro e w10 ⟨rfl, hb⟩; refine ⟨_, rfl, ?_⟩; replace HB := bh HB hb; (try clear hb); (try clear hb2); (try clear hk); (try clear hi)) | ((with_reducible refine gate_callee (f := 22) rfl ?_); refine goesL_ (some 24) rfl rfl Try.func22 (by kernel_rfl) rfl #[.pointer (some ⟨gT, 0, none⟩), .int .i64 a2, .int .i64 a3, .string t440, .slice A5 l5.length c5] rfl (by (try simp only [mA, mC, mN]); first | done | rfl | (simp only [List.length_drop, List.length_take]; rfl)) ?_; (with_reducible refine (merkle_Climb.calls (gT := gT) (hT := HT.out.below (bq HB.out)) k a0 a2 a3 t440 _ _ l5 t441 t442 t443 _ ?side1 ?side2 A8.out).mono ?_); (case side1 => repeat (first | exact (Kd.C_below HR5.out HB.out) | (with_reducible refine Kd.C_alloc ?_ _) | (with_reducible refine Kd.C_drewN ?_ _) | (with_reducible refine Kd.C_drew ?_))); (case side2 => exact HC5.out); rintro e w11 ⟨v444, rfl, ho0, hb⟩; refine ⟨_, rfl, ?_⟩; have HO445 := kw ho0 HB; replace HB := bh HB hb; (try clear hb); (try clear hb2); (try clear hk); (try clear hi); (try clear ho0)))
  go_ret
  exact ⟨by first | rfl | (simp [errW_none, errW_some] <;> rfl) | (simp [*, errW_none, errW_some] <;> rfl), bq HB.out⟩
 rw [if_neg c9] at H
 have c9b0 : (t443 == 0) = false := beq_eq_false_iff_ne.mpr c9
 have c9b1 : (t443 != 0) = true := bne_iff_ne.mpr c9
 obtain rfl := Option.some.inj H
 go_enter Try.func24, Try.ntmps24
 go_wp2_with (first | ((with_reducible refine gate_callee (f := 26) rfl ?_); refine goesL_ (some 22) rfl rfl Try.func26 (by kernel_rfl) rfl #[.pointer (some ⟨gT, 0, none⟩), .string a4] rfl (by (try simp only [mA, mC, mN]); first | done | rfl | (simp only [List.length_drop, List.length_take]; rfl)) ?_; (with_reducible refine (merkle_Leaf.calls (gT := gT) (hT := HT.out.below (bq HB.out)) a0 a4 t440 _ A7.out).mono ?_); rintro e w12 ⟨rfl, hb⟩; refine ⟨_, rfl, ?_⟩; replace HB := bh HB hb; (try clear hb); (try clear hb2); (try clear hk); (try clear hi)) | ((with_reducible refine gate_callee (f := 22) rfl ?_); refine goesL_ (some 24) rfl rfl Try.func22 (by kernel_rfl) rfl #[.pointer (some ⟨gT, 0, none⟩), .int .i64 a2, .int .i64 a3, .string t440, .slice A5 l5.length c5] rfl (by (try simp only [mA, mC, mN]); first | done | rfl | (simp only [List.length_drop, List.length_take]; rfl)) ?_; (with_reducible refine (merkle_Climb.calls (gT := gT) (hT := HT.out.below (bq HB.out)) k a0 a2 a3 t440 _ _ l5 t441 t442 t443 _ ?side1 ?side2 A8.out).mono ?_); (case side1 => repeat (first | exact (Kd.C_below HR5.out HB.out) | (with_reducible refine Kd.C_alloc ?_ _) | (with_reducible refine Kd.C_drewN ?_ _) | (with_reducible refine Kd.C_drew ?_))); (case side2 => exact HC5.out); rintro e w13 ⟨v444, rfl, ho0, hb⟩; refine ⟨_, rfl, ?_⟩; have HO445 := kw ho0 HB; replace HB := bh HB hb; (try clear hb); (try clear hb2); (try clear hk); (try clear hi); (try clear ho0)))
 go_ret
 exact ⟨by first | rfl | (simp [errW_none, errW_some] <;> rfl) | (simp [*, errW_none, errW_some] <;> rfl), bq HB.out⟩

end Go.Proofs.Ytmibjgjgfombaaa.P
