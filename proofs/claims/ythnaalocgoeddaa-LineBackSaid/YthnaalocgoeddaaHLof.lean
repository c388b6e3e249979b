/- Whether all elements are of a level (line.of, over slices.ContainsFunc and a closure). Conditions: none but that the list is one that is read. -/
import Derived.Test.YthnaalocgoeddaaPx0
import Derived.Test.YthnaalocgoeddaaPx4
set_option linter.unusedVariables false
set_option linter.unusedSimpArgs false
namespace Go.Proofs.Ythnaalocgoeddaa.P
open Go.RowKit Go.Proofs.YthnaalocgoeddaaX Go.Proofs.YthnaalocgoeddaaW.PrintWords Go.Proofs.YthnaalocgoeddaaW.PrintLast Go.Proofs.YthnaalocgoeddaaW.PrintMore
def line_of.l (k : Nat) (a0 : Int) : List S28 → Option Bool
  | [] => some true
  | x :: l => (octet_Of.f k a0 x.f0 x.f1).bind fun t => if t = true then line_of.l k a0 l else some false
def line_of.f (k : Nat) (a0 : Int) (l : List S28) : Option Bool := line_of.l k a0 l
theorem line_of.mono_l (k : Nat) (a0 : Int) : ∀ l, LeO (line_of.l k a0 l) (line_of.l (k + 1) a0 l)
  | [] => LeO.refl _
  | x :: l => by
    unfold line_of.l
    exact LeO.bind (octet_Of.mono _ _ _ _) (fun _ => LeO.ite (line_of.mono_l k a0 l) (LeO.refl _))
theorem line_of.mono : ∀ a0 a1 k, LeO (line_of.f k a0 a1) (line_of.f (k + 1) a0 a1) := fun a0 a1 k => line_of.mono_l k a0 a1
set_option maxHeartbeats 1000000 in
set_option maxRecDepth 100000 in
/-- The closure: is an element not of the level? -/
theorem line_of.one (k : Nat) (a0 x0 x1 : Int) (r : Bool) (g : Nat) (w : World) (hg : w.heap[g]? = some (.cells #[.int .i64 a0] 3 (0, 0))) (h : octet_Of.f k a0 x0 x1 = some r) :
    Calls Try.prog 47 #[.agg #[.int .u64 x0, .int .u64 x1], .pointer (some ⟨g, 0, none⟩)] w fun e w' => e = .returned (.bool (!r)) ∧ Below w.heap.size w w' := by
  have hu28 := Try.underlying28
  have HB := Aside0.mk (Below.refl w.heap.size w)
  have BKg := Aside0.mk hg
  clear hg
  go_enter Try.func47, Try.ntmps47
  go_wp2_with (first
    | ((with_reducible refine gate_dst (N := 2) rfl ?_); refine box_event ?hg (N := 2) ?hd (cs := #[.int .u64 x0, .int .u64 x1]) (t := 28) ?hr ?_; (case hd => rfl); (case hg => rfl); (case hr => first | (go_simp; done) | (go_simp; rfl)); intro gb hgb w4 hbox hb; have BK := Aside0.mk hbox; have NB1 := nl hgb BKg; have NB2 := ng hgb BKg; replace BKg := bb BKg hb; replace HB := bh HB hb; clear hb hbox hgb; obtain ⟨hcz0, hcz1⟩ := zc2 BK; have hcy := zc1 BKg; have hnb1 := NB1.out; have hnb2 := NB2.out)
    | ((with_reducible refine gate_callee (f := 26) rfl ?_); refine goesL_ (some 6) rfl rfl Try.func26 (by kernel_rfl) rfl #[.int .i64 a0, .agg #[.int .u64 x0, .int .u64 x1]] rfl (by (try simp only [List.map_toArray, List.map_cons, List.map_nil]); first | done | rfl | (simp only [List.length_drop, List.length_take]; rfl)) ?_; (with_reducible refine (octet_Of.calls k a0 x0 x1 r _ h).mono ?_); rintro e w6 ⟨rfl, hb⟩; refine ⟨_, rfl, ?_⟩; replace HB := bh HB hb; (try clear hb)))
  go_ret
  exact ⟨rfl, HB.out⟩
set_option maxHeartbeats 1000000 in
set_option maxRecDepth 100000 in
/-- The search for such an element. -/
theorem line_of.find (k : Nat) (a0 : Int) (A : Option Addr) (c : Nat) (l : List S28) (r : Bool) (g : Nat) (w : World) (hr0 : Kd.C k28 w A l.length l) (hc0 : l.length ≤ c) (hg : w.heap[g]? = some (.cells #[.int .i64 a0] 3 (0, 0))) (h : line_of.l k a0 l = some r) :
    Calls Try.prog 52 #[.slice A l.length c, .func (.func 47) #[] #[.pointer (some ⟨g, 0, none⟩)]] w fun e w' => ∃ j : Int, e = .returned (.int .i64 j) ∧ decide (j ≥ 0) = !r ∧ Below w.heap.size w w' := by
  have hu28 := Try.underlying28
  have HB := Aside0.mk (Below.refl w.heap.size w)
  have BKg := Aside0.mk hg
  have HR := Aside0.mk hr0
  have H := Aside0.mk h
  clear hg hr0 h
  go_enter Try.func52, Try.ntmps52
  go_wp2
  go_loopg [8] l.length (fun kq v8 w' => ∃ i : Nat, v8 = .int .i64 (i : Int) ∧ Aside0 (line_of.l k a0 (l.drop i) = some r) ∧ Aside0 (i + kq = l.length) ∧ Aside0 (w'.heap[g]? = some (.cells #[.int .i64 a0] 3 (0, 0))) ∧ Aside0 (Below w.heap.size w w'))
  case atStart => exact ⟨0, rfl, ⟨by rw [List.drop_zero]; exact H.out⟩, ⟨Nat.zero_add _⟩, BKg, HB⟩
  case round =>
    clear H
    obtain ⟨i, rfl, HA, HK, BKg, HB⟩ := hrel
    by_cases c1 : i < l.length
    · have H := HA.out
      clear HA
      rw [List.drop_eq_getElem_cons c1] at H
      unfold line_of.l at H
      obtain ⟨t, ht, H⟩ := Option.bind_eq_some_iff.mp H
      have c1b : decide ((i : Int) < (l.length : Int)) = true := decide_eq_true (by omega)
      have p1 : 0 ≤ (i : Int) := by omega
      have q1 : (i : Int) < (l.length : Int) := by omega
      obtain ⟨ad, e1, hx0, hx1⟩ := at_T28 HR.out (i : Int) p1 q1
      cases e1
      have er : rd_T28 l (i : Int) = l[i] := by
        unfold rd_T28
        rw [Int.toNat_natCast, List.getD_eq_getElem?_getD, List.getElem?_eq_getElem c1]
        rfl
      rw [er, Int.toNat_natCast] at hx0 hx1
      replace hx0 := (HB.out.cell (World.block_lt_of_cell? w _ hx0)).trans hx0
      replace hx1 := (HB.out.cell (World.block_lt_of_cell? w _ hx1)).trans hx1
      replace p1 := eq_true p1
      replace q1 := eq_true q1
      have HT := Aside0.mk ht
      have H' := Aside0.mk H
      have HL := Aside0.mk c1
      have hwi : wrap64 ((i : Int) + 1) = ((i + 1 : Nat) : Int) := by
        have := HR.out.2.1
        have := HL.out
        unfold wrap64
        omega
      clear ht H er
      cases t with
      | true =>
        have H2 := H'.out
        rw [if_pos rfl] at H2
        replace H' := Aside0.mk H2
        clear H2
        go_wp2_with (go_at_call 47; refine (line_of.one k a0 _ _ true g _ (bk BKg.out) HT.out).mono ?_; rintro e w2 ⟨rfl, hb⟩; replace BKg := bb BKg hb; replace HB := bh HB hb; (try clear hb))
        go_roundg (l.length - i - 1)
        case measure => have := HK.out; have := HL.out; omega
        case rel => exact ⟨i + 1, by first | rfl | (rw [hwi]; done) | (rw [i64_w, hwi]; done) | (simp [hwi]; done), H', ⟨by have := HK.out; have := HL.out; omega⟩, BKg, HB⟩
      | false =>
        have H2 := H'.out
        rw [if_neg (by decide)] at H2
        obtain rfl := Option.some.inj H2
        clear H2
        go_wp2_with (go_at_call 47; refine (line_of.one k a0 _ _ false g _ (bk BKg.out) HT.out).mono ?_; rintro e w2 ⟨rfl, hb⟩; replace BKg := bb BKg hb; replace HB := bh HB hb; (try clear hb))
        go_ret
        exact ⟨_, rfl, decide_eq_true (by omega), HB.out⟩
    · have c1b : decide ((i : Int) < (l.length : Int)) = false := decide_eq_false (by omega)
      have H := HA.out
      rw [List.drop_of_length_le (by omega)] at H
      unfold line_of.l at H
      obtain rfl := Option.some.inj H
      clear H
      go_wp2
      go_ret
      exact ⟨_, rfl, rfl, HB.out⟩
set_option maxHeartbeats 1000000 in
set_option maxRecDepth 100000 in
theorem line_of.has (k : Nat) (a0 : Int) (A : Option Addr) (c : Nat) (l : List S28) (r : Bool) (g : Nat) (w : World) (hr0 : Kd.C k28 w A l.length l) (hc0 : l.length ≤ c) (hg : w.heap[g]? = some (.cells #[.int .i64 a0] 3 (0, 0))) (h : line_of.l k a0 l = some r) :
    Calls Try.prog 46 #[.slice A l.length c, .func (.func 47) #[] #[.pointer (some ⟨g, 0, none⟩)]] w fun e w' => e = .returned (.bool (!r)) ∧ Below w.heap.size w w' := by
  have HB := Aside0.mk (Below.refl w.heap.size w)
  have BKg := Aside0.mk hg
  have HR := Aside0.mk hr0
  have H := Aside0.mk h
  clear hg hr0 h
  go_enter Try.func46, Try.ntmps46
  go_wp2_with (go_at_call 52; refine (line_of.find k a0 A c l r g _ HR.out hc0 BKg.out H.out).mono ?_; rintro e w2 ⟨j, rfl, hj, hb⟩; replace HB := bh HB hb; have HJ := Aside0.mk hj; have hj2 : decide (0 ≤ j) = !r := hj; (try clear hb))
  go_ret
  refine ⟨?_, HB.out⟩
  rw [← HJ.out]
  rfl
set_option maxHeartbeats 1000000 in
set_option maxRecDepth 100000 in
theorem line_of.calls (k : Nat) (a0 : Int) (A0 : Option Addr) (c0 : Nat) (l0 : List S28) (r : Bool) (w : World) (hr0 : Kd.C k28 w A0 l0.length l0) (hc0 : l0.length ≤ c0) (h : line_of.f k a0 l0 = some r) :
    Calls Try.prog 40 #[.int .i64 a0, .slice A0 l0.length c0] w fun e w' => e = .returned (.bool r) ∧ Below w.heap.size w w' := by
  have hmf : ∀ (fn : Fn) (first cap : Array Value) (w : World), (Instr.makeFunc fn first cap).run Try.prog w = .ok (.func fn first cap) w := fun _ _ _ _ => rfl
  have HB := Aside0.mk (Below.refl w.heap.size w)
  have HR := Aside0.mk hr0
  have H := Aside0.mk h
  clear hr0 h
  go_enter Try.func40, Try.ntmps40
  go_wp2_with (first
    | ((with_reducible refine gate_dst (N := 2) rfl ?_); refine box_event ?hg (N := 2) ?hd (cs := #[.int .i64 a0]) (t := 3) ?hr ?_; (case hd => rfl); (case hg => rfl); (case hr => first | (go_simp; done) | (go_simp; rfl)); intro gb hgb w4 hbox hb; have BKg := Aside0.mk hbox; replace HR := Aside0.mk (Kd.C_below HR.out (by first | exact hb | exact Below.refl _ _)); replace HB := bh HB hb; clear hb hbox hgb)
    | (go_at_call 46; refine (line_of.has k a0 A0 c0 l0 r gb _ HR.out hc0 BKg.out H.out).mono ?_; rintro e w2 ⟨rfl, hb⟩; replace HB := bh HB hb; (try clear hb)))
  go_ret
  exact ⟨rfl, HB.out⟩
end Go.Proofs.Ythnaalocgoeddaa.P
