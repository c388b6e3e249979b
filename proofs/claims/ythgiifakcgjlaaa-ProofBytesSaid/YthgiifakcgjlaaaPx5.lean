/- Functions that the law reaches, as Lean functions. Conditions: those that each theorem names. -/
import Derived.Test.YthgiifakcgjlaaaPx0
import Derived.Test.YthgiifakcgjlaaaX2
import Derived.Test.YthgiifakcgjlaaaPx1
import Derived.Test.YthgiifakcgjlaaaPx4
import Derived.Test.YthgiifakcgjlaaaHNums
set_option maxHeartbeats 8000000
set_option maxRecDepth 100000
namespace Go.Proofs.Ythgiifakcgjlaaa.P
open Go.RowKit YthgiifakcgjlaaaX YthgiifakcgjlaaaW.PrintWords YthgiifakcgjlaaaW.PrintLast YthgiifakcgjlaaaW.PrintMore
attribute [local go_sem] max2_int min2_int max_two min_two max_three min_three max_four min_four
set_option linter.unusedVariables false
set_option linter.unusedSimpArgs false

attribute [local go_sem high] eqA23
def proof_Params.f (k : Nat) (a0_0 : Int) (a0_1 : Int) (a0_2 : Int) (a0_3 : Int) : Option (ByteArray × Int) := (proof_Fits.f a0_0 a0_1 a0_2 a0_3).bind fun t107 => (if t107 = true then ((proof_nums.f k (([a0_0, a0_1, a0_2, a0_3] : List Int))).bind fun t111 => (some (t111, 0))) else (some ((⟨#[]⟩ : ByteArray), 1)))
theorem proof_Params.calls (k : Nat) (a0_0 : Int) (a0_1 : Int) (a0_2 : Int) (a0_3 : Int) (r1 : ByteArray) (r2 : Int) (w : World) (h : proof_Params.f k a0_0 a0_1 a0_2 a0_3 = some (r1, r2)) :
  Calls Try.prog 10 #[.agg #[.int .i64 a0_0, .int .i64 a0_1, .int .i64 a0_2, .int .i64 a0_3]] w fun e w' => e = .returned (.tuple #[.string r1, .int .i64 r2]) ∧ Below w.heap.size w w' := by
 have hu23 := Try.underlying23
 have HB := Aside0.mk (Below.refl w.heap.size w)
 have H : ((proof_Fits.f a0_0 a0_1 a0_2 a0_3).bind fun t107 => (if t107 = true then ((proof_nums.f k (([a0_0, a0_1, a0_2, a0_3] : List Int))).bind fun t111 => (some (t111, 0))) else (some ((⟨#[]⟩ : ByteArray), 1)))) = some (r1, r2) := h
 clear h
 obtain ⟨t107, A2, H⟩ := bm2 H
 try dsimp only at H
 by_cases c3 : t107 = true
 rotate_left
 ·replace c3 := Bool.eq_false_iff.mpr c3
  subst c3
  have H1 : (some ((⟨#[]⟩ : ByteArray), 1)) = some (r1, r2) := by rw [if_neg (show ¬ (false = true) by decide)] at H; exact H
  clear H
  have H := H1
  clear H1
  simp only [Option.some.injEq, Prod.mk.injEq] at H
  obtain ⟨rfl, rfl⟩ := H
  go_enter Try.func10, Try.ntmps10
  go_wp2_with (first | ((with_reducible refine gate_dst (N := 1) rfl ?_); refine box_event ?hg (N := 1) ?hd (cs := #[.int .i64 a0_0, .int .i64 a0_1, .int .i64 a0_2, .int .i64 a0_3]) (t := 23) ?hr ?_; (case hd => rfl); (case hg => rfl); (case hr => go_simp <;> rfl); intro gb106 hg w13 hbox hb; have BK106 := Aside0.mk hbox; have GW106 := ge hg HB; have GE106 := ge hg HB; replace HB := bh HB hb; clear hb hbox hg; obtain ⟨hcz14_0, hcz14_1, hcz14_2, hcz14_3⟩ := zc4 BK106; obtain ⟨hfz14_0, hfz14_1, hfz14_2, hfz14_3⟩ := zf4 BK106) | ((with_reducible refine gate_callee (f := 13) rfl ?_); refine gL (some 5) rfl Try.func13 #[.agg #[.int .i64 a0_0, .int .i64 a0_1, .int .i64 a0_2, .int .i64 a0_3]] rfl ?_; (with_reducible refine (proof_Fits.calls a0_0 a0_1 a0_2 a0_3 false _ A2.out).mono ?_); rintro e w15 ⟨rfl, hb⟩; refine ⟨_, rfl, ?_⟩; replace HB := bh HB hb; (try clear hb); (try clear hk hi)))
  go_ret2
  exact ⟨er, bq HB.out⟩

 subst c3
 have H1 : ((proof_nums.f k (([a0_0, a0_1, a0_2, a0_3] : List Int))).bind fun t111 => (some (t111, 0))) = some (r1, r2) := by rw [if_pos rfl] at H; exact H
 clear H
 have H := H1
 clear H1
 obtain ⟨y108, hy108⟩ : ∃ y_ : List Int, y_ = (([a0_0, a0_1, a0_2, a0_3] : List Int)) := ⟨_, rfl⟩
 replace H : ((proof_nums.f k y108).bind fun t111 => (some (t111, 0))) = some (r1, r2) := by first | (rw [hy108]; with_reducible exact H) | (have H2_ := (Option.bind_some _ _).symm.trans H; rw [hy108]; with_reducible exact H2_) | (have H2_ := (Option.bind_some _ _).symm.trans H; with_reducible exact H2_) | with_reducible exact H | (rw [hy108]; exact H) | exact H
 have Ny108 := Aside0.mk hy108
 clear hy108
 obtain ⟨t111, A4, H⟩ := bm2 H
 replace H : (some (t111, 0)) = some (r1, r2) := H
 simp only [Option.some.injEq, Prod.mk.injEq] at H
 obtain ⟨rfl, rfl⟩ := H
 go_enter Try.func10, Try.ntmps10
 go_wp2_with (first | ((with_reducible refine gate_dst (N := 1) rfl ?_); refine box_event ?hg (N := 1) ?hd (cs := #[.int .i64 a0_0, .int .i64 a0_1, .int .i64 a0_2, .int .i64 a0_3]) (t := 23) ?hr ?_; (case hd => rfl); (case hg => rfl); (case hr => go_simp <;> rfl); intro gb106 hg w5 hbox hb; have BK106 := Aside0.mk hbox; have GW106 := ge hg HB; have GE106 := ge hg HB; replace HB := bh HB hb; clear hb hbox hg; obtain ⟨hcz6_0, hcz6_1, hcz6_2, hcz6_3⟩ := zc4 BK106; obtain ⟨hfz6_0, hfz6_1, hfz6_2, hfz6_3⟩ := zf4 BK106) | ((with_reducible refine gate_callee (f := 13) rfl ?_); refine gL (some 5) rfl Try.func13 #[.agg #[.int .i64 a0_0, .int .i64 a0_1, .int .i64 a0_2, .int .i64 a0_3]] rfl ?_; (with_reducible refine (proof_Fits.calls a0_0 a0_1 a0_2 a0_3 true _ A2.out).mono ?_); rintro e w7 ⟨rfl, hb⟩; refine ⟨_, rfl, ?_⟩; replace BK106 := bb BK106 hb; replace HB := bh HB hb; (try clear hb); (try clear hk hi); obtain ⟨hcz8_0, hcz8_1, hcz8_2, hcz8_3⟩ := zc4 BK106; obtain ⟨hfz8_0, hfz8_1, hfz8_2, hfz8_3⟩ := zf4 BK106) | ((with_reducible refine gate_dst (N := 15) rfl ?_); refine Kd.R_lit (Kd.int .i64) _ 3 ?hg (N := 15) ?hd (xs := ([a0_0, a0_1, a0_2, a0_3] : List Int)) (inner := [.int .i64 a0_0, .int .i64 a0_1, .int .i64 a0_2, .int .i64 a0_3]) (ok := fun _ => True) (okp := fun _ => True) ?hr ?hp (fun _ hk => hk) trivial (Below.refl _ _) (Nat.le_refl _) (by simp) ?_; (case hd => rfl); (case hg => rfl); (case hr => go_simp <;> rfl); (case hp => exact (Reps.one (show Kd.M (Kd.int .i64) _ _ _ a0_0 [.int .i64 a0_0] from rfl) (Reps.one (show Kd.M (Kd.int .i64) _ _ _ a0_1 [.int .i64 a0_1] from rfl) (Reps.one (show Kd.M (Kd.int .i64) _ _ _ a0_2 [.int .i64 a0_2] from rfl) (Reps.one (show Kd.M (Kd.int .i64) _ _ _ a0_3 [.int .i64 a0_3] from rfl) (Reps.none _ _)))))); intro v109 w9 ho10 hb hg_ hnew_; clear hg_ hnew_; (first | rw [← Ny108.out] at ho10 | (simp only [Int.reduceToNat] at ho10; rw [← Ny108.out] at ho10)); have HO110 := kw ho10 HB; replace HB := bh HB hb; clear hb ho10; obtain ⟨Ao11, co11, eo11⟩ := Kd.R_slice HO110.out; subst eo11) | ((with_reducible refine gate_callee (f := 32) rfl ?_); refine gL (some 16) rfl Try.func32 #[.slice Ao11 y108.length co11] rfl ?_; (with_reducible refine (proof_nums.calls k _ _ y108 t111 _ ?side1 ?side2 A4.out).mono ?_); (case side1 => exact cq (Kd.R_reads' HO110.out).2.2); (case side2 => exact (Kd.R_reads' HO110.out).2.1); rintro e w12 ⟨rfl, hb⟩; refine ⟨_, rfl, ?_⟩; replace HB := bh HB hb; (try clear hb); (try clear hk hi)))
 go_ret2
 exact ⟨er, bq HB.out⟩
def proof_ask.f (a0 : ByteArray) : Option (Int) := if (a0.size : Int) > 1048576 then (some 2) else (some 0)
theorem proof_ask.calls (a0 : ByteArray) (r : Int) (w : World) (h : proof_ask.f a0 = some r) :
  Calls Try.prog 33 #[.string a0] w fun e w' => e = .returned (.int .i64 r) ∧ Drawn0 w w' := by
 have H : (if (a0.size : Int) > 1048576 then (some 2) else (some 0)) = some r := h
 clear h
 by_cases c2 : (a0.size : Int) > 1048576
 ·rw [if_pos c2] at H
  have c2b0 : decide (1048576 < (a0.size : Int)) = true := decide_eq_true c2
  have c2b1 : decide (1048576 < a0.size) = true := decide_eq_true (by omega)
  clear c2
  obtain rfl := Option.some.inj H
  go_enter Try.func33, Try.ntmps33
  go_wp2
  go_ret
  exact ⟨by first | rfl | (simp; done) | (simp [*]; done), by repeat (first | exact Drawn0.refl _ | apply Drawn0.step)⟩
 rw [if_neg c2] at H
 have c2b0 : decide (1048576 < (a0.size : Int)) = false := decide_eq_false c2
 have c2b1 : decide (1048576 < a0.size) = false := decide_eq_false (by omega)
 clear c2
 obtain rfl := Option.some.inj H
 go_enter Try.func33, Try.ntmps33
 go_wp2
 go_ret
 exact ⟨by first | rfl | (simp; done) | (simp [*]; done), by repeat (first | exact Drawn0.refl _ | apply Drawn0.step)⟩

def IsS145 (w0 W : World) (g : Nat) (f0 : ByteArray) (f1 : Int) : Prop := W.heap[g]? = some (.cells #[.string f0, .int .i64 f1] 145 (0, 0)) ∧ w0.heap.size ≤ g
theorem IsS145.grown {w0 W : World} {g : Nat} {f0 : ByteArray} {f1 : Int} {W1 : World} {row : Option Nat} (h : IsS145 w0 W g f0 f1) (hw : W.grownBy W1 row) (hne : some g ≠ row) : IsS145 w0 W1 g f0 f1 := by
 obtain ⟨hb, hg⟩ := h
 exact ⟨blk_grown hb hw hne, hg⟩
theorem IsS145.kept {w0 W : World} {g : Nat} {f0 : ByteArray} {f1 : Int} {W1 : World} {S : Nat → Prop} (h : IsS145 w0 W g f0 f1) (hk : Kept W W1 S) (hne : ¬ S g) : IsS145 w0 W1 g f0 f1 := by
 obtain ⟨hb, hg⟩ := h
 exact ⟨blk_kept hb hk hne, hg⟩
theorem IsS145.below {w0 W : World} {g : Nat} {f0 : ByteArray} {f1 : Int} {W1 : World} (h : IsS145 w0 W g f0 f1) (hw : Below W.heap.size W W1) : IsS145 w0 W1 g f0 f1 := h.grown (grown_of_below hw none) (by simp)
theorem IsS145.alloc {w0 W : World} {g : Nat} {f0 : ByteArray} {f1 : Int} (h : IsS145 w0 W g f0 f1) (o : Obj) : IsS145 w0 (W.alloc o) g f0 f1 := h.below (below_alloc (Below.refl _ _) o)
theorem IsS145.drewN {w0 W : World} {g : Nat} {f0 : ByteArray} {f1 : Int} (h : IsS145 w0 W g f0 f1) (m : Nat) : IsS145 w0 (W.drewN m) g f0 f1 := h
theorem IsS145.drew {w0 W : World} {g : Nat} {f0 : ByteArray} {f1 : Int} (h : IsS145 w0 W g f0 f1) : IsS145 w0 W.drew g f0 f1 := h
theorem IsS145.at_ {w0 W : World} {g : Nat} {f0 : ByteArray} {f1 : Int} {w' : World} {m : Nat} (hq : W.drewN m = w') (h : IsS145 w0 W g f0 f1) : IsS145 w0 w' g f0 f1 := by subst hq; exact IsS145.drewN h m
theorem IsS145.apart {w0 W : World} {g : Nat} {f0 : ByteArray} {f1 : Int} {α : Type} {d : Kd α} {e : Nat} {base : Nat} {ok : Nat → Prop} {v : Value} {xs : List α} (h : IsS145 w0 W g f0 f1) (ho : d.R e W base ok v xs) (ht : ∀ q, q ∈ e :: d.E → q ≠ 145) : d.R e W base (fun k => ok k ∧ k ≠ g) v xs := by
 obtain ⟨hb, hg⟩ := h
 exact Kd.R_types ho hb ht
theorem IsS145.own_ne {w0 W : World} {g : Nat} {f0 : ByteArray} {f1 : Int} {α : Type} {d : Kd α} {e : Nat} {base : Nat} {ok : Nat → Prop} {v : Value} {xs : List α} (h : IsS145 w0 W g f0 f1) (ho : d.R e W base ok v xs) (ht : e ≠ 145) : some g ≠ v.ownBlock := by
 obtain ⟨hb, hg⟩ := h
 exact Kd.R_ne ho hb ht
theorem IsS145.apartS {w0 W : World} {g : Nat} {f0 : ByteArray} {f1 : Int} {α : Type} {d : Kd α} {e : Nat} {base : Nat} {ok : Nat → Prop} {v : Value} {xs : List α} (h : IsS145 w0 W g f0 f1) (ho : d.S e W base ok v xs) (ht : ∀ q, q ∈ e :: d.E → q ≠ 145) : d.S e W base (fun k => ok k ∧ k ≠ g) v xs := by
 obtain ⟨hb, hg⟩ := h
 exact Kd.S_types ho hb ht
theorem IsS145.own_neS {w0 W : World} {g : Nat} {f0 : ByteArray} {f1 : Int} {α : Type} {d : Kd α} {e : Nat} {base : Nat} {ok : Nat → Prop} {v : Value} {xs : List α} (h : IsS145 w0 W g f0 f1) (ho : d.S e W base ok v xs) (ht : e ≠ 145) : some g ≠ v.ownBlock := by
 obtain ⟨hb, hg⟩ := h
 exact Kd.S_ne ho hb ht
theorem IsS145.lt {w0 W : World} {g : Nat} {f0 : ByteArray} {f1 : Int} (h : IsS145 w0 W g f0 f1) : g < W.heap.size := by
 obtain ⟨hb, hg⟩ := h
 exact blk_lt hb
theorem IsS145.ge {w0 W : World} {g : Nat} {f0 : ByteArray} {f1 : Int} (h : IsS145 w0 W g f0 f1) : w0.heap.size ≤ g := by
 obtain ⟨hb, hg⟩ := h
 exact hg
theorem IsS145.ne_blk {w0 W : World} {g : Nat} {f0 : ByteArray} {f1 : Int} {a : Nat} {cs : Array Value} {t : TypeId} {fr : Nat × Nat} (h : IsS145 w0 W g f0 f1) (hb2 : W.heap[a]? = some (.cells cs t fr)) (ht : t ≠ 145) : g ≠ a := by
 obtain ⟨hb, hg⟩ := h
 rintro rfl
 rw [hb] at hb2
 injection hb2 with hb2
 injection hb2 with _ ht2
 exact ht ht2.symm
theorem IsS145.far {w0 W : World} {g : Nat} {f0 : ByteArray} {f1 : Int} {p : Addr} (h : IsS145 w0 W g f0 f1) (hne : g ≠ p.block) (u : Value) : IsS145 w0 (W.setCell p u) g f0 f1 := by
 obtain ⟨hb, hg⟩ := h
 exact ⟨blk_far hb hne u, hg⟩
theorem cellS145_0 {W : World} {g : Nat} {f0 : ByteArray} {f1 : Int} (h : W.heap[g]? = some (.cells #[.string f0, .int .i64 f1] 145 (0, 0))) : W.cell? ⟨g, 0, none⟩ = some (.string f0) := (blk_cell h 0).trans rfl
theorem IsS145.set_0 {w0 W : World} {g : Nat} {f0 : ByteArray} {f1 : Int} (h : IsS145 w0 W g f0 f1) (x : ByteArray) : IsS145 w0 (W.setCell ⟨g, 0, none⟩ (.string x)) g x f1 := by
 obtain ⟨hb, hg⟩ := h
 exact ⟨by simpa using blk_set hb 0 (.string x), hg⟩
theorem cellS145_1 {W : World} {g : Nat} {f0 : ByteArray} {f1 : Int} (h : W.heap[g]? = some (.cells #[.string f0, .int .i64 f1] 145 (0, 0))) : W.cell? ⟨g, 1, none⟩ = some (.int .i64 f1) := (blk_cell h 1).trans rfl
theorem IsS145.set_1 {w0 W : World} {g : Nat} {f0 : ByteArray} {f1 : Int} (h : IsS145 w0 W g f0 f1) (x : Int) : IsS145 w0 (W.setCell ⟨g, 1, none⟩ (.int .i64 x)) g f0 x := by
 obtain ⟨hb, hg⟩ := h
 exact ⟨by simpa using blk_set hb 1 (.int .i64 x), hg⟩
theorem ia {w0 W : World} {g : Nat} {f0 : ByteArray} {f1 : Int} (h : IsS145 w0 W g f0 f1) (o : Obj) : IsS145 w0 (W.alloc o) g f0 f1 := h.alloc o
theorem iN {w0 W : World} {g : Nat} {f0 : ByteArray} {f1 : Int} (h : IsS145 w0 W g f0 f1) (m : Nat) : IsS145 w0 (W.drewN m) g f0 f1 := h.drewN m
theorem iD {w0 W : World} {g : Nat} {f0 : ByteArray} {f1 : Int} (h : IsS145 w0 W g f0 f1) : IsS145 w0 W.drew g f0 f1 := h.drew
theorem iF {w0 W : World} {g : Nat} {f0 : ByteArray} {f1 : Int} {p : Addr} (h : IsS145 w0 W g f0 f1) (hne : g ≠ p.block) (u : Value) : IsS145 w0 (W.setCell p u) g f0 f1 := h.far hne u
theorem i0 {w0 W : World} {g : Nat} {f0 : ByteArray} {f1 : Int} (h : IsS145 w0 W g f0 f1) (x : ByteArray) : IsS145 w0 (W.setCell ⟨g, 0, none⟩ (.string x)) g x f1 := h.set_0 x
theorem i1 {w0 W : World} {g : Nat} {f0 : ByteArray} {f1 : Int} (h : IsS145 w0 W g f0 f1) (x : Int) : IsS145 w0 (W.setCell ⟨g, 1, none⟩ (.int .i64 x)) g f0 x := h.set_1 x
class Gi (g : Nat) (w w' : World) : Prop where
  h : ∀ {w0 : World} {f0 : ByteArray} {f1 : Int}, IsS145 w0 w g f0 f1 → IsS145 w0 w' g f0 f1
instance (g : Nat) (w : World) : Gi g w w := ⟨fun h => h⟩
instance (g : Nat) (w w' : World) (o : Obj) [k : Gi g w w'] : Gi g w (w'.alloc o) := ⟨fun h => (k.h h).alloc o⟩
instance (g : Nat) (w w' : World) (n : Nat) [k : Gi g w w'] : Gi g w (w'.drewN n) := ⟨fun h => (k.h h).drewN n⟩
instance (g : Nat) (w w' : World) [k : Gi g w w'] : Gi g w w'.drew := ⟨fun h => (k.h h).drew⟩
instance (g : Nat) (w w' : World) (c j : Nat) (u : Value) [a : Aside1 (g ≠ c)] [k : Gi g w w'] : Gi g w (w'.setCell ⟨c, j, none⟩ u) := ⟨fun h => (k.h h).far a.out u⟩
theorem iq {g : Nat} {w w' w0 : World} {f0 : ByteArray} {f1 : Int} [k : Gi g w w'] (h : IsS145 w0 w g f0 f1) : IsS145 w0 w' g f0 f1 := k.h h
def octet_Read.f (a0 : ByteArray) : Option (ByteArray × Int) := some (a0, 0)
theorem octet_Read.calls (a0 : ByteArray) (r1 : ByteArray) (r2 : Int) (w0 w : World) (hB : Below w0.heap.size w0 w) (h : octet_Read.f a0 = some (r1, r2)) :
  Calls Try.prog 34 #[.string a0] w fun e w' => ∃ g_ : Nat, e = .returned (.pointer (some ⟨g_, 0, none⟩)) ∧ IsS145 w0 w' g_ r1 r2 ∧ Below w0.heap.size w0 w' ∧ Below w.heap.size w w' := by
 have hu145 := Try.underlying145
 have HBW := Aside0.mk (Below.refl w.heap.size w)
 have HW0 := Aside0.mk hB.size
 have HB := Aside0.mk hB
 clear hB
 have H : (some (a0, 0)) = some (r1, r2) := h
 clear h
 simp only [Option.some.injEq, Prod.mk.injEq] at H
 obtain ⟨rfl, rfl⟩ := H
 go_enter Try.func34, Try.ntmps34
 go_wp2_with (first | ((with_reducible refine gate_dst (N := 5) rfl ?_); refine box_event ?hg (N := 5) ?hd (cs := #[.string a0, .int .i64 0]) (t := 145) ?hr ?_; (case hd => rfl); (case hg => rfl); (case hr => go_simp <;> rfl); intro gb112 hg w2 hbox hb; have n0_ := Aside0.mk (below_step HBW.out hb); have n1_ := Aside0.mk (below_step (by repeat (first | (with_reducible first | exact HB.out | apply ba | apply bN | apply bD) | exact HB.out)) hb); have n2_ := Aside0.mk (hbox); have n3_ := Aside0.mk ((by rw [hg]; exact (below_size (by repeat (first | (with_reducible first | exact HBW.out | apply ba | apply bN | apply bD) | exact HBW.out))) : w.heap.size ≤ gb112)); have n4_ := Aside0.mk ((Nat.le_trans HW0.out (by rw [hg]; exact (below_size (by repeat (first | (with_reducible first | exact HBW.out | apply ba | apply bN | apply bD) | exact HBW.out))) : w.heap.size ≤ gb112) : w0.heap.size ≤ gb112)); clear HBW; clear HB; have HBW := n0_; have HB := n1_; have BK112 := n2_; have GW112 := n3_; have GE112 := n4_; clear n0_ n1_ n2_ n3_ n4_; clear hb hbox hg))
 go_ret
 exact ⟨_, rfl, (show IsS145 w0 _ gb112 a0 0 from ⟨by (with_reducible repeat (first | refine blk_drewN ?_ _ | refine blk_drew ?_ | refine blk_alloc ?_ _)); exact BK112.out, GE112.out⟩), by repeat (first | (with_reducible first | exact HB.out | apply ba | apply bN | apply bD | refine bS ?_ GE112.out) | exact HB.out), by repeat (first | (with_reducible first | exact HBW.out | apply ba | apply bN | apply bD | refine bS ?_ GW112.out) | exact HBW.out)⟩

def octet_Reader_stop.f (s0_0 : ByteArray) (s0_1 : Int) (a1 : Int) : Option (ByteArray × Int) := if s0_1 = 0 then (some (s0_0, a1)) else (some (s0_0, s0_1))
theorem octet_Reader_stop.calls (g : Nat) (s0_0 : ByteArray) (s0_1 : Int) (a1 : Int) (r1 : ByteArray) (r2 : Int) (w0 w : World) (hI : IsS145 w0 w g s0_0 s0_1) (hB : Below w0.heap.size w0 w) (h : octet_Reader_stop.f s0_0 s0_1 a1 = some (r1, r2)) :
  Calls Try.prog 87 #[.pointer (some ⟨g, 0, none⟩), .int .i64 a1] w fun e w' => e = .returned (.tuple #[]) ∧ IsS145 w0 w' g r1 r2 ∧ Below w0.heap.size w0 w' ∧ KeepBut w w' g none := by
 have HI0 := Aside0.mk hI
 have HK := Aside0.mk (KeepBut.refl w g none)
 have HL := Aside0.mk hB.size
 clear hI
 have HW0 := Aside0.mk hB.size
 have HB := Aside0.mk hB
 clear hB
 have H : (if s0_1 = 0 then (some (s0_0, a1)) else (some (s0_0, s0_1))) = some (r1, r2) := h
 clear h
 by_cases c3 : s0_1 = 0
 ·rw [if_pos c3] at H
  have c3b0 : (s0_1 == 0) = true := beq_iff_eq.mpr c3
  have c3b1 : (s0_1 != 0) = false := bne_eq_false_iff_eq.mpr c3
  clear c3
  simp only [Option.some.injEq, Prod.mk.injEq] at H
  obtain ⟨rfl, rfl⟩ := H
  obtain ⟨HGz4, hgz4⟩ := HI0.out
  have hcz4_0 := cellS145_0 HGz4
  have hcz4_1 := cellS145_1 HGz4
  have hfz4_0 := blk_frozen HGz4 0
  have hfz4_1 := blk_frozen HGz4 1
  clear HGz4 hgz4
  go_enter Try.func87, Try.ntmps87
  go_wp2
  first | go_end0 | ((try simp only [Exit.inBlock, Exit.then]); refine bodyPost_ret (results_none rfl _ _ _) rfl ?_)
  exact ⟨er, by repeat (first | (with_reducible first | exact HI0.out | apply ia | apply iN | apply iD | apply i0 | apply i1) | exact HI0.out), by repeat (first | (with_reducible first | exact HB.out | apply ba | apply bN | apply bD | refine bS ?_ (IsS145.ge HI0.out)) | exact HB.out), by repeat (first | (with_reducible first | exact HK.out | apply kS | apply kN | apply kD | apply kA) | exact HK.out)⟩
 rw [if_neg c3] at H
 have c3b0 : (s0_1 == 0) = false := beq_eq_false_iff_ne.mpr c3
 have c3b1 : (s0_1 != 0) = true := bne_iff_ne.mpr c3
 simp only [Option.some.injEq, Prod.mk.injEq] at H
 obtain ⟨rfl, rfl⟩ := H
 obtain ⟨HGz5, hgz5⟩ := HI0.out
 have hcz5_0 := cellS145_0 HGz5
 have hcz5_1 := cellS145_1 HGz5
 have hfz5_0 := blk_frozen HGz5 0
 have hfz5_1 := blk_frozen HGz5 1
 clear HGz5 hgz5
 go_enter Try.func87, Try.ntmps87
 go_wp2
 first | go_end0 | ((try simp only [Exit.inBlock, Exit.then]); refine bodyPost_ret (results_none rfl _ _ _) rfl ?_)
 exact ⟨er, by repeat (first | (with_reducible first | exact HI0.out | apply ia | apply iN | apply iD | apply i0 | apply i1) | exact HI0.out), by repeat (first | (with_reducible first | exact HB.out | apply ba | apply bN | apply bD | refine bS ?_ (IsS145.ge HI0.out)) | exact HB.out), by repeat (first | (with_reducible first | exact HK.out | apply kS | apply kN | apply kD | apply kA) | exact HK.out)⟩

def octet_Reader_take.f (s0_0 : ByteArray) (s0_1 : Int) (a1 : Int) : Option (ByteArray × Bool × ByteArray × Int) := if s0_1 = 0 then (if a1 > (s0_0.size : Int) then ((octet_Reader_stop.f s0_0 s0_1 11).bind fun bt113 => (some ((⟨#[]⟩ : ByteArray), false, bt113.1, bt113.2))) else (if 0 ≤ a1 then (if a1 ≤ (s0_0.size : Int) then (some (s0_0.extract 0 (a1 : Int).toNat, true, s0_0.extract (a1 : Int).toNat s0_0.size, s0_1)) else (none)) else (none))) else (some ((⟨#[]⟩ : ByteArray), false, s0_0, s0_1))
theorem octet_Reader_take.calls (g : Nat) (s0_0 : ByteArray) (s0_1 : Int) (a1 : Int) (r1 : ByteArray) (r2 : Bool) (r3 : ByteArray) (r4 : Int) (w0 w : World) (hI : IsS145 w0 w g s0_0 s0_1) (hB : Below w0.heap.size w0 w) (h : octet_Reader_take.f s0_0 s0_1 a1 = some (r1, r2, r3, r4)) :
  Calls Try.prog 86 #[.pointer (some ⟨g, 0, none⟩), .int .i64 a1] w fun e w' => e = .returned (.tuple #[.string r1, .bool r2]) ∧ IsS145 w0 w' g r3 r4 ∧ Below w0.heap.size w0 w' ∧ KeepBut w w' g none := by
 have HI0 := Aside0.mk hI
 have HK := Aside0.mk (KeepBut.refl w g none)
 have HL := Aside0.mk hB.size
 clear hI
 have HW0 := Aside0.mk hB.size
 have HB := Aside0.mk hB
 clear hB
 have H : (if s0_1 = 0 then (if a1 > (s0_0.size : Int) then ((octet_Reader_stop.f s0_0 s0_1 11).bind fun bt113 => (some ((⟨#[]⟩ : ByteArray), false, bt113.1, bt113.2))) else (if 0 ≤ a1 then (if a1 ≤ (s0_0.size : Int) then (some (s0_0.extract 0 (a1 : Int).toNat, true, s0_0.extract (a1 : Int).toNat s0_0.size, s0_1)) else (none)) else (none))) else (some ((⟨#[]⟩ : ByteArray), false, s0_0, s0_1))) = some (r1, r2, r3, r4) := h
 clear h
 by_cases c3 : s0_1 = 0
 rotate_left
 ·rw [if_neg c3] at H
  have c3b0 : (s0_1 == 0) = false := beq_eq_false_iff_ne.mpr c3
  have c3b1 : (s0_1 != 0) = true := bne_iff_ne.mpr c3
  simp only [Option.some.injEq, Prod.mk.injEq] at H
  obtain ⟨rfl, rfl, rfl, rfl⟩ := H
  obtain ⟨HGz13, hgz13⟩ := HI0.out
  have hcz13_0 := cellS145_0 HGz13
  have hcz13_1 := cellS145_1 HGz13
  have hfz13_0 := blk_frozen HGz13 0
  have hfz13_1 := blk_frozen HGz13 1
  clear HGz13 hgz13
  go_enter Try.func86, Try.ntmps86
  go_wp2
  go_ret2
  exact ⟨er, by repeat (first | (with_reducible first | exact HI0.out | apply ia | apply iN | apply iD | apply i0 | apply i1) | exact HI0.out), by repeat (first | (with_reducible first | exact HB.out | apply ba | apply bN | apply bD | refine bS ?_ (IsS145.ge HI0.out)) | exact HB.out), by repeat (first | (with_reducible first | exact HK.out | apply kS | apply kN | apply kD | apply kA) | exact HK.out)⟩

 rw [if_pos c3] at H
 have c3b0 : (s0_1 == 0) = true := beq_iff_eq.mpr c3
 have c3b1 : (s0_1 != 0) = false := bne_eq_false_iff_eq.mpr c3
 clear c3
 by_cases c4 : a1 > (s0_0.size : Int)
 ·rw [if_pos c4] at H
  have c4b0 : decide ((s0_0.size : Int) < a1) = true := decide_eq_true c4
  clear c4
  obtain ⟨⟨t113, t114⟩, A5, H⟩ := bm2 H
  try dsimp only at H
  simp only [Option.some.injEq, Prod.mk.injEq] at H
  obtain ⟨rfl, rfl, rfl, rfl⟩ := H
  obtain ⟨HGz6, hgz6⟩ := HI0.out
  have hcz6_0 := cellS145_0 HGz6
  have hcz6_1 := cellS145_1 HGz6
  have hfz6_0 := blk_frozen HGz6 0
  have hfz6_1 := blk_frozen HGz6 1
  clear HGz6 hgz6
  go_enter Try.func86, Try.ntmps86
  go_wp2_with (first | ((with_reducible refine gate_callee (f := 87) rfl ?_); refine gL (some 26) rfl Try.func87 #[.pointer (some ⟨g, 0, none⟩), .int .i64 11] rfl ?_; (with_reducible refine (octet_Reader_stop.calls g s0_0 s0_1 11 t113 t114 w0 _ ?side1 ?side2 A5.out).mono ?_); (case side1 => repeat (first | (with_reducible first | exact HI0.out | apply ia | apply iN | apply iD | apply i0 | apply i1) | exact HI0.out)); (case side2 => repeat (first | (with_reducible first | exact HB.out | apply ba | apply bN | apply bD | refine bS ?_ (IsS145.ge HI0.out)) | exact HB.out)); rintro e w7 ⟨rfl, hi, hb, hk⟩; refine ⟨_, rfl, ?_⟩; have n0_ := Aside0.mk (KeepBut.trans (by repeat (first | (with_reducible first | exact HK.out | apply kS | apply kN | apply kD | apply kA) | exact HK.out)) hk (.inl rfl)); have n1_ := Aside0.mk (hb); have n2_ := Aside0.mk (hi); clear HK; clear HB; clear HI0; have HK := n0_; have HB := n1_; have HI0 := n2_; clear n0_ n1_ n2_; (try clear hb); (try clear hk hi)))
  go_ret2
  exact ⟨er, by repeat (first | (with_reducible first | exact HI0.out | apply ia | apply iN | apply iD | apply i0 | apply i1) | exact HI0.out), by repeat (first | (with_reducible first | exact HB.out | apply ba | apply bN | apply bD | refine bS ?_ (IsS145.ge HI0.out)) | exact HB.out), by repeat (first | (with_reducible first | exact HK.out | apply kS | apply kN | apply kD | apply kA) | exact HK.out)⟩
 rw [if_neg c4] at H
 have c4b0 : decide ((s0_0.size : Int) < a1) = false := decide_eq_false c4
 clear c4
 by_cases c8 : 0 ≤ a1
 rotate_left
 ·rw [if_neg c8] at H
  exact absurd H (by simp)
 rw [if_pos c8] at H
 have c8b0 := eq_true c8
 have c8b1 : decide (0 ≤ a1) = true := decide_eq_true c8
 clear c8
 by_cases c9 : a1 ≤ (s0_0.size : Int)
 rotate_left
 ·rw [if_neg c9] at H
  exact absurd H (by simp)
 rw [if_pos c9] at H
 have c9b0 := eq_true c9
 have c9b1 : decide (a1 ≤ (s0_0.size : Int)) = true := decide_eq_true c9
 clear c9
 have c10b0 := eq_true (dt : 0 ≤ a1)
 have c11b0 := eq_true (dt : a1 ≤ (s0_0.size : Int))
 simp only [Option.some.injEq, Prod.mk.injEq] at H
 obtain ⟨rfl, rfl, rfl, rfl⟩ := H
 obtain ⟨HGz12, hgz12⟩ := HI0.out
 have hcz12_0 := cellS145_0 HGz12
 have hcz12_1 := cellS145_1 HGz12
 have hfz12_0 := blk_frozen HGz12 0
 have hfz12_1 := blk_frozen HGz12 1
 clear HGz12 hgz12
 go_enter Try.func86, Try.ntmps86
 go_wp2
 go_ret2
 exact ⟨er, by repeat (first | (with_reducible first | exact HI0.out | apply ia | apply iN | apply iD | apply i0 | apply i1) | exact HI0.out), by repeat (first | (with_reducible first | exact HB.out | apply ba | apply bN | apply bD | refine bS ?_ (IsS145.ge HI0.out)) | exact HB.out), by repeat (first | (with_reducible first | exact HK.out | apply kS | apply kN | apply kD | apply kA) | exact HK.out)⟩
def octet_Reader_Num.f (s0_0 : ByteArray) (s0_1 : Int) (a1 : Int) : Option (Int × ByteArray × Int) := (octet_Reader_take.f s0_0 s0_1 4).bind fun bt115 => (if bt115.2.1 = true then (if 0 < (bt115.1.size : Int) then (if 1 < (bt115.1.size : Int) then (if 2 < (bt115.1.size : Int) then (if 3 < (bt115.1.size : Int) then (if (Go.bits .or .i64 (Go.bits .or .i64 (Go.bits .or .i64 (wrap64 ((wrap64 (bt bt115.1 0)) * 16777216)) (wrap64 ((wrap64 (bt bt115.1 1)) * 65536))) (wrap64 ((wrap64 (bt bt115.1 2)) * 256))) (wrap64 (bt bt115.1 3))) > (mn a1 2147483647) then ((octet_Reader_stop.f bt115.2.2.1 bt115.2.2.2 2).bind fun bt119 => (some (0, bt119.1, bt119.2))) else (some (Go.bits .or .i64 (Go.bits .or .i64 (Go.bits .or .i64 (wrap64 ((wrap64 (bt bt115.1 0)) * 16777216)) (wrap64 ((wrap64 (bt bt115.1 1)) * 65536))) (wrap64 ((wrap64 (bt bt115.1 2)) * 256))) (wrap64 (bt bt115.1 3)), bt115.2.2.1, bt115.2.2.2))) else (none)) else (none)) else (none)) else (none)) else (some (0, bt115.2.2.1, bt115.2.2.2)))
theorem octet_Reader_Num.calls (g : Nat) (s0_0 : ByteArray) (s0_1 : Int) (a1 : Int) (r1 : Int) (r2 : ByteArray) (r3 : Int) (w0 w : World) (hI : IsS145 w0 w g s0_0 s0_1) (hB : Below w0.heap.size w0 w) (h : octet_Reader_Num.f s0_0 s0_1 a1 = some (r1, r2, r3)) :
  Calls Try.prog 35 #[.pointer (some ⟨g, 0, none⟩), .int .i64 a1] w fun e w' => e = .returned (.int .i64 r1) ∧ IsS145 w0 w' g r2 r3 ∧ Below w0.heap.size w0 w' ∧ KeepBut w w' g none := by
 have HI0 := Aside0.mk hI
 have HK := Aside0.mk (KeepBut.refl w g none)
 have HL := Aside0.mk hB.size
 clear hI
 have HW0 := Aside0.mk hB.size
 have HB := Aside0.mk hB
 clear hB
 have H : ((octet_Reader_take.f s0_0 s0_1 4).bind fun bt115 => (if bt115.2.1 = true then (if 0 < (bt115.1.size : Int) then (if 1 < (bt115.1.size : Int) then (if 2 < (bt115.1.size : Int) then (if 3 < (bt115.1.size : Int) then (if (Go.bits .or .i64 (Go.bits .or .i64 (Go.bits .or .i64 (wrap64 ((wrap64 (bt bt115.1 0)) * 16777216)) (wrap64 ((wrap64 (bt bt115.1 1)) * 65536))) (wrap64 ((wrap64 (bt bt115.1 2)) * 256))) (wrap64 (bt bt115.1 3))) > (mn a1 2147483647) then ((octet_Reader_stop.f bt115.2.2.1 bt115.2.2.2 2).bind fun bt119 => (some (0, bt119.1, bt119.2))) else (some (Go.bits .or .i64 (Go.bits .or .i64 (Go.bits .or .i64 (wrap64 ((wrap64 (bt bt115.1 0)) * 16777216)) (wrap64 ((wrap64 (bt bt115.1 1)) * 65536))) (wrap64 ((wrap64 (bt bt115.1 2)) * 256))) (wrap64 (bt bt115.1 3)), bt115.2.2.1, bt115.2.2.2))) else (none)) else (none)) else (none)) else (none)) else (some (0, bt115.2.2.1, bt115.2.2.2)))) = some (r1, r2, r3) := h
 clear h
 obtain ⟨⟨t115, t116, t117, t118⟩, A3, H⟩ := bm2 H
 try dsimp only at H
 by_cases c4 : t116 = true
 rotate_left
 ·replace c4 := Bool.eq_false_iff.mpr c4
  subst c4
  have H1 : (some (0, t117, t118)) = some (r1, r2, r3) := by rw [if_neg (show ¬ (false = true) by decide)] at H; exact H
  clear H
  have H := H1
  clear H1
  simp only [Option.some.injEq, Prod.mk.injEq] at H
  obtain ⟨rfl, rfl, rfl⟩ := H
  go_enter Try.func35, Try.ntmps35
  go_wp2_with (first | (go_at_call 86; (with_reducible refine (octet_Reader_take.calls g s0_0 s0_1 4 t115 false t117 t118 w0 _ ?side1 ?side2 A3.out).mono ?_); (case side1 => repeat (first | (with_reducible first | exact HI0.out | apply ia | apply iN | apply iD | apply i0 | apply i1) | exact HI0.out)); (case side2 => repeat (first | (with_reducible first | exact HB.out | apply ba | apply bN | apply bD | refine bS ?_ (IsS145.ge HI0.out)) | exact HB.out)); rintro e w19 ⟨rfl, hi, hb, hk⟩; have n0_ := Aside0.mk (KeepBut.trans (by repeat (first | (with_reducible first | exact HK.out | apply kS | apply kN | apply kD | apply kA) | exact HK.out)) hk (.inl rfl)); have n1_ := Aside0.mk (hb); have n2_ := Aside0.mk (hi); clear HK; clear HB; clear HI0; have HK := n0_; have HB := n1_; have HI0 := n2_; clear n0_ n1_ n2_; (try clear hb); (try clear hk hi)))
  repeat (go_quiet (first | (go_at_call 86; (with_reducible refine (octet_Reader_take.calls g s0_0 s0_1 4 t115 false t117 t118 w0 _ ?side1 ?side2 A3.out).mono ?_); (case side1 => repeat (first | (with_reducible first | exact HI0.out | apply ia | apply iN | apply iD | apply i0 | apply i1) | exact HI0.out)); (case side2 => repeat (first | (with_reducible first | exact HB.out | apply ba | apply bN | apply bD | refine bS ?_ (IsS145.ge HI0.out)) | exact HB.out)); rintro e w19 ⟨rfl, hi, hb, hk⟩; have n0_ := Aside0.mk (KeepBut.trans (by repeat (first | (with_reducible first | exact HK.out | apply kS | apply kN | apply kD | apply kA) | exact HK.out)) hk (.inl rfl)); have n1_ := Aside0.mk (hb); have n2_ := Aside0.mk (hi); clear HK; clear HB; clear HI0; have HK := n0_; have HB := n1_; have HI0 := n2_; clear n0_ n1_ n2_; (try clear hb); (try clear hk hi))); try go_wp2_with (first | (go_at_call 86; (with_reducible refine (octet_Reader_take.calls g s0_0 s0_1 4 t115 false t117 t118 w0 _ ?side1 ?side2 A3.out).mono ?_); (case side1 => repeat (first | (with_reducible first | exact HI0.out | apply ia | apply iN | apply iD | apply i0 | apply i1) | exact HI0.out)); (case side2 => repeat (first | (with_reducible first | exact HB.out | apply ba | apply bN | apply bD | refine bS ?_ (IsS145.ge HI0.out)) | exact HB.out)); rintro e w19 ⟨rfl, hi, hb, hk⟩; have n0_ := Aside0.mk (KeepBut.trans (by repeat (first | (with_reducible first | exact HK.out | apply kS | apply kN | apply kD | apply kA) | exact HK.out)) hk (.inl rfl)); have n1_ := Aside0.mk (hb); have n2_ := Aside0.mk (hi); clear HK; clear HB; clear HI0; have HK := n0_; have HB := n1_; have HI0 := n2_; clear n0_ n1_ n2_; (try clear hb); (try clear hk hi))))
  go_ret
  exact ⟨er, by repeat (first | (with_reducible first | exact HI0.out | apply ia | apply iN | apply iD | apply i0 | apply i1) | exact HI0.out), by repeat (first | (with_reducible first | exact HB.out | apply ba | apply bN | apply bD | refine bS ?_ (IsS145.ge HI0.out)) | exact HB.out), by repeat (first | (with_reducible first | exact HK.out | apply kS | apply kN | apply kD | apply kA) | exact HK.out)⟩

 subst c4
 have H1 : (if 0 < (t115.size : Int) then (if 1 < (t115.size : Int) then (if 2 < (t115.size : Int) then (if 3 < (t115.size : Int) then (if (Go.bits .or .i64 (Go.bits .or .i64 (Go.bits .or .i64 (wrap64 ((wrap64 (bt t115 0)) * 16777216)) (wrap64 ((wrap64 (bt t115 1)) * 65536))) (wrap64 ((wrap64 (bt t115 2)) * 256))) (wrap64 (bt t115 3))) > (mn a1 2147483647) then ((octet_Reader_stop.f t117 t118 2).bind fun bt119 => (some (0, bt119.1, bt119.2))) else (some (Go.bits .or .i64 (Go.bits .or .i64 (Go.bits .or .i64 (wrap64 ((wrap64 (bt t115 0)) * 16777216)) (wrap64 ((wrap64 (bt t115 1)) * 65536))) (wrap64 ((wrap64 (bt t115 2)) * 256))) (wrap64 (bt t115 3)), t117, t118))) else (none)) else (none)) else (none)) else (none)) = some (r1, r2, r3) := by rw [if_pos rfl] at H; exact H
 clear H
 have H := H1
 clear H1
 by_cases c5 : 0 < (t115.size : Int)
 rotate_left
 ·rw [if_neg c5] at H
  exact absurd H (by simp)
 rw [if_pos c5] at H
 have c5b0 : decide (0 < (t115.size : Int)) = true := decide_eq_true c5
 have c5b1 : decide (0 < t115.size) = true := decide_eq_true (by omega)
 clear c5
 by_cases c7 : 1 < (t115.size : Int)
 rotate_left
 ·rw [if_neg c7] at H
  exact absurd H (by simp)
 rw [if_pos c7] at H
 have c7b0 : decide (1 < (t115.size : Int)) = true := decide_eq_true c7
 have c7b1 : decide (1 < t115.size) = true := decide_eq_true (by omega)
 clear c7
 by_cases c9 : 2 < (t115.size : Int)
 rotate_left
 ·rw [if_neg c9] at H
  exact absurd H (by simp)
 rw [if_pos c9] at H
 have c9b0 : decide (2 < (t115.size : Int)) = true := decide_eq_true c9
 have c9b1 : decide (2 < t115.size) = true := decide_eq_true (by omega)
 clear c9
 by_cases c11 : 3 < (t115.size : Int)
 rotate_left
 ·rw [if_neg c11] at H
  exact absurd H (by simp)
 rw [if_pos c11] at H
 have c11b0 : decide (3 < (t115.size : Int)) = true := decide_eq_true c11
 have c11b1 : decide (3 < t115.size) = true := decide_eq_true (by omega)
 clear c11
 obtain ⟨ji13, hji13⟩ : ∃ j_ : Int, (mn a1 2147483647) = j_ := ⟨_, rfl⟩
 replace H : (if (Go.bits .or .i64 (Go.bits .or .i64 (Go.bits .or .i64 (wrap64 ((wrap64 (bt t115 0)) * 16777216)) (wrap64 ((wrap64 (bt t115 1)) * 65536))) (wrap64 ((wrap64 (bt t115 2)) * 256))) (wrap64 (bt t115 3))) > (ji13) then ((octet_Reader_stop.f t117 t118 2).bind fun bt119 => (some (0, bt119.1, bt119.2))) else (some (Go.bits .or .i64 (Go.bits .or .i64 (Go.bits .or .i64 (wrap64 ((wrap64 (bt t115 0)) * 16777216)) (wrap64 ((wrap64 (bt t115 1)) * 65536))) (wrap64 ((wrap64 (bt t115 2)) * 256))) (wrap64 (bt t115 3)), t117, t118))) = some (r1, r2, r3) := by first | (rw [hji13] at H; exact H) | (simp only [hji13] at H ⊢; exact H)
 (try rw [hji13] at A3)
 (try (have hji13h : ji13 ≤ 2147483647 := by (rw [← hji13]; unfold mn; (repeat' split) <;> omega)))
 (try (have hji13g : ji13 ≤ 64 := by omega))
 have hji13_ : (if 2147483647 < a1 then 2147483647 else a1) = ji13 := hji13
 by_cases c14 : (Go.bits .or .i64 (Go.bits .or .i64 (Go.bits .or .i64 (wrap64 ((wrap64 (bt t115 0)) * 16777216)) (wrap64 ((wrap64 (bt t115 1)) * 65536))) (wrap64 ((wrap64 (bt t115 2)) * 256))) (wrap64 (bt t115 3))) > (ji13)
 rotate_left
 ·rw [if_neg c14] at H
  have c14b0 : decide ((ji13) < (Go.bits .or .i64 (Go.bits .or .i64 (Go.bits .or .i64 (wrap64 ((wrap64 (bt t115 0)) * 16777216)) (wrap64 ((wrap64 (bt t115 1)) * 65536))) (wrap64 ((wrap64 (bt t115 2)) * 256))) (wrap64 (bt t115 3)))) = false := decide_eq_false c14
  clear c14
  simp only [Option.some.injEq, Prod.mk.injEq] at H
  obtain ⟨rfl, rfl, rfl⟩ := H
  go_enter Try.func35, Try.ntmps35
  go_wp2_with (first | (go_at_call 86; (with_reducible refine (octet_Reader_take.calls g s0_0 s0_1 4 t115 true t117 t118 w0 _ ?side1 ?side2 A3.out).mono ?_); (case side1 => repeat (first | (with_reducible first | exact HI0.out | apply ia | apply iN | apply iD | apply i0 | apply i1) | exact HI0.out)); (case side2 => repeat (first | (with_reducible first | exact HB.out | apply ba | apply bN | apply bD | refine bS ?_ (IsS145.ge HI0.out)) | exact HB.out)); rintro e w18 ⟨rfl, hi, hb, hk⟩; have n0_ := Aside0.mk (KeepBut.trans (by repeat (first | (with_reducible first | exact HK.out | apply kS | apply kN | apply kD | apply kA) | exact HK.out)) hk (.inl rfl)); have n1_ := Aside0.mk (hb); have n2_ := Aside0.mk (hi); clear HK; clear HB; clear HI0; have HK := n0_; have HB := n1_; have HI0 := n2_; clear n0_ n1_ n2_; (try clear hb); (try clear hk hi); have p6 : 0 ≤ (0 : Int) := (by omega); have q6 : 0 < t115.size := (by have : (0 : Int) < (t115.size : Int) := dt; omega); have hx6 : ∀ h : 0 < t115.size, ((t115[0]'h).toNat : Int) = bt t115 0 := bt_at t115 0; clear p6; have qi6 : (0 < (t115.size : Int)) = True := eq_true (dt); replace q6 := eq_true q6; have p8 : 0 ≤ (1 : Int) := (by omega); have q8 : 1 < t115.size := (by have : (1 : Int) < (t115.size : Int) := dt; omega); have hx8 : ∀ h : 1 < t115.size, ((t115[1]'h).toNat : Int) = bt t115 1 := bt_at t115 1; clear p8; have qi8 : (1 < (t115.size : Int)) = True := eq_true (dt); replace q8 := eq_true q8; have p10 : 0 ≤ (2 : Int) := (by omega); have q10 : 2 < t115.size := (by have : (2 : Int) < (t115.size : Int) := dt; omega); have hx10 : ∀ h : 2 < t115.size, ((t115[2]'h).toNat : Int) = bt t115 2 := bt_at t115 2; clear p10; have qi10 : (2 < (t115.size : Int)) = True := eq_true (dt); replace q10 := eq_true q10; have p12 : 0 ≤ (3 : Int) := (by omega); have q12 : 3 < t115.size := (by have : (3 : Int) < (t115.size : Int) := dt; omega); have hx12 : ∀ h : 3 < t115.size, ((t115[3]'h).toNat : Int) = bt t115 3 := bt_at t115 3; clear p12; have qi12 : (3 < (t115.size : Int)) = True := eq_true (dt); replace q12 := eq_true q12))
  repeat (go_quiet (first | (go_at_call 86; (with_reducible refine (octet_Reader_take.calls g s0_0 s0_1 4 t115 true t117 t118 w0 _ ?side1 ?side2 A3.out).mono ?_); (case side1 => repeat (first | (with_reducible first | exact HI0.out | apply ia | apply iN | apply iD | apply i0 | apply i1) | exact HI0.out)); (case side2 => repeat (first | (with_reducible first | exact HB.out | apply ba | apply bN | apply bD | refine bS ?_ (IsS145.ge HI0.out)) | exact HB.out)); rintro e w18 ⟨rfl, hi, hb, hk⟩; have n0_ := Aside0.mk (KeepBut.trans (by repeat (first | (with_reducible first | exact HK.out | apply kS | apply kN | apply kD | apply kA) | exact HK.out)) hk (.inl rfl)); have n1_ := Aside0.mk (hb); have n2_ := Aside0.mk (hi); clear HK; clear HB; clear HI0; have HK := n0_; have HB := n1_; have HI0 := n2_; clear n0_ n1_ n2_; (try clear hb); (try clear hk hi); have p6 : 0 ≤ (0 : Int) := (by omega); have q6 : 0 < t115.size := (by have : (0 : Int) < (t115.size : Int) := dt; omega); have hx6 : ∀ h : 0 < t115.size, ((t115[0]'h).toNat : Int) = bt t115 0 := bt_at t115 0; clear p6; have qi6 : (0 < (t115.size : Int)) = True := eq_true (dt); replace q6 := eq_true q6; have p8 : 0 ≤ (1 : Int) := (by omega); have q8 : 1 < t115.size := (by have : (1 : Int) < (t115.size : Int) := dt; omega); have hx8 : ∀ h : 1 < t115.size, ((t115[1]'h).toNat : Int) = bt t115 1 := bt_at t115 1; clear p8; have qi8 : (1 < (t115.size : Int)) = True := eq_true (dt); replace q8 := eq_true q8; have p10 : 0 ≤ (2 : Int) := (by omega); have q10 : 2 < t115.size := (by have : (2 : Int) < (t115.size : Int) := dt; omega); have hx10 : ∀ h : 2 < t115.size, ((t115[2]'h).toNat : Int) = bt t115 2 := bt_at t115 2; clear p10; have qi10 : (2 < (t115.size : Int)) = True := eq_true (dt); replace q10 := eq_true q10; have p12 : 0 ≤ (3 : Int) := (by omega); have q12 : 3 < t115.size := (by have : (3 : Int) < (t115.size : Int) := dt; omega); have hx12 : ∀ h : 3 < t115.size, ((t115[3]'h).toNat : Int) = bt t115 3 := bt_at t115 3; clear p12; have qi12 : (3 < (t115.size : Int)) = True := eq_true (dt); replace q12 := eq_true q12)); try go_wp2_with (first | (go_at_call 86; (with_reducible refine (octet_Reader_take.calls g s0_0 s0_1 4 t115 true t117 t118 w0 _ ?side1 ?side2 A3.out).mono ?_); (case side1 => repeat (first | (with_reducible first | exact HI0.out | apply ia | apply iN | apply iD | apply i0 | apply i1) | exact HI0.out)); (case side2 => repeat (first | (with_reducible first | exact HB.out | apply ba | apply bN | apply bD | refine bS ?_ (IsS145.ge HI0.out)) | exact HB.out)); rintro e w18 ⟨rfl, hi, hb, hk⟩; have n0_ := Aside0.mk (KeepBut.trans (by repeat (first | (with_reducible first | exact HK.out | apply kS | apply kN | apply kD | apply kA) | exact HK.out)) hk (.inl rfl)); have n1_ := Aside0.mk (hb); have n2_ := Aside0.mk (hi); clear HK; clear HB; clear HI0; have HK := n0_; have HB := n1_; have HI0 := n2_; clear n0_ n1_ n2_; (try clear hb); (try clear hk hi); have p6 : 0 ≤ (0 : Int) := (by omega); have q6 : 0 < t115.size := (by have : (0 : Int) < (t115.size : Int) := dt; omega); have hx6 : ∀ h : 0 < t115.size, ((t115[0]'h).toNat : Int) = bt t115 0 := bt_at t115 0; clear p6; have qi6 : (0 < (t115.size : Int)) = True := eq_true (dt); replace q6 := eq_true q6; have p8 : 0 ≤ (1 : Int) := (by omega); have q8 : 1 < t115.size := (by have : (1 : Int) < (t115.size : Int) := dt; omega); have hx8 : ∀ h : 1 < t115.size, ((t115[1]'h).toNat : Int) = bt t115 1 := bt_at t115 1; clear p8; have qi8 : (1 < (t115.size : Int)) = True := eq_true (dt); replace q8 := eq_true q8; have p10 : 0 ≤ (2 : Int) := (by omega); have q10 : 2 < t115.size := (by have : (2 : Int) < (t115.size : Int) := dt; omega); have hx10 : ∀ h : 2 < t115.size, ((t115[2]'h).toNat : Int) = bt t115 2 := bt_at t115 2; clear p10; have qi10 : (2 < (t115.size : Int)) = True := eq_true (dt); replace q10 := eq_true q10; have p12 : 0 ≤ (3 : Int) := (by omega); have q12 : 3 < t115.size := (by have : (3 : Int) < (t115.size : Int) := dt; omega); have hx12 : ∀ h : 3 < t115.size, ((t115[3]'h).toNat : Int) = bt t115 3 := bt_at t115 3; clear p12; have qi12 : (3 < (t115.size : Int)) = True := eq_true (dt); replace q12 := eq_true q12)))
  go_ret
  exact ⟨by first | rfl | (simp [errW_none, errW_some] <;> rfl) | (simp only [← hji13]; first | rfl | (simp [errW_none, errW_some] <;> rfl)) | (simp [*, errW_none, errW_some] <;> rfl), by repeat (first | (with_reducible first | exact HI0.out | apply ia | apply iN | apply iD | apply i0 | apply i1) | exact HI0.out), by repeat (first | (with_reducible first | exact HB.out | apply ba | apply bN | apply bD | refine bS ?_ (IsS145.ge HI0.out)) | exact HB.out), by repeat (first | (with_reducible first | exact HK.out | apply kS | apply kN | apply kD | apply kA) | exact HK.out)⟩
 rw [if_pos c14] at H
 have c14b0 : decide ((ji13) < (Go.bits .or .i64 (Go.bits .or .i64 (Go.bits .or .i64 (wrap64 ((wrap64 (bt t115 0)) * 16777216)) (wrap64 ((wrap64 (bt t115 1)) * 65536))) (wrap64 ((wrap64 (bt t115 2)) * 256))) (wrap64 (bt t115 3)))) = true := decide_eq_true c14
 clear c14
 obtain ⟨⟨t119, t120⟩, A15, H⟩ := bm2 H
 try dsimp only at H
 simp only [Option.some.injEq, Prod.mk.injEq] at H
 obtain ⟨rfl, rfl, rfl⟩ := H
 go_enter Try.func35, Try.ntmps35
 go_wp2_with (first | (go_at_call 86; (with_reducible refine (octet_Reader_take.calls g s0_0 s0_1 4 t115 true t117 t118 w0 _ ?side1 ?side2 A3.out).mono ?_); (case side1 => repeat (first | (with_reducible first | exact HI0.out | apply ia | apply iN | apply iD | apply i0 | apply i1) | exact HI0.out)); (case side2 => repeat (first | (with_reducible first | exact HB.out | apply ba | apply bN | apply bD | refine bS ?_ (IsS145.ge HI0.out)) | exact HB.out)); rintro e w16 ⟨rfl, hi, hb, hk⟩; have n0_ := Aside0.mk (KeepBut.trans (by repeat (first | (with_reducible first | exact HK.out | apply kS | apply kN | apply kD | apply kA) | exact HK.out)) hk (.inl rfl)); have n1_ := Aside0.mk (hb); have n2_ := Aside0.mk (hi); clear HK; clear HB; clear HI0; have HK := n0_; have HB := n1_; have HI0 := n2_; clear n0_ n1_ n2_; (try clear hb); (try clear hk hi); have p6 : 0 ≤ (0 : Int) := (by omega); have q6 : 0 < t115.size := (by have : (0 : Int) < (t115.size : Int) := dt; omega); have hx6 : ∀ h : 0 < t115.size, ((t115[0]'h).toNat : Int) = bt t115 0 := bt_at t115 0; clear p6; have qi6 : (0 < (t115.size : Int)) = True := eq_true (dt); replace q6 := eq_true q6; have p8 : 0 ≤ (1 : Int) := (by omega); have q8 : 1 < t115.size := (by have : (1 : Int) < (t115.size : Int) := dt; omega); have hx8 : ∀ h : 1 < t115.size, ((t115[1]'h).toNat : Int) = bt t115 1 := bt_at t115 1; clear p8; have qi8 : (1 < (t115.size : Int)) = True := eq_true (dt); replace q8 := eq_true q8; have p10 : 0 ≤ (2 : Int) := (by omega); have q10 : 2 < t115.size := (by have : (2 : Int) < (t115.size : Int) := dt; omega); have hx10 : ∀ h : 2 < t115.size, ((t115[2]'h).toNat : Int) = bt t115 2 := bt_at t115 2; clear p10; have qi10 : (2 < (t115.size : Int)) = True := eq_true (dt); replace q10 := eq_true q10; have p12 : 0 ≤ (3 : Int) := (by omega); have q12 : 3 < t115.size := (by have : (3 : Int) < (t115.size : Int) := dt; omega); have hx12 : ∀ h : 3 < t115.size, ((t115[3]'h).toNat : Int) = bt t115 3 := bt_at t115 3; clear p12; have qi12 : (3 < (t115.size : Int)) = True := eq_true (dt); replace q12 := eq_true q12) | (go_at_call 87; (with_reducible refine (octet_Reader_stop.calls g t117 t118 2 t119 t120 w0 _ ?side1 ?side2 A15.out).mono ?_); (case side1 => repeat (first | (with_reducible first | exact HI0.out | apply ia | apply iN | apply iD | apply i0 | apply i1) | exact HI0.out)); (case side2 => repeat (first | (with_reducible first | exact HB.out | apply ba | apply bN | apply bD | refine bS ?_ (IsS145.ge HI0.out)) | exact HB.out)); rintro e w17 ⟨rfl, hi, hb, hk⟩; have n0_ := Aside0.mk (KeepBut.trans (by repeat (first | (with_reducible first | exact HK.out | apply kS | apply kN | apply kD | apply kA) | exact HK.out)) hk (.inl rfl)); have n1_ := Aside0.mk (hb); have n2_ := Aside0.mk (hi); clear HK; clear HB; clear HI0; have HK := n0_; have HB := n1_; have HI0 := n2_; clear n0_ n1_ n2_; (try clear hb); (try clear hk hi)))
 repeat (go_quiet (first | (go_at_call 86; (with_reducible refine (octet_Reader_take.calls g s0_0 s0_1 4 t115 true t117 t118 w0 _ ?side1 ?side2 A3.out).mono ?_); (case side1 => repeat (first | (with_reducible first | exact HI0.out | apply ia | apply iN | apply iD | apply i0 | apply i1) | exact HI0.out)); (case side2 => repeat (first | (with_reducible first | exact HB.out | apply ba | apply bN | apply bD | refine bS ?_ (IsS145.ge HI0.out)) | exact HB.out)); rintro e w16 ⟨rfl, hi, hb, hk⟩; have n0_ := Aside0.mk (KeepBut.trans (by repeat (first | (with_reducible first | exact HK.out | apply kS | apply kN | apply kD | apply kA) | exact HK.out)) hk (.inl rfl)); have n1_ := Aside0.mk (hb); have n2_ := Aside0.mk (hi); clear HK; clear HB; clear HI0; have HK := n0_; have HB := n1_; have HI0 := n2_; clear n0_ n1_ n2_; (try clear hb); (try clear hk hi); have p6 : 0 ≤ (0 : Int) := (by omega); have q6 : 0 < t115.size := (by have : (0 : Int) < (t115.size : Int) := dt; omega); have hx6 : ∀ h : 0 < t115.size, ((t115[0]'h).toNat : Int) = bt t115 0 := bt_at t115 0; clear p6; have qi6 : (0 < (t115.size : Int)) = True := eq_true (dt); replace q6 := eq_true q6; have p8 : 0 ≤ (1 : Int) := (by omega); have q8 : 1 < t115.size := (by have : (1 : Int) < (t115.size : Int) := dt; omega); have hx8 : ∀ h : 1 < t115.size, ((t115[1]'h).toNat : Int) = bt t115 1 := bt_at t115 1; clear p8; have qi8 : (1 < (t115.size : Int)) = True := eq_true (dt); replace q8 := eq_true q8; have p10 : 0 ≤ (2 : Int) := (by omega); have q10 : 2 < t115.size := (by have : (2 : Int) < (t115.size : Int) := dt; omega); have hx10 : ∀ h : 2 < t115.size, ((t115[2]'h).toNat : Int) = bt t115 2 := bt_at t115 2; clear p10; have qi10 : (2 < (t115.size : Int)) = True := eq_true (dt); replace q10 := eq_true q10; have p12 : 0 ≤ (3 : Int) := (by omega); have q12 : 3 < t115.size := (by have : (3 : Int) < (t115.size : Int) := dt; omega); have hx12 : ∀ h : 3 < t115.size, ((t115[3]'h).toNat : Int) = bt t115 3 := bt_at t115 3; clear p12; have qi12 : (3 < (t115.size : Int)) = True := eq_true (dt); replace q12 := eq_true q12) | (go_at_call 87; (with_reducible refine (octet_Reader_stop.calls g t117 t118 2 t119 t120 w0 _ ?side1 ?side2 A15.out).mono ?_); (case side1 => repeat (first | (with_reducible first | exact HI0.out | apply ia | apply iN | apply iD | apply i0 | apply i1) | exact HI0.out)); (case side2 => repeat (first | (with_reducible first | exact HB.out | apply ba | apply bN | apply bD | refine bS ?_ (IsS145.ge HI0.out)) | exact HB.out)); rintro e w17 ⟨rfl, hi, hb, hk⟩; have n0_ := Aside0.mk (KeepBut.trans (by repeat (first | (with_reducible first | exact HK.out | apply kS | apply kN | apply kD | apply kA) | exact HK.out)) hk (.inl rfl)); have n1_ := Aside0.mk (hb); have n2_ := Aside0.mk (hi); clear HK; clear HB; clear HI0; have HK := n0_; have HB := n1_; have HI0 := n2_; clear n0_ n1_ n2_; (try clear hb); (try clear hk hi))); try go_wp2_with (first | (go_at_call 86; (with_reducible refine (octet_Reader_take.calls g s0_0 s0_1 4 t115 true t117 t118 w0 _ ?side1 ?side2 A3.out).mono ?_); (case side1 => repeat (first | (with_reducible first | exact HI0.out | apply ia | apply iN | apply iD | apply i0 | apply i1) | exact HI0.out)); (case side2 => repeat (first | (with_reducible first | exact HB.out | apply ba | apply bN | apply bD | refine bS ?_ (IsS145.ge HI0.out)) | exact HB.out)); rintro e w16 ⟨rfl, hi, hb, hk⟩; have n0_ := Aside0.mk (KeepBut.trans (by repeat (first | (with_reducible first | exact HK.out | apply kS | apply kN | apply kD | apply kA) | exact HK.out)) hk (.inl rfl)); have n1_ := Aside0.mk (hb); have n2_ := Aside0.mk (hi); clear HK; clear HB; clear HI0; have HK := n0_; have HB := n1_; have HI0 := n2_; clear n0_ n1_ n2_; (try clear hb); (try clear hk hi); have p6 : 0 ≤ (0 : Int) := (by omega); have q6 : 0 < t115.size := (by have : (0 : Int) < (t115.size : Int) := dt; omega); have hx6 : ∀ h : 0 < t115.size, ((t115[0]'h).toNat : Int) = bt t115 0 := bt_at t115 0; clear p6; have qi6 : (0 < (t115.size : Int)) = True := eq_true (dt); replace q6 := eq_true q6; have p8 : 0 ≤ (1 : Int) := (by omega); have q8 : 1 < t115.size := (by have : (1 : Int) < (t115.size : Int) := dt; omega); have hx8 : ∀ h : 1 < t115.size, ((t115[1]'h).toNat : Int) = bt t115 1 := bt_at t115 1; clear p8; have qi8 : (1 < (t115.size : Int)) = True := eq_true (dt); replace q8 := eq_true q8; have p10 : 0 ≤ (2 : Int) := (by omega); have q10 : 2 < t115.size := (by have : (2 : Int) < (t115.size : Int) := dt; omega); have hx10 : ∀ h : 2 < t115.size, ((t115[2]'h).toNat : Int) = bt t115 2 := bt_at t115 2; clear p10; have qi10 : (2 < (t115.size : Int)) = True := eq_true (dt); replace q10 := eq_true q10; have p12 : 0 ≤ (3 : Int) := (by omega); have q12 : 3 < t115.size := (by have : (3 : Int) < (t115.size : Int) := dt; omega); have hx12 : ∀ h : 3 < t115.size, ((t115[3]'h).toNat : Int) = bt t115 3 := bt_at t115 3; clear p12; have qi12 : (3 < (t115.size : Int)) = True := eq_true (dt); replace q12 := eq_true q12) | (go_at_call 87; (with_reducible refine (octet_Reader_stop.calls g t117 t118 2 t119 t120 w0 _ ?side1 ?side2 A15.out).mono ?_); (case side1 => repeat (first | (with_reducible first | exact HI0.out | apply ia | apply iN | apply iD | apply i0 | apply i1) | exact HI0.out)); (case side2 => repeat (first | (with_reducible first | exact HB.out | apply ba | apply bN | apply bD | refine bS ?_ (IsS145.ge HI0.out)) | exact HB.out)); rintro e w17 ⟨rfl, hi, hb, hk⟩; have n0_ := Aside0.mk (KeepBut.trans (by repeat (first | (with_reducible first | exact HK.out | apply kS | apply kN | apply kD | apply kA) | exact HK.out)) hk (.inl rfl)); have n1_ := Aside0.mk (hb); have n2_ := Aside0.mk (hi); clear HK; clear HB; clear HI0; have HK := n0_; have HB := n1_; have HI0 := n2_; clear n0_ n1_ n2_; (try clear hb); (try clear hk hi))))
 go_ret
 exact ⟨by first | rfl | (simp [errW_none, errW_some] <;> rfl) | (simp only [← hji13]; first | rfl | (simp [errW_none, errW_some] <;> rfl)) | (simp [*, errW_none, errW_some] <;> rfl), by repeat (first | (with_reducible first | exact HI0.out | apply ia | apply iN | apply iD | apply i0 | apply i1) | exact HI0.out), by repeat (first | (with_reducible first | exact HB.out | apply ba | apply bN | apply bD | refine bS ?_ (IsS145.ge HI0.out)) | exact HB.out), by repeat (first | (with_reducible first | exact HK.out | apply kS | apply kN | apply kD | apply kA) | exact HK.out)⟩
def octet_Reader_Fail.f (s0_0 : ByteArray) (s0_1 : Int) : Option (Int × ByteArray × Int) := some (s0_1, s0_0, s0_1)
theorem octet_Reader_Fail.calls (g : Nat) (s0_0 : ByteArray) (s0_1 : Int) (r1 : Int) (r2 : ByteArray) (r3 : Int) (w0 w : World) (hI : IsS145 w0 w g s0_0 s0_1) (hB : Below w0.heap.size w0 w) (h : octet_Reader_Fail.f s0_0 s0_1 = some (r1, r2, r3)) :
  Calls Try.prog 88 #[.pointer (some ⟨g, 0, none⟩)] w fun e w' => e = .returned (.int .i64 r1) ∧ IsS145 w0 w' g r2 r3 ∧ Below w0.heap.size w0 w' ∧ KeepBut w w' g none := by
 have HI0 := Aside0.mk hI
 have HK := Aside0.mk (KeepBut.refl w g none)
 have HL := Aside0.mk hB.size
 clear hI
 have HW0 := Aside0.mk hB.size
 have HB := Aside0.mk hB
 clear hB
 have H : (some (s0_1, s0_0, s0_1)) = some (r1, r2, r3) := h
 clear h
 simp only [Option.some.injEq, Prod.mk.injEq] at H
 obtain ⟨rfl, rfl, rfl⟩ := H
 obtain ⟨HGz2, hgz2⟩ := HI0.out
 have hcz2_0 := cellS145_0 HGz2
 have hcz2_1 := cellS145_1 HGz2
 have hfz2_0 := blk_frozen HGz2 0
 have hfz2_1 := blk_frozen HGz2 1
 clear HGz2 hgz2
 go_enter Try.func88, Try.ntmps88
 go_wp2
 go_ret
 exact ⟨er, by repeat (first | (with_reducible first | exact HI0.out | apply ia | apply iN | apply iD | apply i0 | apply i1) | exact HI0.out), by repeat (first | (with_reducible first | exact HB.out | apply ba | apply bN | apply bD | refine bS ?_ (IsS145.ge HI0.out)) | exact HB.out), by repeat (first | (with_reducible first | exact HK.out | apply kS | apply kN | apply kD | apply kA) | exact HK.out)⟩

def octet_Reader_End.f (s0_0 : ByteArray) (s0_1 : Int) : Option (Int × ByteArray × Int) := (octet_Reader_Fail.f s0_0 s0_1).bind fun bt121 => (if bt121.1 = 0 then (if (bt121.2.1.size : Int) > 0 then (some (3, bt121.2.1, bt121.2.2)) else (some (0, bt121.2.1, bt121.2.2))) else ((octet_Reader_Fail.f bt121.2.1 bt121.2.2).bind fun bt124 => (some (bt124.1, bt124.2.1, bt124.2.2))))
theorem octet_Reader_End.calls (g : Nat) (s0_0 : ByteArray) (s0_1 : Int) (r1 : Int) (r2 : ByteArray) (r3 : Int) (w0 w : World) (hI : IsS145 w0 w g s0_0 s0_1) (hB : Below w0.heap.size w0 w) (h : octet_Reader_End.f s0_0 s0_1 = some (r1, r2, r3)) :
  Calls Try.prog 36 #[.pointer (some ⟨g, 0, none⟩)] w fun e w' => e = .returned (.int .i64 r1) ∧ IsS145 w0 w' g r2 r3 ∧ Below w0.heap.size w0 w' ∧ KeepBut w w' g none := by
 have HI0 := Aside0.mk hI
 have HK := Aside0.mk (KeepBut.refl w g none)
 have HL := Aside0.mk hB.size
 clear hI
 have HW0 := Aside0.mk hB.size
 have HB := Aside0.mk hB
 clear hB
 have H : ((octet_Reader_Fail.f s0_0 s0_1).bind fun bt121 => (if bt121.1 = 0 then (if (bt121.2.1.size : Int) > 0 then (some (3, bt121.2.1, bt121.2.2)) else (some (0, bt121.2.1, bt121.2.2))) else ((octet_Reader_Fail.f bt121.2.1 bt121.2.2).bind fun bt124 => (some (bt124.1, bt124.2.1, bt124.2.2))))) = some (r1, r2, r3) := h
 clear h
 obtain ⟨⟨t121, t122, t123⟩, A2, H⟩ := bm2 H
 try dsimp only at H
 by_cases c3 : t121 = 0
 rotate_left
 ·rw [if_neg c3] at H
  have c3b0 : (t121 == 0) = false := beq_eq_false_iff_ne.mpr c3
  have c3b1 : (t121 != 0) = true := bne_iff_ne.mpr c3
  obtain ⟨⟨t124, t125, t126⟩, A9, H⟩ := bm2 H
  try dsimp only at H
  simp only [Option.some.injEq, Prod.mk.injEq] at H
  obtain ⟨rfl, rfl, rfl⟩ := H
  go_enter Try.func36, Try.ntmps36
  go_wp2_with (first | ((with_reducible refine gate_callee (f := 88) rfl ?_); refine gL (some 5) rfl Try.func88 #[.pointer (some ⟨g, 0, none⟩)] rfl ?_; (with_reducible refine (octet_Reader_Fail.calls g s0_0 s0_1 t121 t122 t123 w0 _ ?side1 ?side2 A2.out).mono ?_); (case side1 => repeat (first | (with_reducible first | exact HI0.out | apply ia | apply iN | apply iD | apply i0 | apply i1) | exact HI0.out)); (case side2 => repeat (first | (with_reducible first | exact HB.out | apply ba | apply bN | apply bD | refine bS ?_ (IsS145.ge HI0.out)) | exact HB.out)); rintro e w10 ⟨rfl, hi, hb, hk⟩; refine ⟨_, rfl, ?_⟩; have n0_ := Aside0.mk (KeepBut.trans (by repeat (first | (with_reducible first | exact HK.out | apply kS | apply kN | apply kD | apply kA) | exact HK.out)) hk (.inl rfl)); have n1_ := Aside0.mk (hb); have n2_ := Aside0.mk (hi); clear HK; clear HB; clear HI0; have HK := n0_; have HB := n1_; have HI0 := n2_; clear n0_ n1_ n2_; (try clear hb); (try clear hk hi)) | ((with_reducible refine gate_callee (f := 88) rfl ?_); refine gL (some 8) rfl Try.func88 #[.pointer (some ⟨g, 0, none⟩)] rfl ?_; (with_reducible refine (octet_Reader_Fail.calls g t122 t123 t124 t125 t126 w0 _ ?side1 ?side2 A9.out).mono ?_); (case side1 => repeat (first | (with_reducible first | exact HI0.out | apply ia | apply iN | apply iD | apply i0 | apply i1) | exact HI0.out)); (case side2 => repeat (first | (with_reducible first | exact HB.out | apply ba | apply bN | apply bD | refine bS ?_ (IsS145.ge HI0.out)) | exact HB.out)); rintro e w11 ⟨rfl, hi, hb, hk⟩; refine ⟨_, rfl, ?_⟩; have n0_ := Aside0.mk (KeepBut.trans (by repeat (first | (with_reducible first | exact HK.out | apply kS | apply kN | apply kD | apply kA) | exact HK.out)) hk (.inl rfl)); have n1_ := Aside0.mk (hb); have n2_ := Aside0.mk (hi); clear HK; clear HB; clear HI0; have HK := n0_; have HB := n1_; have HI0 := n2_; clear n0_ n1_ n2_; (try clear hb); (try clear hk hi)))
  go_ret
  exact ⟨er, by repeat (first | (with_reducible first | exact HI0.out | apply ia | apply iN | apply iD | apply i0 | apply i1) | exact HI0.out), by repeat (first | (with_reducible first | exact HB.out | apply ba | apply bN | apply bD | refine bS ?_ (IsS145.ge HI0.out)) | exact HB.out), by repeat (first | (with_reducible first | exact HK.out | apply kS | apply kN | apply kD | apply kA) | exact HK.out)⟩

 rw [if_pos c3] at H
 have c3b0 : (t121 == 0) = true := beq_iff_eq.mpr c3
 have c3b1 : (t121 != 0) = false := bne_eq_false_iff_eq.mpr c3
 clear c3
 by_cases c4 : (t122.size : Int) > 0
 ·rw [if_pos c4] at H
  have c4b0 : decide (0 < (t122.size : Int)) = true := decide_eq_true c4
  have c4b1 : decide (0 < t122.size) = true := decide_eq_true (by omega)
  clear c4
  simp only [Option.some.injEq, Prod.mk.injEq] at H
  obtain ⟨rfl, rfl, rfl⟩ := H
  go_enter Try.func36, Try.ntmps36
  go_wp2_with (first | ((with_reducible refine gate_callee (f := 88) rfl ?_); refine gL (some 5) rfl Try.func88 #[.pointer (some ⟨g, 0, none⟩)] rfl ?_; (with_reducible refine (octet_Reader_Fail.calls g s0_0 s0_1 t121 t122 t123 w0 _ ?side1 ?side2 A2.out).mono ?_); (case side1 => repeat (first | (with_reducible first | exact HI0.out | apply ia | apply iN | apply iD | apply i0 | apply i1) | exact HI0.out)); (case side2 => repeat (first | (with_reducible first | exact HB.out | apply ba | apply bN | apply bD | refine bS ?_ (IsS145.ge HI0.out)) | exact HB.out)); rintro e w5 ⟨rfl, hi, hb, hk⟩; refine ⟨_, rfl, ?_⟩; have n0_ := Aside0.mk (KeepBut.trans (by repeat (first | (with_reducible first | exact HK.out | apply kS | apply kN | apply kD | apply kA) | exact HK.out)) hk (.inl rfl)); have n1_ := Aside0.mk (hb); have n2_ := Aside0.mk (hi); clear HK; clear HB; clear HI0; have HK := n0_; have HB := n1_; have HI0 := n2_; clear n0_ n1_ n2_; (try clear hb); (try clear hk hi); obtain ⟨HGz6, hgz6⟩ := HI0.out; have hcz6_0 := cellS145_0 HGz6; have hcz6_1 := cellS145_1 HGz6; have hfz6_0 := blk_frozen HGz6 0; have hfz6_1 := blk_frozen HGz6 1; clear HGz6 hgz6))
  go_ret
  exact ⟨er, by repeat (first | (with_reducible first | exact HI0.out | apply ia | apply iN | apply iD | apply i0 | apply i1) | exact HI0.out), by repeat (first | (with_reducible first | exact HB.out | apply ba | apply bN | apply bD | refine bS ?_ (IsS145.ge HI0.out)) | exact HB.out), by repeat (first | (with_reducible first | exact HK.out | apply kS | apply kN | apply kD | apply kA) | exact HK.out)⟩
 rw [if_neg c4] at H
 have c4b0 : decide (0 < (t122.size : Int)) = false := decide_eq_false c4
 have c4b1 : decide (0 < t122.size) = false := decide_eq_false (by omega)
 clear c4
 simp only [Option.some.injEq, Prod.mk.injEq] at H
 obtain ⟨rfl, rfl, rfl⟩ := H
 go_enter Try.func36, Try.ntmps36
 go_wp2_with (first | ((with_reducible refine gate_callee (f := 88) rfl ?_); refine gL (some 5) rfl Try.func88 #[.pointer (some ⟨g, 0, none⟩)] rfl ?_; (with_reducible refine (octet_Reader_Fail.calls g s0_0 s0_1 t121 t122 t123 w0 _ ?side1 ?side2 A2.out).mono ?_); (case side1 => repeat (first | (with_reducible first | exact HI0.out | apply ia | apply iN | apply iD | apply i0 | apply i1) | exact HI0.out)); (case side2 => repeat (first | (with_reducible first | exact HB.out | apply ba | apply bN | apply bD | refine bS ?_ (IsS145.ge HI0.out)) | exact HB.out)); rintro e w7 ⟨rfl, hi, hb, hk⟩; refine ⟨_, rfl, ?_⟩; have n0_ := Aside0.mk (KeepBut.trans (by repeat (first | (with_reducible first | exact HK.out | apply kS | apply kN | apply kD | apply kA) | exact HK.out)) hk (.inl rfl)); have n1_ := Aside0.mk (hb); have n2_ := Aside0.mk (hi); clear HK; clear HB; clear HI0; have HK := n0_; have HB := n1_; have HI0 := n2_; clear n0_ n1_ n2_; (try clear hb); (try clear hk hi); obtain ⟨HGz8, hgz8⟩ := HI0.out; have hcz8_0 := cellS145_0 HGz8; have hcz8_1 := cellS145_1 HGz8; have hfz8_0 := blk_frozen HGz8 0; have hfz8_1 := blk_frozen HGz8 1; clear HGz8 hgz8))
 go_ret
 exact ⟨er, by repeat (first | (with_reducible first | exact HI0.out | apply ia | apply iN | apply iD | apply i0 | apply i1) | exact HI0.out), by repeat (first | (with_reducible first | exact HB.out | apply ba | apply bN | apply bD | refine bS ?_ (IsS145.ge HI0.out)) | exact HB.out), by repeat (first | (with_reducible first | exact HK.out | apply kS | apply kN | apply kD | apply kA) | exact HK.out)⟩
def proof_ReadParams.f (a0 : ByteArray) : Option (Int × Int × Int × Int × Int) := (proof_ask.f a0).bind fun t128 => (if t128 = 0 then ((octet_Read.f a0).bind fun bt129 => ((octet_Reader_Num.f bt129.1 bt129.2 1048576).bind fun bt132 => ((octet_Reader_Num.f bt132.2.1 bt132.2.2 1048576).bind fun bt135 => ((octet_Reader_Num.f bt135.2.1 bt135.2.2 1048576).bind fun bt138 => ((octet_Reader_Num.f bt138.2.1 bt138.2.2 1048576).bind fun bt141 => ((octet_Reader_End.f bt141.2.1 bt141.2.2).bind fun bt145 => (if bt145.1 = 0 then ((proof_Fits.f bt132.1 bt135.1 bt138.1 bt141.1).bind fun t148 => (if t148 = true then (some (bt132.1, bt135.1, bt138.1, bt141.1, 0)) else (some (0, 0, 0, 0, 3)))) else (some (0, 0, 0, 0, 3))))))))) else (some (0, 0, 0, 0, t128)))
theorem proof_ReadParams.calls (a0 : ByteArray) (r1 : Int) (r2 : Int) (r3 : Int) (r4 : Int) (r5 : Int) (w : World) (h : proof_ReadParams.f a0 = some (r1, r2, r3, r4, r5)) :
  Calls Try.prog 11 #[.string a0] w fun e w' => e = .returned (.tuple #[.agg #[.int .i64 r1, .int .i64 r2, .int .i64 r3, .int .i64 r4], .int .i64 r5]) ∧ Below w.heap.size w w' := by
 have hu23 := Try.underlying23
 have HB := Aside0.mk (Below.refl w.heap.size w)
 have H : ((proof_ask.f a0).bind fun t128 => (if t128 = 0 then ((octet_Read.f a0).bind fun bt129 => ((octet_Reader_Num.f bt129.1 bt129.2 1048576).bind fun bt132 => ((octet_Reader_Num.f bt132.2.1 bt132.2.2 1048576).bind fun bt135 => ((octet_Reader_Num.f bt135.2.1 bt135.2.2 1048576).bind fun bt138 => ((octet_Reader_Num.f bt138.2.1 bt138.2.2 1048576).bind fun bt141 => ((octet_Reader_End.f bt141.2.1 bt141.2.2).bind fun bt145 => (if bt145.1 = 0 then ((proof_Fits.f bt132.1 bt135.1 bt138.1 bt141.1).bind fun t148 => (if t148 = true then (some (bt132.1, bt135.1, bt138.1, bt141.1, 0)) else (some (0, 0, 0, 0, 3)))) else (some (0, 0, 0, 0, 3))))))))) else (some (0, 0, 0, 0, t128)))) = some (r1, r2, r3, r4, r5) := h
 clear h
 obtain ⟨t128, A2, H⟩ := bm2 H
 try dsimp only at H
 by_cases c3 : t128 = 0
 rotate_left
 ·rw [if_neg c3] at H
  have c3b0 : (t128 == 0) = false := beq_eq_false_iff_ne.mpr c3
  have c3b1 : (t128 != 0) = true := bne_iff_ne.mpr c3
  simp only [Option.some.injEq, Prod.mk.injEq] at H
  obtain ⟨rfl, rfl, rfl, rfl, rfl⟩ := H
  go_enter Try.func11, Try.ntmps11
  go_wp2_with (first | ((with_reducible refine gate_dst (N := 2) rfl ?_); refine box_event ?hg (N := 2) ?hd (cs := #[.int .i64 0, .int .i64 0, .int .i64 0, .int .i64 0]) (t := 23) ?hr ?_; (case hd => rfl); (case hg => rfl); (case hr => go_simp <;> rfl); intro gb127 hg w57 hbox hb; have BK127 := Aside0.mk hbox; have GW127 := ge hg HB; have GE127 := ge hg HB; replace HB := bh HB hb; clear hb hbox hg) | ((with_reducible refine gate_callee (f := 33) rfl ?_); refine gL (some 8) rfl Try.func33 #[.string a0] rfl ?_; (with_reducible refine (proof_ask.calls a0 t128 _ A2.out).mono ?_); rintro e w' ⟨rfl, ⟨nd, rfl⟩⟩; refine ⟨_, rfl, ?_⟩; (try (rw [drewN_self w57]; generalize hq_ : World.drewN w57 _ = w57; have n0_ : Aside0 (w57.heap[gb127]? = some (.cells #[.int .i64 0, .int .i64 0, .int .i64 0, .int .i64 0] 23 (0, 0))) := ⟨by rw [← hq_]; exact (bk BK127.out)⟩; have n1_ : Aside0 (Below w.heap.size w w57) := ⟨by rw [← hq_]; exact (bq HB.out)⟩; clear BK127 HB hq_; have BK127 := n0_; have HB := n1_; clear n0_ n1_)); obtain ⟨hcz58_0, hcz58_1, hcz58_2, hcz58_3⟩ := zc4 BK127; obtain ⟨hfz58_0, hfz58_1, hfz58_2, hfz58_3⟩ := zf4 BK127))
  refine bodyPost_ret (results_ct rfl _ _ gb127 23 #[.int .i64 0, .int .i64 0, .int .i64 0, .int .i64 0] (0, 0) _ rfl (by (with_reducible repeat refine bl ?_); refine blk_put (cs := #[.int .i64 0, .int .i64 0, .int .i64 0, .int .i64 0]) ?_ 3 _ rfl; (with_reducible repeat refine bl ?_); refine blk_put (cs := #[.int .i64 0, .int .i64 0, .int .i64 0, .int .i64 0]) ?_ 2 _ rfl; (with_reducible repeat refine bl ?_); refine blk_put (cs := #[.int .i64 0, .int .i64 0, .int .i64 0, .int .i64 0]) ?_ 1 _ rfl; (with_reducible repeat refine bl ?_); refine blk_put (cs := #[.int .i64 0, .int .i64 0, .int .i64 0, .int .i64 0]) ?_ 0 _ rfl; (with_reducible repeat refine bl ?_); exact BK127.out) Try.underlying23 rfl (by kernel_rfl)) rfl ?_
  exact ⟨er, bq HB.out⟩

 rw [if_pos c3] at H
 have c3b0 : (t128 == 0) = true := beq_iff_eq.mpr c3
 have c3b1 : (t128 != 0) = false := bne_eq_false_iff_eq.mpr c3
 clear c3
 obtain ⟨⟨t129, t130⟩, A4, H⟩ := bm2 H
 try dsimp only at H
 obtain ⟨⟨t132, t133, t134⟩, A5, H⟩ := bm2 H
 try dsimp only at H
 obtain ⟨⟨t135, t136, t137⟩, A6, H⟩ := bm2 H
 try dsimp only at H
 obtain ⟨⟨t138, t139, t140⟩, A7, H⟩ := bm2 H
 try dsimp only at H
 obtain ⟨⟨t141, t142, t143⟩, A8, H⟩ := bm2 H
 try dsimp only at H
 obtain ⟨⟨t145, t146, t147⟩, A9, H⟩ := bm2 H
 try dsimp only at H
 by_cases c10 : t145 = 0
 rotate_left
 ·rw [if_neg c10] at H
  have c10b0 : (t145 == 0) = false := beq_eq_false_iff_ne.mpr c10
  have c10b1 : (t145 != 0) = true := bne_iff_ne.mpr c10
  simp only [Option.some.injEq, Prod.mk.injEq] at H
  obtain ⟨rfl, rfl, rfl, rfl, rfl⟩ := H
  go_enter Try.func11, Try.ntmps11
  go_wp2_with (first | ((with_reducible refine gate_dst (N := 2) rfl ?_); refine box_event ?hg (N := 2) ?hd (cs := #[.int .i64 0, .int .i64 0, .int .i64 0, .int .i64 0]) (t := 23) ?hr ?_; (case hd => rfl); (case hg => rfl); (case hr => go_simp <;> rfl); intro gb127 hg w44 hbox hb; have BK127 := Aside0.mk hbox; have GW127 := ge hg HB; have GE127 := ge hg HB; replace HB := bh HB hb; clear hb hbox hg) | ((with_reducible refine gate_callee (f := 33) rfl ?_); refine gL (some 8) rfl Try.func33 #[.string a0] rfl ?_; (with_reducible refine (proof_ask.calls a0 t128 _ A2.out).mono ?_); rintro e w' ⟨rfl, ⟨nd, rfl⟩⟩; refine ⟨_, rfl, ?_⟩; (try (rw [drewN_self w44]; generalize hq_ : World.drewN w44 _ = w44; have n0_ : Aside0 (w44.heap[gb127]? = some (.cells #[.int .i64 0, .int .i64 0, .int .i64 0, .int .i64 0] 23 (0, 0))) := ⟨by rw [← hq_]; exact (bk BK127.out)⟩; have n1_ : Aside0 (Below w.heap.size w w44) := ⟨by rw [← hq_]; exact (bq HB.out)⟩; clear BK127 HB hq_; have BK127 := n0_; have HB := n1_; clear n0_ n1_))) | ((with_reducible refine gate_callee (f := 34) rfl ?_); refine gL (some 14) rfl Try.func34 #[.string a0] rfl ?_; (with_reducible refine (octet_Read.calls a0 t129 t130 w _ ?side1 A4.out).mono ?_); (case side1 => repeat (first | (with_reducible first | exact HB.out | apply ba | apply bN | apply bD | refine bS ?_ GE127.out) | exact HB.out)); rintro e w45 ⟨g131, rfl, hi, hb, hb2⟩; refine ⟨_, rfl, ?_⟩; have HI131 := Aside0.mk hi; have NB131_127 := Aside0.mk (IsS145.ne_blk hi (blk_below (g := gb127) (o := .cells #[.int .i64 0, .int .i64 0, .int .i64 0, .int .i64 0] 23 (0, 0)) (bk BK127.out) hb2) (by decide)); have NB127_131 := Aside0.mk (Ne.symm (IsS145.ne_blk hi (blk_below (g := gb127) (o := .cells #[.int .i64 0, .int .i64 0, .int .i64 0, .int .i64 0] 23 (0, 0)) (bk BK127.out) hb2) (by decide))); replace BK127 := Aside0.mk (blk_below (g := gb127) (o := .cells #[.int .i64 0, .int .i64 0, .int .i64 0, .int .i64 0] 23 (0, 0)) (bk BK127.out) hb2); replace HB := Aside0.mk hb; (try clear hb); (try clear hk hi)) | ((with_reducible refine gate_callee (f := 35) rfl ?_); refine gL (some 16) rfl Try.func35 #[.pointer (some ⟨g131, 0, none⟩), .int .i64 1048576] rfl ?_; (with_reducible refine (octet_Reader_Num.calls g131 t129 t130 1048576 t132 t133 t134 w _ ?side1 ?side2 A5.out).mono ?_); (case side1 => repeat (first | (with_reducible first | exact HI131.out | apply ia | apply iN | apply iD | apply i0 | apply i1 | refine iF ?_ NB131_127.out _) | exact HI131.out)); (case side2 => repeat (first | (with_reducible first | exact HB.out | apply ba | apply bN | apply bD | refine bS ?_ (IsS145.ge HI131.out) | refine bS ?_ GE127.out) | exact HB.out)); rintro e w46 ⟨rfl, hi, hb, hk⟩; refine ⟨_, rfl, ?_⟩; replace BK127 := Aside0.mk (KeepBut.blk hk (g' := gb127) (o := .cells #[.int .i64 0, .int .i64 0, .int .i64 0, .int .i64 0] 23 (0, 0)) (bk BK127.out) NB127_131.out (by simp)); replace HB := Aside0.mk hb; replace HI131 := Aside0.mk hi; (try clear hb); (try clear hk hi)) | ((with_reducible refine gate_callee (f := 35) rfl ?_); refine gL (some 18) rfl Try.func35 #[.pointer (some ⟨g131, 0, none⟩), .int .i64 1048576] rfl ?_; (with_reducible refine (octet_Reader_Num.calls g131 t133 t134 1048576 t135 t136 t137 w _ ?side1 ?side2 A6.out).mono ?_); (case side1 => repeat (first | (with_reducible first | exact HI131.out | apply ia | apply iN | apply iD | apply i0 | apply i1 | refine iF ?_ NB131_127.out _) | exact HI131.out)); (case side2 => repeat (first | (with_reducible first | exact HB.out | apply ba | apply bN | apply bD | refine bS ?_ (IsS145.ge HI131.out) | refine bS ?_ GE127.out) | exact HB.out)); rintro e w47 ⟨rfl, hi, hb, hk⟩; refine ⟨_, rfl, ?_⟩; replace BK127 := Aside0.mk (KeepBut.blk hk (g' := gb127) (o := .cells #[.int .i64 0, .int .i64 0, .int .i64 0, .int .i64 0] 23 (0, 0)) (bk BK127.out) NB127_131.out (by simp)); replace HB := Aside0.mk hb; replace HI131 := Aside0.mk hi; (try clear hb); (try clear hk hi)) | ((with_reducible refine gate_callee (f := 35) rfl ?_); refine gL (some 20) rfl Try.func35 #[.pointer (some ⟨g131, 0, none⟩), .int .i64 1048576] rfl ?_; (with_reducible refine (octet_Reader_Num.calls g131 t136 t137 1048576 t138 t139 t140 w _ ?side1 ?side2 A7.out).mono ?_); (case side1 => repeat (first | (with_reducible first | exact HI131.out | apply ia | apply iN | apply iD | apply i0 | apply i1 | refine iF ?_ NB131_127.out _) | exact HI131.out)); (case side2 => repeat (first | (with_reducible first | exact HB.out | apply ba | apply bN | apply bD | refine bS ?_ (IsS145.ge HI131.out) | refine bS ?_ GE127.out) | exact HB.out)); rintro e w48 ⟨rfl, hi, hb, hk⟩; refine ⟨_, rfl, ?_⟩; replace BK127 := Aside0.mk (KeepBut.blk hk (g' := gb127) (o := .cells #[.int .i64 0, .int .i64 0, .int .i64 0, .int .i64 0] 23 (0, 0)) (bk BK127.out) NB127_131.out (by simp)); replace HB := Aside0.mk hb; replace HI131 := Aside0.mk hi; (try clear hb); (try clear hk hi)) | ((with_reducible refine gate_callee (f := 35) rfl ?_); refine gL (some 22) rfl Try.func35 #[.pointer (some ⟨g131, 0, none⟩), .int .i64 1048576] rfl ?_; (with_reducible refine (octet_Reader_Num.calls g131 t139 t140 1048576 t141 t142 t143 w _ ?side1 ?side2 A8.out).mono ?_); (case side1 => repeat (first | (with_reducible first | exact HI131.out | apply ia | apply iN | apply iD | apply i0 | apply i1 | refine iF ?_ NB131_127.out _) | exact HI131.out)); (case side2 => repeat (first | (with_reducible first | exact HB.out | apply ba | apply bN | apply bD | refine bS ?_ (IsS145.ge HI131.out) | refine bS ?_ GE127.out) | exact HB.out)); rintro e w49 ⟨rfl, hi, hb, hk⟩; refine ⟨_, rfl, ?_⟩; replace BK127 := Aside0.mk (KeepBut.blk hk (g' := gb127) (o := .cells #[.int .i64 0, .int .i64 0, .int .i64 0, .int .i64 0] 23 (0, 0)) (bk BK127.out) NB127_131.out (by simp)); replace HB := Aside0.mk hb; replace HI131 := Aside0.mk hi; (try clear hb); (try clear hk hi)) | ((with_reducible refine gate_dst (N := 6) rfl ?_); refine box_event ?hg (N := 6) ?hd (cs := #[.int .i64 0, .int .i64 0, .int .i64 0, .int .i64 0]) (t := 23) ?hr ?_; (case hd => rfl); (case hg => rfl); (case hr => go_simp <;> rfl); intro gb144 hg w50 hbox hb; have BK144 := Aside0.mk hbox; have GW144 := Aside1.mk ((by rw [hg]; exact (below_size (by repeat (first | (with_reducible first | exact HB.out | apply ba | apply bN | apply bD | refine bS ?_ (IsS145.ge HI131.out) | refine bS ?_ GE127.out) | exact HB.out))) : w.heap.size ≤ gb144)); have GE144 := Aside1.mk ((by rw [hg]; exact (below_size (by repeat (first | (with_reducible first | exact HB.out | apply ba | apply bN | apply bD | refine bS ?_ (IsS145.ge HI131.out) | refine bS ?_ GE127.out) | exact HB.out))) : w.heap.size ≤ gb144)); have NB127_144 := nl hg BK127; have NB144_127 := ng hg BK127; have NB131_144 := Aside0.mk ((by rw [hg]; exact Nat.ne_of_lt (IsS145.lt (show IsS145 w _ g131 t142 t143 from by repeat (first | (with_reducible first | exact HI131.out | apply ia | apply iN | apply iD | apply i0 | apply i1 | refine iF ?_ NB131_127.out _) | exact HI131.out))) : g131 ≠ gb144)); have NB144_131 := Aside0.mk ((by rw [hg]; exact Nat.ne_of_gt (IsS145.lt (show IsS145 w _ g131 t142 t143 from by repeat (first | (with_reducible first | exact HI131.out | apply ia | apply iN | apply iD | apply i0 | apply i1 | refine iF ?_ NB131_127.out _) | exact HI131.out))) : gb144 ≠ g131)); replace BK127 := bb BK127 hb; replace HB := Aside0.mk (below_step (by repeat (first | (with_reducible first | exact HB.out | apply ba | apply bN | apply bD | refine bS ?_ (IsS145.ge HI131.out) | refine bS ?_ GE127.out) | exact HB.out)) hb); replace HI131 := Aside0.mk (IsS145.below (by repeat (first | (with_reducible first | exact HI131.out | apply ia | apply iN | apply iD | apply i0 | apply i1 | refine iF ?_ NB131_127.out _) | exact HI131.out)) hb); clear hb hbox hg; have hnb51 := NB144_127.out; have hnc51 := NB127_144.out; have hnb52 := NB144_131.out; have hnc52 := NB131_144.out; obtain ⟨hcz53_0, hcz53_1, hcz53_2, hcz53_3⟩ := zc4 BK144; obtain ⟨hfz53_0, hfz53_1, hfz53_2, hfz53_3⟩ := zf4 BK144) | ((with_reducible refine gate_callee (f := 36) rfl ?_); refine gL (some 25) rfl Try.func36 #[.pointer (some ⟨g131, 0, none⟩)] rfl ?_; (with_reducible refine (octet_Reader_End.calls g131 t142 t143 t145 t146 t147 w _ ?side1 ?side2 A9.out).mono ?_); (case side1 => repeat (first | (with_reducible first | exact HI131.out | apply ia | apply iN | apply iD | apply i0 | apply i1 | refine iF ?_ NB131_127.out _ | refine iF ?_ NB131_144.out _) | exact HI131.out)); (case side2 => repeat (first | (with_reducible first | exact HB.out | apply ba | apply bN | apply bD | refine bS ?_ (IsS145.ge HI131.out) | refine bS ?_ GE127.out | refine bS ?_ GE144.out) | exact HB.out)); rintro e w54 ⟨rfl, hi, hb, hk⟩; refine ⟨_, rfl, ?_⟩; replace BK127 := Aside0.mk (KeepBut.blk hk (g' := gb127) (o := .cells #[.int .i64 0, .int .i64 0, .int .i64 0, .int .i64 0] 23 (0, 0)) (by (with_reducible repeat refine bl ?_); refine blk_far ?_ NB127_144.out _; (with_reducible repeat refine bl ?_); refine blk_far ?_ NB127_144.out _; (with_reducible repeat refine bl ?_); refine blk_far ?_ NB127_144.out _; (with_reducible repeat refine bl ?_); refine blk_far ?_ NB127_144.out _; (with_reducible repeat refine bl ?_); exact BK127.out) NB127_131.out (by simp)); replace HB := Aside0.mk hb; replace HI131 := Aside0.mk hi; (try clear hb); (try clear hk hi); have hnb55 := NB127_131.out; have hnc55 := NB131_127.out; obtain ⟨hcz56_0, hcz56_1, hcz56_2, hcz56_3⟩ := zc4 BK127; obtain ⟨hfz56_0, hfz56_1, hfz56_2, hfz56_3⟩ := zf4 BK127))
  refine bodyPost_ret (results_ct rfl _ _ gb127 23 #[.int .i64 0, .int .i64 0, .int .i64 0, .int .i64 0] (0, 0) _ rfl (by (with_reducible repeat refine bl ?_); refine blk_put (cs := #[.int .i64 0, .int .i64 0, .int .i64 0, .int .i64 0]) ?_ 3 _ rfl; (with_reducible repeat refine bl ?_); refine blk_put (cs := #[.int .i64 0, .int .i64 0, .int .i64 0, .int .i64 0]) ?_ 2 _ rfl; (with_reducible repeat refine bl ?_); refine blk_put (cs := #[.int .i64 0, .int .i64 0, .int .i64 0, .int .i64 0]) ?_ 1 _ rfl; (with_reducible repeat refine bl ?_); refine blk_put (cs := #[.int .i64 0, .int .i64 0, .int .i64 0, .int .i64 0]) ?_ 0 _ rfl; (with_reducible repeat refine bl ?_); exact BK127.out) Try.underlying23 rfl (by kernel_rfl)) rfl ?_
  exact ⟨er, by repeat (first | (with_reducible first | exact HB.out | apply ba | apply bN | apply bD | refine bS ?_ (IsS145.ge HI131.out) | refine bS ?_ GE127.out | refine bS ?_ GE144.out) | exact HB.out)⟩
 rw [if_pos c10] at H
 have c10b0 : (t145 == 0) = true := beq_iff_eq.mpr c10
 have c10b1 : (t145 != 0) = false := bne_eq_false_iff_eq.mpr c10
 clear c10
 obtain ⟨t148, A11, H⟩ := bm2 H
 try dsimp only at H
 by_cases c12 : t148 = true
 ·subst c12
  have H1 : (some (t132, t135, t138, t141, 0)) = some (r1, r2, r3, r4, r5) := by rw [if_pos rfl] at H; exact H
  clear H
  have H := H1
  clear H1
  simp only [Option.some.injEq, Prod.mk.injEq] at H
  obtain ⟨rfl, rfl, rfl, rfl, rfl⟩ := H
  go_enter Try.func11, Try.ntmps11
  go_wp2_with (first | ((with_reducible refine gate_dst (N := 2) rfl ?_); refine box_event ?hg (N := 2) ?hd (cs := #[.int .i64 0, .int .i64 0, .int .i64 0, .int .i64 0]) (t := 23) ?hr ?_; (case hd => rfl); (case hg => rfl); (case hr => go_simp <;> rfl); intro gb127 hg w13 hbox hb; have BK127 := Aside0.mk hbox; have GW127 := ge hg HB; have GE127 := ge hg HB; replace HB := bh HB hb; clear hb hbox hg) | ((with_reducible refine gate_callee (f := 33) rfl ?_); refine gL (some 8) rfl Try.func33 #[.string a0] rfl ?_; (with_reducible refine (proof_ask.calls a0 t128 _ A2.out).mono ?_); rintro e w' ⟨rfl, ⟨nd, rfl⟩⟩; refine ⟨_, rfl, ?_⟩; (try (rw [drewN_self w13]; generalize hq_ : World.drewN w13 _ = w13; have n0_ : Aside0 (w13.heap[gb127]? = some (.cells #[.int .i64 0, .int .i64 0, .int .i64 0, .int .i64 0] 23 (0, 0))) := ⟨by rw [← hq_]; exact (bk BK127.out)⟩; have n1_ : Aside0 (Below w.heap.size w w13) := ⟨by rw [← hq_]; exact (bq HB.out)⟩; clear BK127 HB hq_; have BK127 := n0_; have HB := n1_; clear n0_ n1_))) | ((with_reducible refine gate_callee (f := 34) rfl ?_); refine gL (some 14) rfl Try.func34 #[.string a0] rfl ?_; (with_reducible refine (octet_Read.calls a0 t129 t130 w _ ?side1 A4.out).mono ?_); (case side1 => repeat (first | (with_reducible first | exact HB.out | apply ba | apply bN | apply bD | refine bS ?_ GE127.out) | exact HB.out)); rintro e w14 ⟨g131, rfl, hi, hb, hb2⟩; refine ⟨_, rfl, ?_⟩; have HI131 := Aside0.mk hi; have NB131_127 := Aside0.mk (IsS145.ne_blk hi (blk_below (g := gb127) (o := .cells #[.int .i64 0, .int .i64 0, .int .i64 0, .int .i64 0] 23 (0, 0)) (bk BK127.out) hb2) (by decide)); have NB127_131 := Aside0.mk (Ne.symm (IsS145.ne_blk hi (blk_below (g := gb127) (o := .cells #[.int .i64 0, .int .i64 0, .int .i64 0, .int .i64 0] 23 (0, 0)) (bk BK127.out) hb2) (by decide))); replace BK127 := Aside0.mk (blk_below (g := gb127) (o := .cells #[.int .i64 0, .int .i64 0, .int .i64 0, .int .i64 0] 23 (0, 0)) (bk BK127.out) hb2); replace HB := Aside0.mk hb; (try clear hb); (try clear hk hi)) | ((with_reducible refine gate_callee (f := 35) rfl ?_); refine gL (some 16) rfl Try.func35 #[.pointer (some ⟨g131, 0, none⟩), .int .i64 1048576] rfl ?_; (with_reducible refine (octet_Reader_Num.calls g131 t129 t130 1048576 t132 t133 t134 w _ ?side1 ?side2 A5.out).mono ?_); (case side1 => repeat (first | (with_reducible first | exact HI131.out | apply ia | apply iN | apply iD | apply i0 | apply i1 | refine iF ?_ NB131_127.out _) | exact HI131.out)); (case side2 => repeat (first | (with_reducible first | exact HB.out | apply ba | apply bN | apply bD | refine bS ?_ (IsS145.ge HI131.out) | refine bS ?_ GE127.out) | exact HB.out)); rintro e w15 ⟨rfl, hi, hb, hk⟩; refine ⟨_, rfl, ?_⟩; replace BK127 := Aside0.mk (KeepBut.blk hk (g' := gb127) (o := .cells #[.int .i64 0, .int .i64 0, .int .i64 0, .int .i64 0] 23 (0, 0)) (bk BK127.out) NB127_131.out (by simp)); replace HB := Aside0.mk hb; replace HI131 := Aside0.mk hi; (try clear hb); (try clear hk hi)) | ((with_reducible refine gate_callee (f := 35) rfl ?_); refine gL (some 18) rfl Try.func35 #[.pointer (some ⟨g131, 0, none⟩), .int .i64 1048576] rfl ?_; (with_reducible refine (octet_Reader_Num.calls g131 t133 t134 1048576 t135 t136 t137 w _ ?side1 ?side2 A6.out).mono ?_); (case side1 => repeat (first | (with_reducible first | exact HI131.out | apply ia | apply iN | apply iD | apply i0 | apply i1 | refine iF ?_ NB131_127.out _) | exact HI131.out)); (case side2 => repeat (first | (with_reducible first | exact HB.out | apply ba | apply bN | apply bD | refine bS ?_ (IsS145.ge HI131.out) | refine bS ?_ GE127.out) | exact HB.out)); rintro e w16 ⟨rfl, hi, hb, hk⟩; refine ⟨_, rfl, ?_⟩; replace BK127 := Aside0.mk (KeepBut.blk hk (g' := gb127) (o := .cells #[.int .i64 0, .int .i64 0, .int .i64 0, .int .i64 0] 23 (0, 0)) (bk BK127.out) NB127_131.out (by simp)); replace HB := Aside0.mk hb; replace HI131 := Aside0.mk hi; (try clear hb); (try clear hk hi)) | ((with_reducible refine gate_callee (f := 35) rfl ?_); refine gL (some 20) rfl Try.func35 #[.pointer (some ⟨g131, 0, none⟩), .int .i64 1048576] rfl ?_; (with_reducible refine (octet_Reader_Num.calls g131 t136 t137 1048576 t138 t139 t140 w _ ?side1 ?side2 A7.out).mono ?_); (case side1 => repeat (first | (with_reducible first | exact HI131.out | apply ia | apply iN | apply iD | apply i0 | apply i1 | refine iF ?_ NB131_127.out _) | exact HI131.out)); (case side2 => repeat (first | (with_reducible first | exact HB.out | apply ba | apply bN | apply bD | refine bS ?_ (IsS145.ge HI131.out) | refine bS ?_ GE127.out) | exact HB.out)); rintro e w17 ⟨rfl, hi, hb, hk⟩; refine ⟨_, rfl, ?_⟩; replace BK127 := Aside0.mk (KeepBut.blk hk (g' := gb127) (o := .cells #[.int .i64 0, .int .i64 0, .int .i64 0, .int .i64 0] 23 (0, 0)) (bk BK127.out) NB127_131.out (by simp)); replace HB := Aside0.mk hb; replace HI131 := Aside0.mk hi; (try clear hb); (try clear hk hi)) | ((with_reducible refine gate_callee (f := 35) rfl ?_); refine gL (some 22) rfl Try.func35 #[.pointer (some ⟨g131, 0, none⟩), .int .i64 1048576] rfl ?_; (with_reducible refine (octet_Reader_Num.calls g131 t139 t140 1048576 t141 t142 t143 w _ ?side1 ?side2 A8.out).mono ?_); (case side1 => repeat (first | (with_reducible first | exact HI131.out | apply ia | apply iN | apply iD | apply i0 | apply i1 | refine iF ?_ NB131_127.out _) | exact HI131.out)); (case side2 => repeat (first | (with_reducible first | exact HB.out | apply ba | apply bN | apply bD | refine bS ?_ (IsS145.ge HI131.out) | refine bS ?_ GE127.out) | exact HB.out)); rintro e w18 ⟨rfl, hi, hb, hk⟩; refine ⟨_, rfl, ?_⟩; replace BK127 := Aside0.mk (KeepBut.blk hk (g' := gb127) (o := .cells #[.int .i64 0, .int .i64 0, .int .i64 0, .int .i64 0] 23 (0, 0)) (bk BK127.out) NB127_131.out (by simp)); replace HB := Aside0.mk hb; replace HI131 := Aside0.mk hi; (try clear hb); (try clear hk hi)) | ((with_reducible refine gate_dst (N := 6) rfl ?_); refine box_event ?hg (N := 6) ?hd (cs := #[.int .i64 0, .int .i64 0, .int .i64 0, .int .i64 0]) (t := 23) ?hr ?_; (case hd => rfl); (case hg => rfl); (case hr => go_simp <;> rfl); intro gb144 hg w19 hbox hb; have BK144 := Aside0.mk hbox; have GW144 := Aside1.mk ((by rw [hg]; exact (below_size (by repeat (first | (with_reducible first | exact HB.out | apply ba | apply bN | apply bD | refine bS ?_ (IsS145.ge HI131.out) | refine bS ?_ GE127.out) | exact HB.out))) : w.heap.size ≤ gb144)); have GE144 := Aside1.mk ((by rw [hg]; exact (below_size (by repeat (first | (with_reducible first | exact HB.out | apply ba | apply bN | apply bD | refine bS ?_ (IsS145.ge HI131.out) | refine bS ?_ GE127.out) | exact HB.out))) : w.heap.size ≤ gb144)); have NB127_144 := nl hg BK127; have NB144_127 := ng hg BK127; have NB131_144 := Aside0.mk ((by rw [hg]; exact Nat.ne_of_lt (IsS145.lt (show IsS145 w _ g131 t142 t143 from by repeat (first | (with_reducible first | exact HI131.out | apply ia | apply iN | apply iD | apply i0 | apply i1 | refine iF ?_ NB131_127.out _) | exact HI131.out))) : g131 ≠ gb144)); have NB144_131 := Aside0.mk ((by rw [hg]; exact Nat.ne_of_gt (IsS145.lt (show IsS145 w _ g131 t142 t143 from by repeat (first | (with_reducible first | exact HI131.out | apply ia | apply iN | apply iD | apply i0 | apply i1 | refine iF ?_ NB131_127.out _) | exact HI131.out))) : gb144 ≠ g131)); replace BK127 := bb BK127 hb; replace HB := Aside0.mk (below_step (by repeat (first | (with_reducible first | exact HB.out | apply ba | apply bN | apply bD | refine bS ?_ (IsS145.ge HI131.out) | refine bS ?_ GE127.out) | exact HB.out)) hb); replace HI131 := Aside0.mk (IsS145.below (by repeat (first | (with_reducible first | exact HI131.out | apply ia | apply iN | apply iD | apply i0 | apply i1 | refine iF ?_ NB131_127.out _) | exact HI131.out)) hb); clear hb hbox hg; have hnb20 := NB144_127.out; have hnc20 := NB127_144.out; have hnb21 := NB144_131.out; have hnc21 := NB131_144.out; obtain ⟨hcz22_0, hcz22_1, hcz22_2, hcz22_3⟩ := zc4 BK144; obtain ⟨hfz22_0, hfz22_1, hfz22_2, hfz22_3⟩ := zf4 BK144) | ((with_reducible refine gate_callee (f := 36) rfl ?_); refine gL (some 25) rfl Try.func36 #[.pointer (some ⟨g131, 0, none⟩)] rfl ?_; (with_reducible refine (octet_Reader_End.calls g131 t142 t143 t145 t146 t147 w _ ?side1 ?side2 A9.out).mono ?_); (case side1 => repeat (first | (with_reducible first | exact HI131.out | apply ia | apply iN | apply iD | apply i0 | apply i1 | refine iF ?_ NB131_127.out _ | refine iF ?_ NB131_144.out _) | exact HI131.out)); (case side2 => repeat (first | (with_reducible first | exact HB.out | apply ba | apply bN | apply bD | refine bS ?_ (IsS145.ge HI131.out) | refine bS ?_ GE127.out | refine bS ?_ GE144.out) | exact HB.out)); rintro e w23 ⟨rfl, hi, hb, hk⟩; refine ⟨_, rfl, ?_⟩; replace BK127 := Aside0.mk (KeepBut.blk hk (g' := gb127) (o := .cells #[.int .i64 0, .int .i64 0, .int .i64 0, .int .i64 0] 23 (0, 0)) (by (with_reducible repeat refine bl ?_); refine blk_far ?_ NB127_144.out _; (with_reducible repeat refine bl ?_); refine blk_far ?_ NB127_144.out _; (with_reducible repeat refine bl ?_); refine blk_far ?_ NB127_144.out _; (with_reducible repeat refine bl ?_); refine blk_far ?_ NB127_144.out _; (with_reducible repeat refine bl ?_); exact BK127.out) NB127_131.out (by simp)); replace BK144 := Aside0.mk (KeepBut.blk hk (g' := gb144) (o := .cells #[.int .i64 t132, .int .i64 t135, .int .i64 t138, .int .i64 t141] 23 (0, 0)) (by (with_reducible repeat refine bl ?_); refine blk_put (cs := #[.int .i64 t132, .int .i64 t135, .int .i64 t138, .int .i64 0]) ?_ 3 _ rfl; (with_reducible repeat refine bl ?_); refine blk_put (cs := #[.int .i64 t132, .int .i64 t135, .int .i64 0, .int .i64 0]) ?_ 2 _ rfl; (with_reducible repeat refine bl ?_); refine blk_put (cs := #[.int .i64 t132, .int .i64 0, .int .i64 0, .int .i64 0]) ?_ 1 _ rfl; (with_reducible repeat refine bl ?_); refine blk_put (cs := #[.int .i64 0, .int .i64 0, .int .i64 0, .int .i64 0]) ?_ 0 _ rfl; (with_reducible repeat refine bl ?_); exact BK144.out) NB144_131.out (by simp)); replace HB := Aside0.mk hb; replace HI131 := Aside0.mk hi; (try clear hb); (try clear hk hi); obtain ⟨hcz24_0, hcz24_1, hcz24_2, hcz24_3⟩ := zc4 BK144; obtain ⟨hfz24_0, hfz24_1, hfz24_2, hfz24_3⟩ := zf4 BK144) | (go_at_call 13; (with_reducible refine (proof_Fits.calls t132 t135 t138 t141 true _ A11.out).mono ?_); rintro e w25 ⟨rfl, hb⟩; replace BK127 := bb BK127 hb; replace BK144 := bb BK144 hb; replace HB := Aside0.mk (below_step (by repeat (first | (with_reducible first | exact HB.out | apply ba | apply bN | apply bD | refine bS ?_ (IsS145.ge HI131.out) | refine bS ?_ GE127.out | refine bS ?_ GE144.out) | exact HB.out)) hb); replace HI131 := Aside0.mk (IsS145.below (by repeat (first | (with_reducible first | exact HI131.out | apply ia | apply iN | apply iD | apply i0 | apply i1 | refine iF ?_ NB131_127.out _ | refine iF ?_ NB131_144.out _) | exact HI131.out)) hb); (try clear hb); (try clear hk hi); obtain ⟨hcz26_0, hcz26_1, hcz26_2, hcz26_3⟩ := zc4 BK144; obtain ⟨hfz26_0, hfz26_1, hfz26_2, hfz26_3⟩ := zf4 BK144; have hnb27 := NB127_131.out; have hnc27 := NB131_127.out; obtain ⟨hcz28_0, hcz28_1, hcz28_2, hcz28_3⟩ := zc4 BK127; obtain ⟨hfz28_0, hfz28_1, hfz28_2, hfz28_3⟩ := zf4 BK127))
  refine bodyPost_ret (results_ct rfl _ _ gb127 23 #[.int .i64 t132, .int .i64 t135, .int .i64 t138, .int .i64 t141] (0, 0) _ rfl (by (with_reducible repeat refine bl ?_); refine blk_put (cs := #[.int .i64 t132, .int .i64 t135, .int .i64 t138, .int .i64 0]) ?_ 3 _ rfl; (with_reducible repeat refine bl ?_); refine blk_put (cs := #[.int .i64 t132, .int .i64 t135, .int .i64 0, .int .i64 0]) ?_ 2 _ rfl; (with_reducible repeat refine bl ?_); refine blk_put (cs := #[.int .i64 t132, .int .i64 0, .int .i64 0, .int .i64 0]) ?_ 1 _ rfl; (with_reducible repeat refine bl ?_); refine blk_put (cs := #[.int .i64 0, .int .i64 0, .int .i64 0, .int .i64 0]) ?_ 0 _ rfl; (with_reducible repeat refine bl ?_); exact BK127.out) Try.underlying23 rfl (by kernel_rfl)) rfl ?_
  exact ⟨er, by repeat (first | (with_reducible first | exact HB.out | apply ba | apply bN | apply bD | refine bS ?_ (IsS145.ge HI131.out) | refine bS ?_ GE127.out | refine bS ?_ GE144.out) | exact HB.out)⟩
 replace c12 := Bool.eq_false_iff.mpr c12
 subst c12
 have H1 : (some (0, 0, 0, 0, 3)) = some (r1, r2, r3, r4, r5) := by rw [if_neg (show ¬ (false = true) by decide)] at H; exact H
 clear H
 have H := H1
 clear H1
 simp only [Option.some.injEq, Prod.mk.injEq] at H
 obtain ⟨rfl, rfl, rfl, rfl, rfl⟩ := H
 go_enter Try.func11, Try.ntmps11
 go_wp2_with (first | ((with_reducible refine gate_dst (N := 2) rfl ?_); refine box_event ?hg (N := 2) ?hd (cs := #[.int .i64 0, .int .i64 0, .int .i64 0, .int .i64 0]) (t := 23) ?hr ?_; (case hd => rfl); (case hg => rfl); (case hr => go_simp <;> rfl); intro gb127 hg w29 hbox hb; have BK127 := Aside0.mk hbox; have GW127 := ge hg HB; have GE127 := ge hg HB; replace HB := bh HB hb; clear hb hbox hg) | ((with_reducible refine gate_callee (f := 33) rfl ?_); refine gL (some 8) rfl Try.func33 #[.string a0] rfl ?_; (with_reducible refine (proof_ask.calls a0 t128 _ A2.out).mono ?_); rintro e w' ⟨rfl, ⟨nd, rfl⟩⟩; refine ⟨_, rfl, ?_⟩; (try (rw [drewN_self w29]; generalize hq_ : World.drewN w29 _ = w29; have n0_ : Aside0 (w29.heap[gb127]? = some (.cells #[.int .i64 0, .int .i64 0, .int .i64 0, .int .i64 0] 23 (0, 0))) := ⟨by rw [← hq_]; exact (bk BK127.out)⟩; have n1_ : Aside0 (Below w.heap.size w w29) := ⟨by rw [← hq_]; exact (bq HB.out)⟩; clear BK127 HB hq_; have BK127 := n0_; have HB := n1_; clear n0_ n1_))) | ((with_reducible refine gate_callee (f := 34) rfl ?_); refine gL (some 14) rfl Try.func34 #[.string a0] rfl ?_; (with_reducible refine (octet_Read.calls a0 t129 t130 w _ ?side1 A4.out).mono ?_); (case side1 => repeat (first | (with_reducible first | exact HB.out | apply ba | apply bN | apply bD | refine bS ?_ GE127.out) | exact HB.out)); rintro e w30 ⟨g131, rfl, hi, hb, hb2⟩; refine ⟨_, rfl, ?_⟩; have HI131 := Aside0.mk hi; have NB131_127 := Aside0.mk (IsS145.ne_blk hi (blk_below (g := gb127) (o := .cells #[.int .i64 0, .int .i64 0, .int .i64 0, .int .i64 0] 23 (0, 0)) (bk BK127.out) hb2) (by decide)); have NB127_131 := Aside0.mk (Ne.symm (IsS145.ne_blk hi (blk_below (g := gb127) (o := .cells #[.int .i64 0, .int .i64 0, .int .i64 0, .int .i64 0] 23 (0, 0)) (bk BK127.out) hb2) (by decide))); replace BK127 := Aside0.mk (blk_below (g := gb127) (o := .cells #[.int .i64 0, .int .i64 0, .int .i64 0, .int .i64 0] 23 (0, 0)) (bk BK127.out) hb2); replace HB := Aside0.mk hb; (try clear hb); (try clear hk hi)) | ((with_reducible refine gate_callee (f := 35) rfl ?_); refine gL (some 16) rfl Try.func35 #[.pointer (some ⟨g131, 0, none⟩), .int .i64 1048576] rfl ?_; (with_reducible refine (octet_Reader_Num.calls g131 t129 t130 1048576 t132 t133 t134 w _ ?side1 ?side2 A5.out).mono ?_); (case side1 => repeat (first | (with_reducible first | exact HI131.out | apply ia | apply iN | apply iD | apply i0 | apply i1 | refine iF ?_ NB131_127.out _) | exact HI131.out)); (case side2 => repeat (first | (with_reducible first | exact HB.out | apply ba | apply bN | apply bD | refine bS ?_ (IsS145.ge HI131.out) | refine bS ?_ GE127.out) | exact HB.out)); rintro e w31 ⟨rfl, hi, hb, hk⟩; refine ⟨_, rfl, ?_⟩; replace BK127 := Aside0.mk (KeepBut.blk hk (g' := gb127) (o := .cells #[.int .i64 0, .int .i64 0, .int .i64 0, .int .i64 0] 23 (0, 0)) (bk BK127.out) NB127_131.out (by simp)); replace HB := Aside0.mk hb; replace HI131 := Aside0.mk hi; (try clear hb); (try clear hk hi)) | ((with_reducible refine gate_callee (f := 35) rfl ?_); refine gL (some 18) rfl Try.func35 #[.pointer (some ⟨g131, 0, none⟩), .int .i64 1048576] rfl ?_; (with_reducible refine (octet_Reader_Num.calls g131 t133 t134 1048576 t135 t136 t137 w _ ?side1 ?side2 A6.out).mono ?_); (case side1 => repeat (first | (with_reducible first | exact HI131.out | apply ia | apply iN | apply iD | apply i0 | apply i1 | refine iF ?_ NB131_127.out _) | exact HI131.out)); (case side2 => repeat (first | (with_reducible first | exact HB.out | apply ba | apply bN | apply bD | refine bS ?_ (IsS145.ge HI131.out) | refine bS ?_ GE127.out) | exact HB.out)); rintro e w32 ⟨rfl, hi, hb, hk⟩; refine ⟨_, rfl, ?_⟩; replace BK127 := Aside0.mk (KeepBut.blk hk (g' := gb127) (o := .cells #[.int .i64 0, .int .i64 0, .int .i64 0, .int .i64 0] 23 (0, 0)) (bk BK127.out) NB127_131.out (by simp)); replace HB := Aside0.mk hb; replace HI131 := Aside0.mk hi; (try clear hb); (try clear hk hi)) | ((with_reducible refine gate_callee (f := 35) rfl ?_); refine gL (some 20) rfl Try.func35 #[.pointer (some ⟨g131, 0, none⟩), .int .i64 1048576] rfl ?_; (with_reducible refine (octet_Reader_Num.calls g131 t136 t137 1048576 t138 t139 t140 w _ ?side1 ?side2 A7.out).mono ?_); (case side1 => repeat (first | (with_reducible first | exact HI131.out | apply ia | apply iN | apply iD | apply i0 | apply i1 | refine iF ?_ NB131_127.out _) | exact HI131.out)); (case side2 => repeat (first | (with_reducible first | exact HB.out | apply ba | apply bN | apply bD | refine bS ?_ (IsS145.ge HI131.out) | refine bS ?_ GE127.out) | exact HB.out)); rintro e w33 ⟨rfl, hi, hb, hk⟩; refine ⟨_, rfl, ?_⟩; replace BK127 := Aside0.mk (KeepBut.blk hk (g' := gb127) (o := .cells #[.int .i64 0, .int .i64 0, .int .i64 0, .int .i64 0] 23 (0, 0)) (bk BK127.out) NB127_131.out (by simp)); replace HB := Aside0.mk hb; replace HI131 := Aside0.mk hi; (try clear hb); (try clear hk hi)) | ((with_reducible refine gate_callee (f := 35) rfl ?_); refine gL (some 22) rfl Try.func35 #[.pointer (some ⟨g131, 0, none⟩), .int .i64 1048576] rfl ?_; (with_reducible refine (octet_Reader_Num.calls g131 t139 t140 1048576 t141 t142 t143 w _ ?side1 ?side2 A8.out).mono ?_); (case side1 => repeat (first | (with_reducible first | exact HI131.out | apply ia | apply iN | apply iD | apply i0 | apply i1 | refine iF ?_ NB131_127.out _) | exact HI131.out)); (case side2 => repeat (first | (with_reducible first | exact HB.out | apply ba | apply bN | apply bD | refine bS ?_ (IsS145.ge HI131.out) | refine bS ?_ GE127.out) | exact HB.out)); rintro e w34 ⟨rfl, hi, hb, hk⟩; refine ⟨_, rfl, ?_⟩; replace BK127 := Aside0.mk (KeepBut.blk hk (g' := gb127) (o := .cells #[.int .i64 0, .int .i64 0, .int .i64 0, .int .i64 0] 23 (0, 0)) (bk BK127.out) NB127_131.out (by simp)); replace HB := Aside0.mk hb; replace HI131 := Aside0.mk hi; (try clear hb); (try clear hk hi)) | ((with_reducible refine gate_dst (N := 6) rfl ?_); refine box_event ?hg (N := 6) ?hd (cs := #[.int .i64 0, .int .i64 0, .int .i64 0, .int .i64 0]) (t := 23) ?hr ?_; (case hd => rfl); (case hg => rfl); (case hr => go_simp <;> rfl); intro gb144 hg w35 hbox hb; have BK144 := Aside0.mk hbox; have GW144 := Aside1.mk ((by rw [hg]; exact (below_size (by repeat (first | (with_reducible first | exact HB.out | apply ba | apply bN | apply bD | refine bS ?_ (IsS145.ge HI131.out) | refine bS ?_ GE127.out) | exact HB.out))) : w.heap.size ≤ gb144)); have GE144 := Aside1.mk ((by rw [hg]; exact (below_size (by repeat (first | (with_reducible first | exact HB.out | apply ba | apply bN | apply bD | refine bS ?_ (IsS145.ge HI131.out) | refine bS ?_ GE127.out) | exact HB.out))) : w.heap.size ≤ gb144)); have NB127_144 := nl hg BK127; have NB144_127 := ng hg BK127; have NB131_144 := Aside0.mk ((by rw [hg]; exact Nat.ne_of_lt (IsS145.lt (show IsS145 w _ g131 t142 t143 from by repeat (first | (with_reducible first | exact HI131.out | apply ia | apply iN | apply iD | apply i0 | apply i1 | refine iF ?_ NB131_127.out _) | exact HI131.out))) : g131 ≠ gb144)); have NB144_131 := Aside0.mk ((by rw [hg]; exact Nat.ne_of_gt (IsS145.lt (show IsS145 w _ g131 t142 t143 from by repeat (first | (with_reducible first | exact HI131.out | apply ia | apply iN | apply iD | apply i0 | apply i1 | refine iF ?_ NB131_127.out _) | exact HI131.out))) : gb144 ≠ g131)); replace BK127 := bb BK127 hb; replace HB := Aside0.mk (below_step (by repeat (first | (with_reducible first | exact HB.out | apply ba | apply bN | apply bD | refine bS ?_ (IsS145.ge HI131.out) | refine bS ?_ GE127.out) | exact HB.out)) hb); replace HI131 := Aside0.mk (IsS145.below (by repeat (first | (with_reducible first | exact HI131.out | apply ia | apply iN | apply iD | apply i0 | apply i1 | refine iF ?_ NB131_127.out _) | exact HI131.out)) hb); clear hb hbox hg; have hnb36 := NB144_127.out; have hnc36 := NB127_144.out; have hnb37 := NB144_131.out; have hnc37 := NB131_144.out; obtain ⟨hcz38_0, hcz38_1, hcz38_2, hcz38_3⟩ := zc4 BK144; obtain ⟨hfz38_0, hfz38_1, hfz38_2, hfz38_3⟩ := zf4 BK144) | ((with_reducible refine gate_callee (f := 36) rfl ?_); refine gL (some 25) rfl Try.func36 #[.pointer (some ⟨g131, 0, none⟩)] rfl ?_; (with_reducible refine (octet_Reader_End.calls g131 t142 t143 t145 t146 t147 w _ ?side1 ?side2 A9.out).mono ?_); (case side1 => repeat (first | (with_reducible first | exact HI131.out | apply ia | apply iN | apply iD | apply i0 | apply i1 | refine iF ?_ NB131_127.out _ | refine iF ?_ NB131_144.out _) | exact HI131.out)); (case side2 => repeat (first | (with_reducible first | exact HB.out | apply ba | apply bN | apply bD | refine bS ?_ (IsS145.ge HI131.out) | refine bS ?_ GE127.out | refine bS ?_ GE144.out) | exact HB.out)); rintro e w39 ⟨rfl, hi, hb, hk⟩; refine ⟨_, rfl, ?_⟩; replace BK127 := Aside0.mk (KeepBut.blk hk (g' := gb127) (o := .cells #[.int .i64 0, .int .i64 0, .int .i64 0, .int .i64 0] 23 (0, 0)) (by (with_reducible repeat refine bl ?_); refine blk_far ?_ NB127_144.out _; (with_reducible repeat refine bl ?_); refine blk_far ?_ NB127_144.out _; (with_reducible repeat refine bl ?_); refine blk_far ?_ NB127_144.out _; (with_reducible repeat refine bl ?_); refine blk_far ?_ NB127_144.out _; (with_reducible repeat refine bl ?_); exact BK127.out) NB127_131.out (by simp)); replace BK144 := Aside0.mk (KeepBut.blk hk (g' := gb144) (o := .cells #[.int .i64 t132, .int .i64 t135, .int .i64 t138, .int .i64 t141] 23 (0, 0)) (by (with_reducible repeat refine bl ?_); refine blk_put (cs := #[.int .i64 t132, .int .i64 t135, .int .i64 t138, .int .i64 0]) ?_ 3 _ rfl; (with_reducible repeat refine bl ?_); refine blk_put (cs := #[.int .i64 t132, .int .i64 t135, .int .i64 0, .int .i64 0]) ?_ 2 _ rfl; (with_reducible repeat refine bl ?_); refine blk_put (cs := #[.int .i64 t132, .int .i64 0, .int .i64 0, .int .i64 0]) ?_ 1 _ rfl; (with_reducible repeat refine bl ?_); refine blk_put (cs := #[.int .i64 0, .int .i64 0, .int .i64 0, .int .i64 0]) ?_ 0 _ rfl; (with_reducible repeat refine bl ?_); exact BK144.out) NB144_131.out (by simp)); replace HB := Aside0.mk hb; replace HI131 := Aside0.mk hi; (try clear hb); (try clear hk hi); obtain ⟨hcz40_0, hcz40_1, hcz40_2, hcz40_3⟩ := zc4 BK144; obtain ⟨hfz40_0, hfz40_1, hfz40_2, hfz40_3⟩ := zf4 BK144) | (go_at_call 13; (with_reducible refine (proof_Fits.calls t132 t135 t138 t141 false _ A11.out).mono ?_); rintro e w41 ⟨rfl, hb⟩; replace BK127 := bb BK127 hb; replace HB := Aside0.mk (below_step (by repeat (first | (with_reducible first | exact HB.out | apply ba | apply bN | apply bD | refine bS ?_ (IsS145.ge HI131.out) | refine bS ?_ GE127.out | refine bS ?_ GE144.out) | exact HB.out)) hb); replace HI131 := Aside0.mk (IsS145.below (by repeat (first | (with_reducible first | exact HI131.out | apply ia | apply iN | apply iD | apply i0 | apply i1 | refine iF ?_ NB131_127.out _ | refine iF ?_ NB131_144.out _) | exact HI131.out)) hb); (try clear hb); (try clear hk hi); have hnb42 := NB127_131.out; have hnc42 := NB131_127.out; obtain ⟨hcz43_0, hcz43_1, hcz43_2, hcz43_3⟩ := zc4 BK127; obtain ⟨hfz43_0, hfz43_1, hfz43_2, hfz43_3⟩ := zf4 BK127))
 refine bodyPost_ret (results_ct rfl _ _ gb127 23 #[.int .i64 0, .int .i64 0, .int .i64 0, .int .i64 0] (0, 0) _ rfl (by (with_reducible repeat refine bl ?_); refine blk_put (cs := #[.int .i64 0, .int .i64 0, .int .i64 0, .int .i64 0]) ?_ 3 _ rfl; (with_reducible repeat refine bl ?_); refine blk_put (cs := #[.int .i64 0, .int .i64 0, .int .i64 0, .int .i64 0]) ?_ 2 _ rfl; (with_reducible repeat refine bl ?_); refine blk_put (cs := #[.int .i64 0, .int .i64 0, .int .i64 0, .int .i64 0]) ?_ 1 _ rfl; (with_reducible repeat refine bl ?_); refine blk_put (cs := #[.int .i64 0, .int .i64 0, .int .i64 0, .int .i64 0]) ?_ 0 _ rfl; (with_reducible repeat refine bl ?_); exact BK127.out) Try.underlying23 rfl (by kernel_rfl)) rfl ?_
 exact ⟨er, by repeat (first | (with_reducible first | exact HB.out | apply ba | apply bN | apply bD | refine bS ?_ (IsS145.ge HI131.out) | refine bS ?_ GE127.out | refine bS ?_ GE144.out) | exact HB.out)⟩
def steeplelaw29_awake.f (k : Nat)  : Option (Bool) := (proof_Params.f k 3 0 1 2).bind fun bt150 => ((proof_ReadParams.f bt150.1).bind fun bt152 => (if bt150.2 = 0 then (if bt152.2.2.2.2 = 0 then (if (bt152.1 == 3 && (bt152.2.1 == 0 && (bt152.2.2.1 == 1 && (bt152.2.2.2.1 == 2)))) = true then (some (bt150.1.toList == ([0, 0, 0, 3, 0, 0, 0, 0, 0, 0, 0, 1, 0, 0, 0, 2] : List UInt8))) else (none)) else (none)) else (none)))
theorem steeplelaw29_awake.calls (k : Nat)  (r : Bool) (w : World) (h : steeplelaw29_awake.f k  = some r) :
  Calls Try.prog 9 #[] w fun e w' => e = .returned (.bool r) ∧ Below w.heap.size w w' := by
 have hu23 := Try.underlying23
 have HB := Aside0.mk (Below.refl w.heap.size w)
 have H : ((proof_Params.f k 3 0 1 2).bind fun bt150 => ((proof_ReadParams.f bt150.1).bind fun bt152 => (if bt150.2 = 0 then (if bt152.2.2.2.2 = 0 then (if (bt152.1 == 3 && (bt152.2.1 == 0 && (bt152.2.2.1 == 1 && (bt152.2.2.2.1 == 2)))) = true then (some (bt150.1.toList == ([0, 0, 0, 3, 0, 0, 0, 0, 0, 0, 0, 1, 0, 0, 0, 2] : List UInt8))) else (none)) else (none)) else (none)))) = some r := h
 clear h
 obtain ⟨⟨t150, t151⟩, A1, H⟩ := bm2 H
 try dsimp only at H
 obtain ⟨⟨t152, t153, t154, t155, t156⟩, A2, H⟩ := bm2 H
 try dsimp only at H
 by_cases c3 : t151 = 0
 rotate_left
 ·rw [if_neg c3] at H
  exact absurd H (by simp)

 rw [if_pos c3] at H
 have c3b0 : (t151 == 0) = true := beq_iff_eq.mpr c3
 have c3b1 : (t151 != 0) = false := bne_eq_false_iff_eq.mpr c3
 clear c3
 by_cases c4 : t156 = 0
 rotate_left
 ·rw [if_neg c4] at H
  exact absurd H (by simp)
 rw [if_pos c4] at H
 have c4b0 : (t156 == 0) = true := beq_iff_eq.mpr c4
 have c4b1 : (t156 != 0) = false := bne_eq_false_iff_eq.mpr c4
 clear c4
 by_cases c5 : (t152 == 3 && (t153 == 0 && (t154 == 1 && (t155 == 2)))) = true
 rotate_left
 ·rw [if_neg c5] at H
  exact absurd H (by simp)
 rw [if_pos c5] at H
 have c5b0 : (t152 == 3 && (t153 == 0 && (t154 == 1 && (t155 == 2)))) = true := c5
 (try (have c5b1 : decide (t152 = 3 && (t153 == 0 && (t154 == 1 && (t155 == 2)))) = true := by simpa using c5))
 (try (have c5b2 : (t152 == 3 && (t153 == 0 && (t154 == 1 && (t155 == 2)))) = true := by simpa using c5))
 clear c5
 obtain rfl := Option.some.inj H
 go_enter Try.func9, Try.ntmps9
 go_wp2_with (first | ((with_reducible refine gate_dst (N := 1) rfl ?_); refine box_event ?hg (N := 1) ?hd (cs := #[.int .i64 0, .int .i64 0, .int .i64 0, .int .i64 0]) (t := 23) ?hr ?_; (case hd => rfl); (case hg => rfl); (case hr => go_simp <;> rfl); intro gb149 hg w6 hbox hb; have BK149 := Aside0.mk hbox; have GW149 := ge hg HB; have GE149 := ge hg HB; replace HB := bh HB hb; clear hb hbox hg; obtain ⟨hcz7_0, hcz7_1, hcz7_2, hcz7_3⟩ := zc4 BK149; obtain ⟨hfz7_0, hfz7_1, hfz7_2, hfz7_3⟩ := zf4 BK149) | ((with_reducible refine gate_callee (f := 10) rfl ?_); refine gL (some 9) rfl Try.func10 #[.agg #[.int .i64 3, .int .i64 0, .int .i64 1, .int .i64 2]] rfl ?_; (with_reducible refine (proof_Params.calls k 3 0 1 2 t150 t151 _ A1.out).mono ?_); rintro e w8 ⟨rfl, hb⟩; refine ⟨_, rfl, ?_⟩; replace BK149 := Aside0.mk (blk_below (g := gb149) (o := .cells #[.int .i64 3, .int .i64 0, .int .i64 1, .int .i64 2] 23 (0, 0)) (by (with_reducible repeat refine bl ?_); refine blk_put (cs := #[.int .i64 3, .int .i64 0, .int .i64 1, .int .i64 0]) ?_ 3 _ rfl; (with_reducible repeat refine bl ?_); refine blk_put (cs := #[.int .i64 3, .int .i64 0, .int .i64 0, .int .i64 0]) ?_ 2 _ rfl; (with_reducible repeat refine bl ?_); refine blk_put (cs := #[.int .i64 3, .int .i64 0, .int .i64 0, .int .i64 0]) ?_ 1 _ rfl; (with_reducible repeat refine bl ?_); refine blk_put (cs := #[.int .i64 0, .int .i64 0, .int .i64 0, .int .i64 0]) ?_ 0 _ rfl; (with_reducible repeat refine bl ?_); exact BK149.out) hb); replace HB := bh HB hb; (try clear hb); (try clear hk hi)) | ((with_reducible refine gate_callee (f := 11) rfl ?_); refine gL (some 14) rfl Try.func11 #[.string t150] rfl ?_; (with_reducible refine (proof_ReadParams.calls t150 t152 t153 t154 t155 t156 _ A2.out).mono ?_); rintro e w9 ⟨rfl, hb⟩; refine ⟨_, rfl, ?_⟩; replace BK149 := bb BK149 hb; replace HB := bh HB hb; (try clear hb); (try clear hk hi)) | ((with_reducible refine gate_dst (N := 4) rfl ?_); refine box_event ?hg (N := 4) ?hd (cs := #[.int .i64 0, .int .i64 0, .int .i64 0, .int .i64 0]) (t := 23) ?hr ?_; (case hd => rfl); (case hg => rfl); (case hr => go_simp <;> rfl); intro gb157 hg w10 hbox hb; have BK157 := Aside0.mk hbox; have GW157 := ge hg HB; have GE157 := ge hg HB; have NB149_157 := nl hg BK149; have NB157_149 := ng hg BK149; replace BK149 := bb BK149 hb; replace HB := bh HB hb; clear hb hbox hg; have hnb11 := NB157_149.out; have hnc11 := NB149_157.out; obtain ⟨hcz12_0, hcz12_1, hcz12_2, hcz12_3⟩ := zc4 BK157; obtain ⟨hfz12_0, hfz12_1, hfz12_2, hfz12_3⟩ := zf4 BK157; obtain ⟨hcz13_0, hcz13_1, hcz13_2, hcz13_3⟩ := zc4 BK149; obtain ⟨hfz13_0, hfz13_1, hfz13_2, hfz13_3⟩ := zf4 BK149))
 go_ret
 exact ⟨er, bq HB.out⟩
def steeplelaw01_Ref.l0 : Nat → List (S61) → List (S70) → Int → Option ((List (S70)))
 | 0, _, _, _ => none
 | k + 1, x0, x3, x4 => if x4 < (x0.length : Int) then (if 0 ≤ x4 then (if x3.length < 8796093022208 then (steeplelaw01_Ref.l0 k x0 (x3 ++ [(⟨(rd_T61 x0 x4).f0, (rd_T61 x0 x4).f1⟩ : S70)]) (wrap64 (x4 + 1))) else (none)) else (none)) else (some x3)
def steeplelaw01_Ref.f (k : Nat) (l0 : List (S61)) : Option ((List (S70))) := steeplelaw01_Ref.l0 k l0 ([] : List (S70)) 0
theorem steeplelaw01_Ref.calls (k : Nat) (A0 : Option Addr) (c0 : Nat) (l0 : List (S61)) (r : List (S70)) (w : World) (hr0 : Kd.C k61 w A0 l0.length l0) (hc0 : l0.length ≤ c0) (h : steeplelaw01_Ref.f k l0 = some r) :
  Calls Try.prog 60 #[.slice A0 l0.length c0] w fun e w' => ∃ v0_ : Value, e = .returned (v0_) ∧ Kd.R k70 70 w' w.heap.size (fun _ => True) v0_ r ∧ Below w.heap.size w w' := by
 have hu61 := Try.underlying61
 have HR0 := Aside0.mk hr0
 have HC0 := Aside0.mk hc0
 clear hr0 hc0
 have HB := Aside0.mk (Below.refl w.heap.size w)
 have H : (steeplelaw01_Ref.l0 k l0 ([] : List (S70)) 0) = some r := h
 clear h
 have H' := Aside0.mk H
 clear H
 go_enter Try.func60, Try.ntmps60
 go_wp2
 go_loopg [3, 4] k (fun kq v3 v4 w' => ∃ (x3_1 : List (S70)) (x4_1 : Int), v4 = .int .i64 x4_1 ∧ Aside0 (steeplelaw01_Ref.l0 kq l0 x3_1 x4_1 = some r) ∧ Aside0 (kq ≤ k) ∧ Aside0 (Kd.R k70 70 w' w.heap.size (fun _ => True) v3 x3_1) ∧ Aside0 (Below w.heap.size w w'))
 case atStart => exact ⟨(([] : List (S70))), (0), (by first | rfl | (simp; done) | (simp [*]; done)), H', ⟨Nat.le_refl _⟩, ⟨by first | exact Kd.R_nil _ _ _ _ _ | exact Kd.N_nil _ _ _ _ _ | exact Kd.V_nil _ _ _ _ _ | exact Kd.Q_nil _ _ _ _ _ | exact Kd.S_nil _ _ _ _ _⟩, ⟨bq HB.out⟩⟩
 case round =>
  clear H'
  obtain ⟨x3_1, x4_1, rfl, HA, HK1, HO_3, HB⟩ := hrel
  cases gk with
  | zero => exact absurd HA.out (by simp [steeplelaw01_Ref.l0])
  | succ k1 =>
   have H := HA.out
   clear HA
   simp only [steeplelaw01_Ref.l0] at H
   by_cases c2 : x4_1 < (l0.length : Int)
   rotate_left
   ·rw [if_neg c2] at H
    have c2b0 : decide (x4_1 < (l0.length : Int)) = false := decide_eq_false c2
    clear c2
    obtain rfl := Option.some.inj H
    go_wp2
    go_ret
    exact ⟨_, er, by (with_reducible repeat refine kl ?_); exact HO_3.out, bq HB.out⟩

   rw [if_pos c2] at H
   have c2b0 : decide (x4_1 < (l0.length : Int)) = true := decide_eq_true c2
   clear c2
   by_cases c3 : 0 ≤ x4_1
   rotate_left
   ·rw [if_neg c3] at H
    exact absurd H (by simp)
   rw [if_pos c3] at H
   have c3b0 : decide (0 ≤ x4_1) = true := decide_eq_true c3
   clear c3
   by_cases c4 : x3_1.length < 8796093022208
   rotate_left
   ·rw [if_neg c4] at H
    exact absurd H (by simp)
   rw [if_pos c4] at H
   have LMc4 := Aside0.mk c4
   clear c4
   obtain ⟨y159, hy159⟩ : ∃ y_ : List (S70), y_ = (x3_1 ++ [(⟨(rd_T61 l0 x4_1).f0, (rd_T61 l0 x4_1).f1⟩ : S70)]) := ⟨_, rfl⟩
   replace H : (steeplelaw01_Ref.l0 k1 l0 y159 (wrap64 (x4_1 + 1))) = some r := by first | (rw [hy159]; with_reducible exact H) | (have H2_ := (Option.bind_some _ _).symm.trans H; rw [hy159]; with_reducible exact H2_) | (have H2_ := (Option.bind_some _ _).symm.trans H; with_reducible exact H2_) | with_reducible exact H | (rw [hy159]; exact H) | exact H
   have Ny159 := Aside0.mk hy159
   clear hy159
   have H' := Aside0.mk H
   clear H
   have p158 : 0 ≤ (x4_1 : Int) := dt
   have q158 : x4_1 < (l0.length : Int) := dt
   obtain ⟨ad158, e158, hx158_0, hx158_1⟩ := at_T61 HR0.out x4_1 p158 q158
   cases e158
   replace hx158_0 := (HB.out.cell (World.block_lt_of_cell? w _ hx158_0)).trans hx158_0
   replace hx158_1 := (HB.out.cell (World.block_lt_of_cell? w _ hx158_1)).trans hx158_1
   replace p158 := eq_true p158
   replace q158 := eq_true q158
   go_wp2_with (first | ((with_reducible refine gate_builtin (b := .append) (xs := #[.tmp 11, .tmp 16]) rfl ?_); at_builtin; refine Kd.R_append k70 (w0 := w) w.heap.size rfl (.tmp 11) (.tmp 16) 69 70 (.agg #[(.int .u64 0), (.int .u64 0)]) 16 rfl Try.underlying69 info70 rfl (by decide) (by omega) u3 x3_1 (⟨(rd_T61 l0 x4_1).f0, (rd_T61 l0 x4_1).f1⟩ : S70) [.int .u64 ((rd_T61 l0 x4_1).f0), .int .u64 ((rd_T61 l0 x4_1).f1)] (fun _ => True) (fun _ => False) rfl rfl ?aP (fun _ hk => hk.elim) ?aF ?aO ?aB ?aS ?aL ?_; (case aP => exact k70_mkM _ _ _ (⟨(rd_T61 l0 x4_1).f0, (rd_T61 l0 x4_1).f1⟩ : S70)); (case aB => exact (bq HB.out)); (case aF => exact (fun _ _ => trivial)); (case aO => exact (kr HO_3.out)); (case aS => exact (below_size (bq HB.out))); (case aL => have := LMc4.out; omega); intro v160 w5 ho hb hg hat; rw [← Ny159.out] at ho; have HO161 := Aside0.mk ho; replace HB := Aside0.mk hb; clear HO_3; clear ho hb hg hat))
   go_roundg k1
   case measure => have := HK1.out; omega
   case rel => exact ⟨(y159), (wrap64 (x4_1 + 1)), (by first | rfl | (simp; done) | (simp [*]; done)), H', ⟨by have := HK1.out; omega⟩, ⟨kr HO161.out⟩, ⟨bq HB.out⟩⟩
def steeplelaw09_Refs.l0 : Nat → List (List (S61)) → List (List (S70)) → Int → Option ((List (List (S70))))
 | 0, _, _, _ => none
 | k + 1, x0, x3, x4 => if x4 < (x0.length : Int) then (if 0 ≤ x4 then ((steeplelaw01_Ref.f k (rd_L6 x0 x4)).bind fun t163 => (if x3.length < 5864062014805 then (steeplelaw09_Refs.l0 k x0 (x3 ++ [t163]) (wrap64 (x4 + 1))) else (none))) else (none)) else (some x3)
def steeplelaw09_Refs.f (k : Nat) (l0 : List (List (S61))) : Option ((List (List (S70)))) := steeplelaw09_Refs.l0 k l0 ([] : List (List (S70))) 0
theorem steeplelaw09_Refs.calls (k : Nat) (A0 : Option Addr) (c0 : Nat) (l0 : List (List (S61))) (r : List (List (S70))) (w : World) (hr0 : Kd.C (Kd.slice 61 k61) w A0 l0.length l0) (hc0 : l0.length ≤ c0) (h : steeplelaw09_Refs.f k l0 = some r) :
  Calls Try.prog 59 #[.slice A0 l0.length c0] w fun e w' => ∃ v0_ : Value, e = .returned (v0_) ∧ Kd.S (Kd.slice 70 k70) 69 w' w.heap.size (fun _ => True) v0_ r ∧ Below w.heap.size w w' := by
 have HR0 := Aside0.mk hr0
 have HC0 := Aside0.mk hc0
 clear hr0 hc0
 have HB := Aside0.mk (Below.refl w.heap.size w)
 have H : (steeplelaw09_Refs.l0 k l0 ([] : List (List (S70))) 0) = some r := h
 clear h
 have H' := Aside0.mk H
 clear H
 go_enter Try.func59, Try.ntmps59
 go_wp2
 go_loopg [3, 4] k (fun kq v3 v4 w' => ∃ (x3_1 : List (List (S70))) (x4_1 : Int), v4 = .int .i64 x4_1 ∧ Aside0 (steeplelaw09_Refs.l0 kq l0 x3_1 x4_1 = some r) ∧ Aside0 (kq ≤ k) ∧ Aside0 (Kd.S (Kd.slice 70 k70) 69 w' w.heap.size (fun _ => True) v3 x3_1) ∧ Aside0 (Below w.heap.size w w'))
 case atStart => exact ⟨(([] : List (List (S70)))), (0), (by first | rfl | (simp; done) | (simp [*]; done)), H', ⟨Nat.le_refl _⟩, ⟨by first | exact Kd.S_nil _ _ _ _ _ | exact Kd.N_nil _ _ _ _ _ | exact Kd.V_nil _ _ _ _ _ | exact Kd.Q_nil _ _ _ _ _ | exact Kd.R_nil _ _ _ _ _⟩, ⟨bq HB.out⟩⟩
 case round =>
  clear H'
  obtain ⟨x3_1, x4_1, rfl, HA, HK1, HO_3, HB⟩ := hrel
  cases gk with
  | zero => exact absurd HA.out (by simp [steeplelaw09_Refs.l0])
  | succ k1 =>
   have H := HA.out
   clear HA
   simp only [steeplelaw09_Refs.l0] at H
   by_cases c2 : x4_1 < (l0.length : Int)
   rotate_left
   ·rw [if_neg c2] at H
    have c2b0 : decide (x4_1 < (l0.length : Int)) = false := decide_eq_false c2
    clear c2
    obtain rfl := Option.some.inj H
    go_wp2
    go_ret
    exact ⟨_, er, by (with_reducible repeat (first | apply Kd.S_alloc | apply Kd.S_drewN | apply Kd.S_drew)); exact HO_3.out, bq HB.out⟩

   rw [if_pos c2] at H
   have c2b0 : decide (x4_1 < (l0.length : Int)) = true := decide_eq_true c2
   clear c2
   by_cases c3 : 0 ≤ x4_1
   rotate_left
   ·rw [if_neg c3] at H
    exact absurd H (by simp)
   rw [if_pos c3] at H
   have c3b0 : decide (0 ≤ x4_1) = true := decide_eq_true c3
   clear c3
   obtain ⟨t163, A4, H⟩ := bm2 H
   try dsimp only at H
   by_cases c5 : x3_1.length < 5864062014805
   rotate_left
   ·rw [if_neg c5] at H
    exact absurd H (by simp)
   rw [if_pos c5] at H
   have LMc5 := Aside0.mk c5
   clear c5
   obtain ⟨y166, hy166⟩ : ∃ y_ : List (List (S70)), y_ = (x3_1 ++ [t163]) := ⟨_, rfl⟩
   replace H : (steeplelaw09_Refs.l0 k1 l0 y166 (wrap64 (x4_1 + 1))) = some r := by first | (rw [hy166]; with_reducible exact H) | (have H2_ := (Option.bind_some _ _).symm.trans H; rw [hy166]; with_reducible exact H2_) | (have H2_ := (Option.bind_some _ _).symm.trans H; with_reducible exact H2_) | with_reducible exact H | (rw [hy166]; exact H) | exact H
   have Ny166 := Aside0.mk hy166
   clear hy166
   have H' := Aside0.mk H
   clear H
   have p162 : 0 ≤ (x4_1 : Int) := dt
   have q162 : x4_1 < (l0.length : Int) := dt
   obtain ⟨ad162, A162_0, c162_0, e162, hx162_0, hl162_0, hi162_0⟩ := at_L6 HR0.out x4_1 p162 q162
   cases e162
   replace hx162_0 := (HB.out.cell (World.block_lt_of_cell? w _ hx162_0)).trans hx162_0
   have HR162_0 := Aside0.mk hi162_0
   have HC162_0 := Aside0.mk hl162_0
   clear hi162_0 hl162_0
   replace p162 := eq_true p162
   replace q162 := eq_true q162
   go_wp2_with (first | ((with_reducible refine gate_callee (f := 60) rfl ?_); refine gL (some 16) rfl Try.func60 #[.slice A162_0 (rd_L6 l0 x4_1).length c162_0] rfl ?_; (with_reducible refine (steeplelaw01_Ref.calls k1 _ _ (rd_L6 l0 x4_1) t163 _ ?side1 ?side2 A4.out).mono ?_); (case side1 => exact cq (Kd.C_below HR162_0.out HB.out)); (case side2 => exact HC162_0.out); rintro e w6 ⟨v164, rfl, ho0, hb⟩; refine ⟨_, rfl, ?_⟩; have HO165 := kw ho0 HB; replace HO_3 := Aside0.mk (Kd.S_elder' (by (with_reducible repeat (first | apply Kd.S_alloc | apply Kd.S_drewN | apply Kd.S_drew)); exact HO_3.out) (Kd.R_base ho0) hb); replace HB := bh HB hb; (try clear hb); (try clear hk hi); (try clear ho0); obtain ⟨Ao8, co8, eo8⟩ := Kd.R_slice HO165.out; subst eo8) | ((with_reducible refine gate_builtin (b := .append) (xs := #[.tmp 11, .tmp 17]) rfl ?_); at_builtin; refine Kd.S_append (Kd.slice 70 k70) (w0 := w) w.heap.size rfl (.tmp 11) (.tmp 17) 68 69 (.slice none 0 0) 24 rfl Try.underlying68 info69 rfl (by decide) (by omega) u3 x3_1 t163 [.slice Ao8 t163.length co8] (fun _ => True) (fun k_ => some k_ = (.slice Ao8 t163.length co8 : Value).ownBlock) rfl rfl ?aP (fun k_ hk_ => ((Kd.R_mono (ok' := fun k_ => ((fun _ => True)) k_ ∧ some k_ ≠ (u3 : Value).ownBlock) (Kd.R_apart' (HO165.out) (Kd.S_typed HO_3.out) (by decide)) (fun k_ hk => ⟨trivial, hk.2⟩))).1 k_ hk_.symm) ?aF ?aO ?aB ?aS ?aL ?_; (case aP => exact Kd.M_row (Kd.R_mono (Kd.R_tight rfl (Kd.R_mono (ok' := fun k_ => ((fun _ => True)) k_ ∧ some k_ ≠ (u3 : Value).ownBlock) (Kd.R_apart' (HO165.out) (Kd.S_typed HO_3.out) (by decide)) (fun k_ hk => ⟨trivial, hk.2⟩))) (fun _ h_ => h_))); (case aB => exact (bq HB.out)); (case aF => exact (fun _ _ => trivial)); (case aO => exact (by (with_reducible repeat (first | apply Kd.S_alloc | apply Kd.S_drewN | apply Kd.S_drew)); exact Kd.S_mono HO_3.out (fun k_ hk => ⟨trivial, fun e_ => hk.2 e_⟩))); (case aS => exact (below_size (bq HB.out))); (case aL => have := LMc5.out; omega); intro v167 w7 ho hb hg hat; rw [← Ny166.out] at ho; have HO168 := Aside0.mk ho; replace HB := Aside0.mk hb; clear HO_3; clear HO165; clear ho hb hg hat))
   go_roundg k1
   case measure => have := HK1.out; omega
   case rel => exact ⟨(y166), (wrap64 (x4_1 + 1)), (by first | rfl | (simp; done) | (simp [*]; done)), H', ⟨by have := HK1.out; omega⟩, ⟨by (with_reducible repeat (first | apply Kd.S_alloc | apply Kd.S_drewN | apply Kd.S_drew)); exact HO168.out⟩, ⟨bq HB.out⟩⟩
end Go.Proofs.Ythgiifakcgjlaaa.P
