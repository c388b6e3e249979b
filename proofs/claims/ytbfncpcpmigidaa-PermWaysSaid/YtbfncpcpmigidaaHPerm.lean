/- The box of a byte and a byte times a small number, out of the tables; the page's example (layer 10). Conditions: those that each theorem names. Printed by gen_perm.py. -/
import Derived.Test.YtbfncpcpmigidaaHMake
set_option linter.unusedVariables false
set_option linter.unusedSimpArgs false
namespace Go.Proofs.Ytbfncpcpmigidaa.P
open Go.RowKit Go.Proofs.YtbfncpcpmigidaaX Go.Proofs.YtbfncpcpmigidaaW.PrintWords Go.Proofs.YtbfncpcpmigidaaW.PrintLast Go.Proofs.YtbfncpcpmigidaaW.PrintMore
set_option maxHeartbeats 4000000 in
set_option maxRecDepth 100000 in
theorem box_calls {bx : Nat → Nat} {ml : Nat → Nat → Nat} {g : Nat} {cs : Array Value} {w : World} (hC : w.heap[g]? = some (.cells cs 45 (0, 0))) (hT : Tab bx ml 256 256 256 0 cs) (b : Nat) (hb : b < 256) :
  Calls Try.prog 11 #[.pointer (some ⟨g, 0, none⟩), .int .u8 (b : Int)] w fun e w' => e = .returned (.int .u8 (bx b : Int)) ∧ Below w.heap.size w w' := by
 have HB := Aside0.mk (Below.refl w.heap.size w)
 have p0 : ((b : Int) < 256) = True := eq_true (by omega)
 have p1 : decide (b < 256) = true := decide_eq_true hb
 have hc := (blk_cell hC b).trans (hT.box b hb)
 have hf := blk_frozen hC b
 clear hC hT
 go_enter Try.func11, Try.ntmps11
 go_wp2
 go_ret
 exact ⟨by first | rfl | (simp; done) | (simp [*]; done), HB.out⟩
set_option maxHeartbeats 4000000 in
set_option maxRecDepth 100000 in
theorem times_none {g : Nat} {w : World} (q : Int) (hq : q < 0 ∨ q > 7) (b : Nat) :
  Calls Try.prog 13 #[.pointer (some ⟨g, 0, none⟩), .int .i64 q, .int .u8 (b : Int)] w fun e w' => e = .returned (.int .u8 0) ∧ Below w.heap.size w w' := by
 have HB := Aside0.mk (Below.refl w.heap.size w)
 by_cases h0 : q < 0
 · have d0 : decide (q < 0) = true := decide_eq_true h0
   clear h0 hq
   go_enter Try.func13, Try.ntmps13
   go_wp2
   go_ret
   exact ⟨by first | rfl | (simp; done) | (simp [*]; done), HB.out⟩
 · have d0 : decide (q < 0) = false := decide_eq_false h0
   have d1 : decide (7 < q) = true := decide_eq_true (by omega)
   clear h0 hq
   go_enter Try.func13, Try.ntmps13
   go_wp2
   go_ret
   exact ⟨by first | rfl | (simp; done) | (simp [*]; done), HB.out⟩
set_option maxHeartbeats 4000000 in
set_option maxRecDepth 100000 in
theorem times_calls {g : Nat} {cs : Array Value} {w : World} (hC : w.heap[g]? = some (.cells cs 45 (0, 0))) (q b : Nat) (v : Int) (hq : q < 8) (hb : b < 256) (hv : cs[512 + q * 256 + b]? = some (.int .u8 v)) :
  Calls Try.prog 13 #[.pointer (some ⟨g, 0, none⟩), .int .i64 (q : Int), .int .u8 (b : Int)] w fun e w' => e = .returned (.int .u8 v) ∧ Below w.heap.size w w' := by
 have HB := Aside0.mk (Below.refl w.heap.size w)
 have p0 : ((b : Int) < 256) = True := eq_true (by omega)
 have p1 : ((q : Int) < 8) = True := eq_true (by omega)
 have d0 : decide ((q : Int) < 0) = false := decide_eq_false (by omega)
 have d1 : decide (7 < (q : Int)) = false := decide_eq_false (by omega)
 have d2 : decide (7 < q) = false := decide_eq_false (by omega)
 have hc := (blk_cell hC (512 + q * 256 + b)).trans hv
 have hf := blk_frozen hC (512 + q * 256 + b)
 clear hC hv
 go_enter Try.func13, Try.ntmps13
 go_wp2
 go_ret
 exact ⟨by first | rfl | (simp; done) | (simp [*]; done), HB.out⟩
theorem box_lit {bx : Nat → Nat} {ml : Nat → Nat → Nat} {g : Nat} {cs : Array Value} {w : World} (hC : w.heap[g]? = some (.cells cs 45 (0, 0))) (hT : Tab bx ml 256 256 256 0 cs) (b : Nat) (hb : b < 256) (x v : Int) (hx : x = (b : Int)) (hv : v = (bx b : Int)) :
  Calls Try.prog 11 #[.pointer (some ⟨g, 0, none⟩), .int .u8 x] w fun e w' => e = .returned (.int .u8 v) ∧ Below w.heap.size w w' := by
 subst hx hv
 exact box_calls hC hT b hb
theorem times_lit {g : Nat} {cs : Array Value} {w : World} (hC : w.heap[g]? = some (.cells cs 45 (0, 0))) (q b : Nat) (hq : q < 8) (hb : b < 256) (x y v : Int) (hx : x = (q : Int)) (hy : y = (b : Int)) (hv : cs[512 + q * 256 + b]? = some (.int .u8 v)) :
  Calls Try.prog 13 #[.pointer (some ⟨g, 0, none⟩), .int .i64 x, .int .u8 y] w fun e w' => e = .returned (.int .u8 v) ∧ Below w.heap.size w w' := by
 subst hx hy
 exact times_calls hC q b v hq hb hv
set_option maxHeartbeats 4000000 in
set_option maxRecDepth 100000 in
theorem awake_calls (k : Nat) (bx : Nat → Nat) (ml : Nat → Nat → Nat) (hbx : ∀ b : Nat, b < 256 → perm_box.f k (b : Int) = some (bx b : Int)) (hml : ∀ b q : Nat, b < 256 → q ∈ mixL → perm_mul.f k (q : Int) (b : Int) = some (ml q b : Int)) (hb8 : ∀ b, b < 256 → bx b < 256) (hinj : ∀ b c, b < 256 → c < 256 → bx b = bx c → b = c)
  (h0 : bx 0 = 99) (h1 : bx 1 = 124) (h2 : ml 2 1 = 2) (w : World) :
  Calls Try.prog 9 #[] w fun e w' => e = .returned (.bool true) ∧ Below w.heap.size w w' := by
 have HB := Aside0.mk (Below.refl w.heap.size w)
 have HBX := Aside0.mk hbx
 have HML := Aside0.mk hml
 have HB8 := Aside0.mk hb8
 have HINJ := Aside0.mk hinj
 have H0 := Aside0.mk h0
 have H1 := Aside0.mk h1
 have H2 := Aside0.mk h2
 clear hbx hml hb8 hinj h0 h1 h2
 go_enter Try.func9, Try.ntmps9
 go_wp2_with (first | ((with_reducible refine gate_callee (f := 8) rfl ?_); refine goesL_ (some 2) rfl rfl Try.func8 (by kernel_rfl) rfl #[] rfl (by (try simp only [List.map_toArray, List.map_cons, List.map_nil]); first | done | rfl) ?_; (with_reducible refine (make_calls k bx ml HBX.out HML.out HB8.out HINJ.out _).mono ?_); rintro e w11 ⟨g, cs, rfl, hge, hc, ht, hb⟩; refine ⟨_, rfl, ?_⟩; have HC := Aside0.mk hc; have HT := Aside0.mk ht; replace HB := bh HB hb; clear hb hc ht hge) | (go_at_call 8; (with_reducible refine (make_calls k bx ml HBX.out HML.out HB8.out HINJ.out _).mono ?_); rintro e w11 ⟨g, cs, rfl, hge, hc, ht, hb⟩; have HC := Aside0.mk hc; have HT := Aside0.mk ht; replace HB := bh HB hb; clear hb hc ht hge) | ((with_reducible refine gate_callee (f := 11) rfl ?_); refine goesL_ (some 7) rfl rfl Try.func11 (by kernel_rfl) rfl #[.pointer (some ⟨g, 0, none⟩), .int .u8 0] rfl (by (try simp only [List.map_toArray, List.map_cons, List.map_nil]); first | done | rfl) ?_; (with_reducible refine (box_lit HC.out HT.out 0 (by decide) 0 99 rfl (by have := H0.out; omega)).mono ?_); rintro e w11 ⟨rfl, hb⟩; refine ⟨_, rfl, ?_⟩; replace HC := bb HC hb; replace HB := bh HB hb; (try clear hb)) | (go_at_call 11; (with_reducible refine (box_lit HC.out HT.out 0 (by decide) 0 99 rfl (by have := H0.out; omega)).mono ?_); rintro e w11 ⟨rfl, hb⟩; replace HC := bb HC hb; replace HB := bh HB hb; (try clear hb)) | ((with_reducible refine gate_callee (f := 11) rfl ?_); refine goesL_ (some 12) rfl rfl Try.func11 (by kernel_rfl) rfl #[.pointer (some ⟨g, 0, none⟩), .int .u8 1] rfl (by (try simp only [List.map_toArray, List.map_cons, List.map_nil]); first | done | rfl) ?_; (with_reducible refine (box_lit HC.out HT.out 1 (by decide) 1 124 rfl (by have := H1.out; omega)).mono ?_); rintro e w11 ⟨rfl, hb⟩; refine ⟨_, rfl, ?_⟩; replace HC := bb HC hb; replace HB := bh HB hb; (try clear hb)) | (go_at_call 11; (with_reducible refine (box_lit HC.out HT.out 1 (by decide) 1 124 rfl (by have := H1.out; omega)).mono ?_); rintro e w11 ⟨rfl, hb⟩; replace HC := bb HC hb; replace HB := bh HB hb; (try clear hb)) | ((with_reducible refine gate_callee (f := 13) rfl ?_); refine goesL_ (some 17) rfl rfl Try.func13 (by kernel_rfl) rfl #[.pointer (some ⟨g, 0, none⟩), .int .i64 2, .int .u8 1] rfl (by (try simp only [List.map_toArray, List.map_cons, List.map_nil]); first | done | rfl) ?_; (with_reducible refine (times_lit HC.out 2 1 (by decide) (by decide) 2 1 2 rfl rfl (by have t := HT.out.times 1 2 (by decide) (by decide); have e : (ml 2 1 : Int) = 2 := (by have := H2.out; omega); rw [e] at t; exact t)).mono ?_); rintro e w11 ⟨rfl, hb⟩; refine ⟨_, rfl, ?_⟩; replace HC := bb HC hb; replace HB := bh HB hb; (try clear hb)) | (go_at_call 13; (with_reducible refine (times_lit HC.out 2 1 (by decide) (by decide) 2 1 2 rfl rfl (by have t := HT.out.times 1 2 (by decide) (by decide); have e : (ml 2 1 : Int) = 2 := (by have := H2.out; omega); rw [e] at t; exact t)).mono ?_); rintro e w11 ⟨rfl, hb⟩; replace HC := bb HC hb; replace HB := bh HB hb; (try clear hb)))
 go_ret
 exact ⟨by first | rfl | (simp; done) | (simp [*]; done), HB.out⟩
end Go.Proofs.Ytbfncpcpmigidaa.P
