/- The law's function PermOne walked (layer 10). Conditions: those that each theorem names. Printed by gen_st.py. -/
import Derived.Test.YtbfncpcpmigidaaHPerm
import Derived.Deep.QuietTactic
import Derived.BigQuiet
set_option linter.unusedVariables false
set_option linter.unusedSimpArgs false
namespace Go.Proofs.Ytbfncpcpmigidaa.P
open Go.RowKit Go.Proofs.YtbfncpcpmigidaaX Go.Proofs.YtbfncpcpmigidaaW.PrintWords Go.Proofs.YtbfncpcpmigidaaW.PrintLast Go.Proofs.YtbfncpcpmigidaaW.PrintMore
set_option maxHeartbeats 8000000 in
set_option maxRecDepth 100000 in
theorem times_same {g : Nat} {cs : Array Value} {w : World} (hC : w.heap[g]? = some (.cells cs 45 (0, 0))) (q b : Nat) (v : Int) (hq : q < 8) (hb : b < 256) (hv : cs[512 + q * 256 + b]? = some (.int .u8 v)) :
  Calls Try.prog 13 #[.pointer (some ⟨g, 0, none⟩), .int .i64 (q : Int), .int .u8 (b : Int)] w fun e w' => e = .returned (.int .u8 v) ∧ w' = w := by
 have p0 : ((b : Int) < 256) = True := eq_true (by omega)
 have p1 : ((q : Int) < 8) = True := eq_true (by omega)
 have d0 : decide ((q : Int) < 0) = false := decide_eq_false (by omega)
 have d1 : decide (7 < (q : Int)) = false := decide_eq_false (by omega)
 have d2 : decide (7 < q) = false := decide_eq_false (by omega)
 have hc := (blk_cell hC (512 + q * 256 + b)).trans hv
 clear hC hv
 go_enter Try.func13, Try.ntmps13
 go_wp2
 go_ret
 exact ⟨rfl, rfl⟩
def l5 : List Nat := [2, 3, 4, 5, 7]
theorem l5_mem {q : Nat} (h : q ∈ l5) : q ∈ mixL := by
  simp only [l5, mixL, List.mem_cons, List.not_mem_nil, or_false] at h ⊢
  omega
theorem l5_at {j : Nat} (h : j < 5) : (#[Value.int .i64 2, .int .i64 3, .int .i64 4, .int .i64 5, .int .i64 7] : Array Value)[j]? = some (.int .i64 ((l5[j]'h : Nat) : Int)) := by
  have c : j = 0 ∨ j = 1 ∨ j = 2 ∨ j = 3 ∨ j = 4 := by omega
  rcases c with rfl | rfl | rfl | rfl | rfl <;> rfl
set_option maxHeartbeats 8000000 in
set_option maxRecDepth 100000 in
theorem pone_calls (k : Nat) (bx : Nat → Nat) (ml : Nat → Nat → Nat) (hbx : ∀ b : Nat, b < 256 → perm_box.f k (b : Int) = some (bx b : Int)) (hml : ∀ b q : Nat, b < 256 → q ∈ mixL → perm_mul.f k (q : Int) (b : Int) = some (ml q b : Int)) (hb8 : ∀ b, b < 256 → bx b < 256) (hinj : ∀ b c, b < 256 → c < 256 → bx b = bx c → b = c)
  (h0 : bx 0 = 99) (h1 : bx 1 = 124) (h2 : ml 2 1 = 2) (hone : ∀ q a b : Nat, q ∈ mixL → a < 256 → b < 256 → ml q a = ml q b → a = b) (a b : Nat) (ha : a < 256) (hb : b < 256) (w : World) :
  Calls Try.prog 4 #[.int .u8 (a : Int), .int .u8 (b : Int)] w fun e w' => e = .returned (.bool true) ∧ Below w.heap.size w w' := by
 have HB := Aside0.mk (Below.refl w.heap.size w)
 have HBX := Aside0.mk hbx
 have HML := Aside0.mk hml
 have HB8 := Aside0.mk hb8
 have HINJ := Aside0.mk hinj
 have H0 := Aside0.mk h0
 have H1 := Aside0.mk h1
 have H2 := Aside0.mk h2
 clear hbx hml hb8 hinj h0 h1 h2
 have HO := Aside0.mk hone
 have HA8 := Aside0.mk ha
 have HB9 := Aside0.mk hb
 clear hone ha hb
 go_enter Try.func4, Try.ntmps4
 go_wp2_with (first
  | ((with_reducible refine gate_callee (f := 8) rfl ?_); refine goesL_ (some 8) rfl rfl Try.func8 (by kernel_rfl) rfl #[] rfl (by (try simp only [List.map_toArray, List.map_cons, List.map_nil]); first | done | rfl) ?_; (with_reducible refine (make_calls k bx ml HBX.out HML.out HB8.out HINJ.out _).mono ?_); rintro e w11 ⟨g, cs, rfl, hge, hc, ht, hb⟩; refine ⟨_, rfl, ?_⟩; have HC := Aside0.mk hc; have HT := Aside0.mk ht; replace HB := bh HB hb; clear hb hc ht hge)
  | (go_at_call 8; (with_reducible refine (make_calls k bx ml HBX.out HML.out HB8.out HINJ.out _).mono ?_); rintro e w11 ⟨g, cs, rfl, hge, hc, ht, hb⟩; have HC := Aside0.mk hc; have HT := Aside0.mk ht; replace HB := bh HB hb; clear hb hc ht hge)
  | ((with_reducible refine gate_callee (f := 9) rfl ?_); refine goesL_ (some 9) rfl rfl Try.func9 (by kernel_rfl) rfl #[] rfl (by (try simp only [List.map_toArray, List.map_cons, List.map_nil]); first | done | rfl) ?_; (with_reducible refine (awake_calls k bx ml HBX.out HML.out HB8.out HINJ.out H0.out H1.out H2.out _).mono ?_); rintro e w11 ⟨rfl, hb⟩; refine ⟨_, rfl, ?_⟩; replace HC := bb HC hb; replace HB := bh HB hb; (try clear hb))
  | (go_at_call 9; (with_reducible refine (awake_calls k bx ml HBX.out HML.out HB8.out HINJ.out H0.out H1.out H2.out _).mono ?_); rintro e w11 ⟨rfl, hb⟩; replace HC := bb HC hb; replace HB := bh HB hb; (try clear hb)))
 have HL := Aside0.mk (blk_new w11 (.cells #[Value.int .i64 2, .int .i64 3, .int .i64 4, .int .i64 5, .int .i64 7] 3 (0, 0)))
 replace HC := Aside0.mk (blk_alloc HC.out (.cells #[Value.int .i64 2, .int .i64 3, .int .i64 4, .int .i64 5, .int .i64 7] 3 (0, 0)))
 replace HB := bh HB (below_alloc (Below.refl _ w11) (.cells #[Value.int .i64 2, .int .i64 3, .int .i64 4, .int .i64 5, .int .i64 7] 3 (0, 0)))
 obtain ⟨gl, el⟩ : ∃ gl, gl = w11.heap.size := ⟨_, rfl⟩
 rw [← el] at HL ⊢
 clear el
 generalize w11.alloc (.cells #[Value.int .i64 2, .int .i64 3, .int .i64 4, .int .i64 5, .int .i64 7] 3 (0, 0)) = w12 at HL HC HB ⊢
 by_cases hab : a = b
 · subst hab
   go_loopg [7] 5 (fun kq v7 w' => ∃ j : Nat, v7 = .int .i64 (j : Int) ∧ Aside0 (j + kq = 5) ∧ Aside0 (w'.heap[g]? = some (.cells cs 45 (0, 0))) ∧ Aside0 (w'.heap[gl]? = some (.cells #[Value.int .i64 2, .int .i64 3, .int .i64 4, .int .i64 5, .int .i64 7] 3 (0, 0))) ∧ Aside0 (Below w.heap.size w w'))
   case atStart => exact ⟨0, rfl, ⟨rfl⟩, HC, HL, HB⟩
   case round =>
    clear HC HL HB
    obtain ⟨j, rfl, HK, HC, HL, HB⟩ := hrel
    cases gk with
    | zero =>
     obtain rfl : j = 5 := by have := HK.out; omega
     go_wp2_with (first | ((with_reducible refine gate_callee (f := 11) rfl ?_); refine goesL_ (some 43) rfl rfl Try.func11 (by kernel_rfl) rfl #[.pointer (some ⟨g, 0, none⟩), .int .u8 (a : Int)] rfl (by (try simp only [List.map_toArray, List.map_cons, List.map_nil]); first | done | rfl) ?_; (with_reducible refine (box_calls HC.out HT.out a HA8.out).mono ?_); rintro e w11 ⟨rfl, hb⟩; refine ⟨_, rfl, ?_⟩; replace HC := bb HC hb; replace HB := bh HB hb; (try clear hb)) | (go_at_call 11; (with_reducible refine (box_calls HC.out HT.out a HA8.out).mono ?_); rintro e w11 ⟨rfl, hb⟩; replace HC := bb HC hb; replace HB := bh HB hb; (try clear hb)) | ((with_reducible refine gate_callee (f := 11) rfl ?_); refine goesL_ (some 46) rfl rfl Try.func11 (by kernel_rfl) rfl #[.pointer (some ⟨g, 0, none⟩), .int .u8 (a : Int)] rfl (by (try simp only [List.map_toArray, List.map_cons, List.map_nil]); first | done | rfl) ?_; (with_reducible refine (box_calls HC.out HT.out a HA8.out).mono ?_); rintro e w11 ⟨rfl, hb⟩; refine ⟨_, rfl, ?_⟩; replace HC := bb HC hb; replace HB := bh HB hb; (try clear hb)) | (go_at_call 11; (with_reducible refine (box_calls HC.out HT.out a HA8.out).mono ?_); rintro e w11 ⟨rfl, hb⟩; replace HC := bb HC hb; replace HB := bh HB hb; (try clear hb)))
     go_ret
     exact ⟨by first | rfl | (simp; done) | (simp [*]; done), HB.out⟩
    | succ k2 =>
     have hj : j < 5 := by have := HK.out; omega
     have HJ := Aside0.mk hj
     have d0 : decide ((j : Int) < 5) = true := decide_eq_true (by omega)
     have d1 : decide (j < 5) = true := decide_eq_true hj
     have p0 : ((j : Int) < 5) = True := eq_true (by omega)
     have p1 : (0 ≤ (j : Int) ∧ (j : Int) < 5) := ⟨by omega, by omega⟩
     obtain ⟨q, eq⟩ : ∃ q : Nat, q = l5[j]'HJ.out := ⟨_, rfl⟩
     have hq : q ∈ mixL := eq ▸ l5_mem (List.getElem_mem hj)
     have HQM := Aside0.mk hq
     have hcell : wr.cell? ⟨gl, j, none⟩ = some (.int .i64 (q : Int)) := (blk_cell HL.out j).trans (eq ▸ l5_at hj)
     obtain ⟨va, ea⟩ : ∃ va, va = ml q a := ⟨_, rfl⟩
     have EA := Aside0.mk ea
     have VA : Aside0 (cs[512 + q * 256 + a]? = some (.int .u8 (va : Int))) := ⟨by have t := HT.out.times a q HA8.out hq; rw [Nat.mul_comm 256 q, ← ea] at t; exact t⟩
     have Q8 := Aside0.mk (show q < 8 by have := mixL_le hq; omega)
     clear hj eq ea hq
     go_wp2
     refine wp_region_quiet_lit (by kernel_rfl) (by kernel_rfl) ?_
     quiet_step (fail)
     quiet_step (fail)
     quiet_step (fail)
     quiet_step (fail)
     quiet_step (fail)
     quiet_step (fail)
     quiet_step ((go_at_call 13; exact Calls.quiet_of_same (times_same (blk_drewN HC.out _) q a (va : Int) Q8.out HA8.out VA.out)))
     quiet_step (fail)
     quiet_step (fail)
     quiet_step (fail)
     quiet_step (fail)
     quiet_step (fail)
     quiet_step (fail)
     quiet_step ((go_at_call 13; exact Calls.quiet_of_same (times_same (blk_drewN HC.out _) q a (va : Int) Q8.out HA8.out VA.out)))
     quiet_step (fail)
     quiet_step (fail)
     quiet_step (fail)
     quiet_step (fail)
     quiet_step (fail)
     refine wpQuiet_nil ?_
     intro _ hw'
     obtain ⟨nq, hw''⟩ := hw'
     subst hw''
     go_wp2
     go_roundg k2
     case measure => omega
     case rel => exact ⟨j + 1, by rw [Int.natCast_add]; rfl, ⟨by have := HK.out; omega⟩, ⟨blk_drewN HC.out nq⟩, ⟨blk_drewN HL.out nq⟩, ⟨pw_below_drewN HB.out nq⟩⟩
 · have HNE := Aside0.mk hab
   have zab : ((a : Int) == (b : Int)) = false := beq_eq_false_iff_ne.mpr (by omega)
   clear hab
   go_loopg [7] 5 (fun kq v7 w' => ∃ j : Nat, v7 = .int .i64 (j : Int) ∧ Aside0 (j + kq = 5) ∧ Aside0 (w'.heap[g]? = some (.cells cs 45 (0, 0))) ∧ Aside0 (w'.heap[gl]? = some (.cells #[Value.int .i64 2, .int .i64 3, .int .i64 4, .int .i64 5, .int .i64 7] 3 (0, 0))) ∧ Aside0 (Below w.heap.size w w'))
   case atStart => exact ⟨0, rfl, ⟨rfl⟩, HC, HL, HB⟩
   case round =>
    clear HC HL HB
    obtain ⟨j, rfl, HK, HC, HL, HB⟩ := hrel
    cases gk with
    | zero =>
     obtain rfl : j = 5 := by have := HK.out; omega
     have zb : ((bx a : Int) == (bx b : Int)) = false := beq_eq_false_iff_ne.mpr (fun e => HNE.out (HINJ.out a b HA8.out HB9.out (Int.ofNat.inj e)))
     go_wp2_with (first | ((with_reducible refine gate_callee (f := 11) rfl ?_); refine goesL_ (some 43) rfl rfl Try.func11 (by kernel_rfl) rfl #[.pointer (some ⟨g, 0, none⟩), .int .u8 (a : Int)] rfl (by (try simp only [List.map_toArray, List.map_cons, List.map_nil]); first | done | rfl) ?_; (with_reducible refine (box_calls HC.out HT.out a HA8.out).mono ?_); rintro e w11 ⟨rfl, hb⟩; refine ⟨_, rfl, ?_⟩; replace HC := bb HC hb; replace HB := bh HB hb; (try clear hb)) | (go_at_call 11; (with_reducible refine (box_calls HC.out HT.out a HA8.out).mono ?_); rintro e w11 ⟨rfl, hb⟩; replace HC := bb HC hb; replace HB := bh HB hb; (try clear hb)) | ((with_reducible refine gate_callee (f := 11) rfl ?_); refine goesL_ (some 46) rfl rfl Try.func11 (by kernel_rfl) rfl #[.pointer (some ⟨g, 0, none⟩), .int .u8 (b : Int)] rfl (by (try simp only [List.map_toArray, List.map_cons, List.map_nil]); first | done | rfl) ?_; (with_reducible refine (box_calls HC.out HT.out b HB9.out).mono ?_); rintro e w11 ⟨rfl, hb⟩; refine ⟨_, rfl, ?_⟩; replace HC := bb HC hb; replace HB := bh HB hb; (try clear hb)) | (go_at_call 11; (with_reducible refine (box_calls HC.out HT.out b HB9.out).mono ?_); rintro e w11 ⟨rfl, hb⟩; replace HC := bb HC hb; replace HB := bh HB hb; (try clear hb)))
     go_ret
     exact ⟨by first | rfl | (simp; done) | (simp [*]; done), HB.out⟩
    | succ k2 =>
     have hj : j < 5 := by have := HK.out; omega
     have HJ := Aside0.mk hj
     have d0 : decide ((j : Int) < 5) = true := decide_eq_true (by omega)
     have d1 : decide (j < 5) = true := decide_eq_true hj
     have p0 : ((j : Int) < 5) = True := eq_true (by omega)
     have p1 : (0 ≤ (j : Int) ∧ (j : Int) < 5) := ⟨by omega, by omega⟩
     obtain ⟨q, eq⟩ : ∃ q : Nat, q = l5[j]'HJ.out := ⟨_, rfl⟩
     have hq : q ∈ mixL := eq ▸ l5_mem (List.getElem_mem hj)
     have HQM := Aside0.mk hq
     have hcell : wr.cell? ⟨gl, j, none⟩ = some (.int .i64 (q : Int)) := (blk_cell HL.out j).trans (eq ▸ l5_at hj)
     obtain ⟨va, ea⟩ : ∃ va, va = ml q a := ⟨_, rfl⟩
     have EA := Aside0.mk ea
     obtain ⟨vb, eb⟩ : ∃ vb, vb = ml q b := ⟨_, rfl⟩
     have EB := Aside0.mk eb
     have VA : Aside0 (cs[512 + q * 256 + a]? = some (.int .u8 (va : Int))) := ⟨by have t := HT.out.times a q HA8.out hq; rw [Nat.mul_comm 256 q, ← ea] at t; exact t⟩
     have VB : Aside0 (cs[512 + q * 256 + b]? = some (.int .u8 (vb : Int))) := ⟨by have t := HT.out.times b q HB9.out hq; rw [Nat.mul_comm 256 q, ← eb] at t; exact t⟩
     have Q8 := Aside0.mk (show q < 8 by have := mixL_le hq; omega)
     have zv : ((va : Int) == (vb : Int)) = false := beq_eq_false_iff_ne.mpr (fun e => HNE.out (HO.out q a b HQM.out HA8.out HB9.out (by rw [← EA.out, ← EB.out]; exact Int.ofNat.inj e)))
     clear hj eq ea eb hq
     go_wp2
     refine wp_region_quiet_lit (by kernel_rfl) (by kernel_rfl) ?_
     quiet_step (fail)
     quiet_step (fail)
     quiet_step (fail)
     quiet_step (fail)
     quiet_step (fail)
     quiet_step (fail)
     quiet_step ((go_at_call 13; exact Calls.quiet_of_same (times_same (blk_drewN HC.out _) q a (va : Int) Q8.out HA8.out VA.out)))
     quiet_step (fail)
     quiet_step (fail)
     quiet_step (fail)
     quiet_step (fail)
     quiet_step (fail)
     quiet_step (fail)
     quiet_step ((go_at_call 13; exact Calls.quiet_of_same (times_same (blk_drewN HC.out _) q b (vb : Int) Q8.out HB9.out VB.out)))
     quiet_step (fail)
     quiet_step (fail)
     quiet_step (fail)
     quiet_step (fail)
     quiet_step (fail)
     refine wpQuiet_nil ?_
     intro _ hw'
     obtain ⟨nq, hw''⟩ := hw'
     subst hw''
     go_wp2
     go_roundg k2
     case measure => omega
     case rel => exact ⟨j + 1, by rw [Int.natCast_add]; rfl, ⟨by have := HK.out; omega⟩, ⟨blk_drewN HC.out nq⟩, ⟨blk_drewN HL.out nq⟩, ⟨pw_below_drewN HB.out nq⟩⟩
end Go.Proofs.Ytbfncpcpmigidaa.P
