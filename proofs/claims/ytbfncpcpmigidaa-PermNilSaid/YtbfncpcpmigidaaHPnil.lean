/- The law's function PermNil walked (layer 10). Conditions: those that each theorem names. Printed by gen_st.py. -/
import Derived.Test.YtbfncpcpmigidaaHPerm
import Derived.Test.YtbfncpcpmigidaaHWalkB
set_option linter.unusedVariables false
set_option linter.unusedSimpArgs false
namespace Go.Proofs.Ytbfncpcpmigidaa.P
open Go.RowKit Go.Proofs.YtbfncpcpmigidaaX Go.Proofs.YtbfncpcpmigidaaW.PrintWords Go.Proofs.YtbfncpcpmigidaaW.PrintLast Go.Proofs.YtbfncpcpmigidaaW.PrintMore
set_option maxHeartbeats 8000000 in
set_option maxRecDepth 100000 in
theorem box_nil (b : Int) (w : World) :
  Calls Try.prog 11 #[.pointer none, .int .u8 b] w fun e w' => e = .returned (.int .u8 0) ∧ Below w.heap.size w w' := by
 have HB := Aside0.mk (Below.refl w.heap.size w)
 go_enter Try.func11, Try.ntmps11
 go_wp2
 go_ret
 exact ⟨rfl, HB.out⟩
set_option maxHeartbeats 8000000 in
set_option maxRecDepth 100000 in
theorem times_nil (q b : Int) (w : World) :
  Calls Try.prog 13 #[.pointer none, .int .i64 q, .int .u8 b] w fun e w' => e = .returned (.int .u8 0) ∧ Below w.heap.size w w' := by
 have HB := Aside0.mk (Below.refl w.heap.size w)
 go_enter Try.func13, Try.ntmps13
 go_wp2
 go_ret
 exact ⟨rfl, HB.out⟩
set_option maxHeartbeats 8000000 in
set_option maxRecDepth 100000 in
theorem pnil_calls (k : Nat) (bx : Nat → Nat) (ml : Nat → Nat → Nat) (hbx : ∀ b : Nat, b < 256 → perm_box.f k (b : Int) = some (bx b : Int)) (hml : ∀ b q : Nat, b < 256 → q ∈ mixL → perm_mul.f k (q : Int) (b : Int) = some (ml q b : Int)) (hb8 : ∀ b, b < 256 → bx b < 256) (hinj : ∀ b c, b < 256 → c < 256 → bx b = bx c → b = c)
  (h0 : bx 0 = 99) (h1 : bx 1 = 124) (h2 : ml 2 1 = 2) (s : ByteArray) (b q : Int) (w : World) :
  Calls Try.prog 7 #[.string s, .int .u8 b, .int .i64 q] w fun e w' => e = .returned (.bool true) ∧ Below w.heap.size w w' := by
 have HB := Aside0.mk (Below.refl w.heap.size w)
 have HBX := Aside0.mk hbx
 have HML := Aside0.mk hml
 have HB8 := Aside0.mk hb8
 have HINJ := Aside0.mk hinj
 have H0 := Aside0.mk h0
 have H1 := Aside0.mk h1
 have H2 := Aside0.mk h2
 clear hbx hml hb8 hinj h0 h1 h2
 go_enter Try.func7, Try.ntmps7
 go_wp2_with (first
  | ((with_reducible refine gate_callee (f := 14) rfl ?_); refine goesL_ (some 19) rfl rfl Try.func14 (by kernel_rfl) rfl #[.pointer none, .string s] rfl (by (try simp only [List.map_toArray, List.map_cons, List.map_nil]); first | done | rfl) ?_; (with_reducible refine (P_nil s).mono ?_); rintro e w11 ⟨rfl, hb⟩; refine ⟨_, rfl, ?_⟩; replace HB := bh HB hb; (try clear hb))
  | (go_at_call 14; (with_reducible refine (P_nil s).mono ?_); rintro e w11 ⟨rfl, hb⟩; replace HB := bh HB hb; (try clear hb))
  | ((with_reducible refine gate_callee (f := 15) rfl ?_); refine goesL_ (some 25) rfl rfl Try.func15 (by kernel_rfl) rfl #[.pointer none, .string s] rfl (by (try simp only [List.map_toArray, List.map_cons, List.map_nil]); first | done | rfl) ?_; (with_reducible refine (Q_nil s).mono ?_); rintro e w11 ⟨rfl, hb⟩; refine ⟨_, rfl, ?_⟩; replace HB := bh HB hb; (try clear hb))
  | (go_at_call 15; (with_reducible refine (Q_nil s).mono ?_); rintro e w11 ⟨rfl, hb⟩; replace HB := bh HB hb; (try clear hb))
  | ((with_reducible refine gate_callee (f := 16) rfl ?_); refine goesL_ (some 31) rfl rfl Try.func16 (by kernel_rfl) rfl #[.pointer none, .string s] rfl (by (try simp only [List.map_toArray, List.map_cons, List.map_nil]); first | done | rfl) ?_; (with_reducible refine (BackP_nil s).mono ?_); rintro e w11 ⟨rfl, hb⟩; refine ⟨_, rfl, ?_⟩; replace HB := bh HB hb; (try clear hb))
  | (go_at_call 16; (with_reducible refine (BackP_nil s).mono ?_); rintro e w11 ⟨rfl, hb⟩; replace HB := bh HB hb; (try clear hb))
  | ((with_reducible refine gate_callee (f := 17) rfl ?_); refine goesL_ (some 37) rfl rfl Try.func17 (by kernel_rfl) rfl #[.pointer none, .string s] rfl (by (try simp only [List.map_toArray, List.map_cons, List.map_nil]); first | done | rfl) ?_; (with_reducible refine (BackQ_nil s).mono ?_); rintro e w11 ⟨rfl, hb⟩; refine ⟨_, rfl, ?_⟩; replace HB := bh HB hb; (try clear hb))
  | (go_at_call 17; (with_reducible refine (BackQ_nil s).mono ?_); rintro e w11 ⟨rfl, hb⟩; replace HB := bh HB hb; (try clear hb))
  | ((with_reducible refine gate_callee (f := 9) rfl ?_); refine goesL_ (some 40) rfl rfl Try.func9 (by kernel_rfl) rfl #[] rfl (by (try simp only [List.map_toArray, List.map_cons, List.map_nil]); first | done | rfl) ?_; (with_reducible refine (awake_calls k bx ml HBX.out HML.out HB8.out HINJ.out H0.out H1.out H2.out _).mono ?_); rintro e w11 ⟨rfl, hb⟩; refine ⟨_, rfl, ?_⟩; replace HB := bh HB hb; (try clear hb))
  | (go_at_call 9; (with_reducible refine (awake_calls k bx ml HBX.out HML.out HB8.out HINJ.out H0.out H1.out H2.out _).mono ?_); rintro e w11 ⟨rfl, hb⟩; replace HB := bh HB hb; (try clear hb))
  | ((with_reducible refine gate_callee (f := 11) rfl ?_); refine goesL_ (some 60) rfl rfl Try.func11 (by kernel_rfl) rfl #[.pointer none, .int .u8 b] rfl (by (try simp only [List.map_toArray, List.map_cons, List.map_nil]); first | done | rfl) ?_; (with_reducible refine (box_nil b _).mono ?_); rintro e w11 ⟨rfl, hb⟩; refine ⟨_, rfl, ?_⟩; replace HB := bh HB hb; (try clear hb))
  | (go_at_call 11; (with_reducible refine (box_nil b _).mono ?_); rintro e w11 ⟨rfl, hb⟩; replace HB := bh HB hb; (try clear hb))
  | ((with_reducible refine gate_callee (f := 13) rfl ?_); refine goesL_ (some 67) rfl rfl Try.func13 (by kernel_rfl) rfl #[.pointer none, .int .i64 q, .int .u8 b] rfl (by (try simp only [List.map_toArray, List.map_cons, List.map_nil]); first | done | rfl) ?_; (with_reducible refine (times_nil q b _).mono ?_); rintro e w11 ⟨rfl, hb⟩; refine ⟨_, rfl, ?_⟩; replace HB := bh HB hb; (try clear hb))
  | (go_at_call 13; (with_reducible refine (times_nil q b _).mono ?_); rintro e w11 ⟨rfl, hb⟩; replace HB := bh HB hb; (try clear hb)))
 go_ret
 exact ⟨by first | rfl | (simp; done) | (simp [*]; done), HB.out⟩
end Go.Proofs.Ytbfncpcpmigidaa.P
