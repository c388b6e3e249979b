/- The law's function PermBack walked (layer 10). Conditions: those that each theorem names. Printed by gen_st.py. -/
import Derived.Test.YtbfncpcpmigidaaHPerm
import Derived.Test.YtbfncpcpmigidaaHWalkB
set_option linter.unusedVariables false
set_option linter.unusedSimpArgs false
namespace Go.Proofs.Ytbfncpcpmigidaa.P
open Go.RowKit Go.Proofs.YtbfncpcpmigidaaX Go.Proofs.YtbfncpcpmigidaaW.PrintWords Go.Proofs.YtbfncpcpmigidaaW.PrintLast Go.Proofs.YtbfncpcpmigidaaW.PrintMore
theorem str_eq {P : Program} {f : FuncId} {args : Array Value} {w : World} {a b : ByteArray} {n : Int} (h : a = b) (hc : Calls P f args w fun e w' => e = .returned (.tuple #[.string a, .int .i64 n]) ∧ Below w.heap.size w w') : Calls P f args w fun e w' => e = .returned (.tuple #[.string b, .int .i64 n]) ∧ Below w.heap.size w w' := h ▸ hc
set_option maxHeartbeats 8000000 in
set_option maxRecDepth 100000 in
theorem pback_yes (k : Nat) (bx : Nat → Nat) (ml : Nat → Nat → Nat) (hbx : ∀ b : Nat, b < 256 → perm_box.f k (b : Int) = some (bx b : Int)) (hml : ∀ b q : Nat, b < 256 → q ∈ mixL → perm_mul.f k (q : Int) (b : Int) = some (ml q b : Int)) (hb8 : ∀ b, b < 256 → bx b < 256) (hinj : ∀ b c, b < 256 → c < 256 → bx b = bx c → b = c)
  (h0 : bx 0 = 99) (h1 : bx 1 = 124) (h2 : ml 2 1 = 2) (hm8 : ∀ b q : Nat, b < 256 → q ∈ mixL → ml q b < 256) {iv ub : Nat → Nat} {c0 : Nat} {ph pl ih : Int} (hpow : tower_Pow.f k 3 0 3 8 = some (ph, pl)) (hinv : tower_Inv.f k 3 ph pl = some (ih, (c0 : Int))) (hc8 : c0 < 256) (hmul : ∀ b : Nat, b < 256 → perm_mul.f k (c0 : Int) (b : Int) = some (iv b : Int)) (hiv : ∀ b, b < 256 → iv b < 256) (hub : ∀ cs : Array Value, Tab bx ml 256 256 256 0 cs → ∀ b, b < 256 → cs[256 + b]? = some (.int .u8 (ub b : Int))) (hu8 : ∀ b, b < 256 → ub b < 256) (s p q c d : ByteArray) (hs : s.size = 64) (ep : strF (wayF bx ml false (bF s)) = p) (eq : strF (wayF bx ml true (bF s)) = q) (ea : strF (backF iv ub ml false (bF p)) = s) (eb : strF (backF iv ub ml true (bF q)) = s) (ec : strF (backF iv ub ml false (bF s)) = c) (ed : strF (backF iv ub ml true (bF s)) = d) (ex : strF (wayF bx ml false (bF c)) = s) (ey : strF (wayF bx ml true (bF d)) = s) (zp : p.size = 64) (zq : q.size = 64) (zc : c.size = 64) (zd : d.size = 64) (w : World) :
  Calls Try.prog 6 #[.string s] w fun e w' => e = .returned (.bool true) ∧ Below w.heap.size w w' := by
 have h64 : ((s.size : Int) != 64) = false := by rw [hs]; rfl
 have HZ := Aside0.mk hs
 have EP := Aside0.mk ep
 have EQ := Aside0.mk eq
 have EA := Aside0.mk ea
 have EB := Aside0.mk eb
 have EC := Aside0.mk ec
 have ED := Aside0.mk ed
 have EX := Aside0.mk ex
 have EY := Aside0.mk ey
 have ZP := Aside0.mk zp
 have ZQ := Aside0.mk zq
 have ZC := Aside0.mk zc
 have ZD := Aside0.mk zd
 clear hs ep eq ea eb ec ed ex ey zp zq zc zd
 have M8 := Aside0.mk hm8
 have HPW := Aside0.mk hpow
 have HIV := Aside0.mk hinv
 have C8 := Aside0.mk hc8
 have HML3 := Aside0.mk hmul
 have V8 := Aside0.mk hiv
 have HUB := Aside0.mk hub
 have U8 := Aside0.mk hu8
 clear hm8 hpow hinv hc8 hmul hiv hub hu8
 have HB := Aside0.mk (Below.refl w.heap.size w)
 have HBX := Aside0.mk hbx
 have HML := Aside0.mk hml
 have HB8 := Aside0.mk hb8
 have HINJ := Aside0.mk hinj
 have H0 := Aside0.mk h0
 have H1 := Aside0.mk h1
 have H2 := Aside0.mk h2
 clear hbx hml hb8 hinj h0 h1 h2
 go_enter Try.func6, Try.ntmps6
 go_wp2_with (first
  | ((with_reducible refine gate_callee (f := 8) rfl ?_); refine goesL_ (some 16) rfl rfl Try.func8 (by kernel_rfl) rfl #[] rfl (by (try simp only [List.map_toArray, List.map_cons, List.map_nil]); first | done | rfl) ?_; (with_reducible refine (make_calls k bx ml HBX.out HML.out HB8.out HINJ.out _).mono ?_); rintro e w11 ⟨g, cs, rfl, hge, hc, ht, hb⟩; refine ⟨_, rfl, ?_⟩; have HC := Aside0.mk hc; have HT := Aside0.mk ht; replace HB := bh HB hb; clear hb hc ht hge)
  | (go_at_call 8; (with_reducible refine (make_calls k bx ml HBX.out HML.out HB8.out HINJ.out _).mono ?_); rintro e w11 ⟨g, cs, rfl, hge, hc, ht, hb⟩; have HC := Aside0.mk hc; have HT := Aside0.mk ht; replace HB := bh HB hb; clear hb hc ht hge)
  | ((with_reducible refine gate_callee (f := 9) rfl ?_); refine goesL_ (some 21) rfl rfl Try.func9 (by kernel_rfl) rfl #[] rfl (by (try simp only [List.map_toArray, List.map_cons, List.map_nil]); first | done | rfl) ?_; (with_reducible refine (awake_calls k bx ml HBX.out HML.out HB8.out HINJ.out H0.out H1.out H2.out _).mono ?_); rintro e w11 ⟨rfl, hb⟩; refine ⟨_, rfl, ?_⟩; replace HC := bb HC hb; replace HB := bh HB hb; (try clear hb))
  | (go_at_call 9; (with_reducible refine (awake_calls k bx ml HBX.out HML.out HB8.out HINJ.out H0.out H1.out H2.out _).mono ?_); rintro e w11 ⟨rfl, hb⟩; replace HC := bb HC hb; replace HB := bh HB hb; (try clear hb))
  | ((with_reducible refine gate_callee (f := 14) rfl ?_); refine goesL_ (some 32) rfl rfl Try.func14 (by kernel_rfl) rfl #[.pointer (some ⟨g, 0, none⟩), .string s] rfl (by (try simp only [List.map_toArray, List.map_cons, List.map_nil]); first | done | rfl) ?_; (with_reducible refine (str_eq EP.out (P_calls M8.out HB8.out HC.out HT.out s HZ.out)).mono ?_); rintro e w11 ⟨rfl, hb⟩; refine ⟨_, rfl, ?_⟩; replace HC := bb HC hb; replace HB := bh HB hb; (try clear hb))
  | (go_at_call 14; (with_reducible refine (str_eq EP.out (P_calls M8.out HB8.out HC.out HT.out s HZ.out)).mono ?_); rintro e w11 ⟨rfl, hb⟩; replace HC := bb HC hb; replace HB := bh HB hb; (try clear hb))
  | ((with_reducible refine gate_callee (f := 15) rfl ?_); refine goesL_ (some 38) rfl rfl Try.func15 (by kernel_rfl) rfl #[.pointer (some ⟨g, 0, none⟩), .string s] rfl (by (try simp only [List.map_toArray, List.map_cons, List.map_nil]); first | done | rfl) ?_; (with_reducible refine (str_eq EQ.out (Q_calls M8.out HB8.out HC.out HT.out s HZ.out)).mono ?_); rintro e w11 ⟨rfl, hb⟩; refine ⟨_, rfl, ?_⟩; replace HC := bb HC hb; replace HB := bh HB hb; (try clear hb))
  | (go_at_call 15; (with_reducible refine (str_eq EQ.out (Q_calls M8.out HB8.out HC.out HT.out s HZ.out)).mono ?_); rintro e w11 ⟨rfl, hb⟩; replace HC := bb HC hb; replace HB := bh HB hb; (try clear hb))
  | ((with_reducible refine gate_callee (f := 16) rfl ?_); refine goesL_ (some 44) rfl rfl Try.func16 (by kernel_rfl) rfl #[.pointer (some ⟨g, 0, none⟩), .string p] rfl (by (try simp only [List.map_toArray, List.map_cons, List.map_nil]); first | done | rfl) ?_; (with_reducible refine (str_eq EA.out (BackP_calls M8.out HB8.out HC.out HT.out p ZP.out HPW.out HIV.out C8.out HML3.out V8.out (HUB.out cs HT.out) U8.out)).mono ?_); rintro e w11 ⟨rfl, hb⟩; refine ⟨_, rfl, ?_⟩; replace HC := bb HC hb; replace HB := bh HB hb; (try clear hb))
  | (go_at_call 16; (with_reducible refine (str_eq EA.out (BackP_calls M8.out HB8.out HC.out HT.out p ZP.out HPW.out HIV.out C8.out HML3.out V8.out (HUB.out cs HT.out) U8.out)).mono ?_); rintro e w11 ⟨rfl, hb⟩; replace HC := bb HC hb; replace HB := bh HB hb; (try clear hb))
  | ((with_reducible refine gate_callee (f := 17) rfl ?_); refine goesL_ (some 50) rfl rfl Try.func17 (by kernel_rfl) rfl #[.pointer (some ⟨g, 0, none⟩), .string q] rfl (by (try simp only [List.map_toArray, List.map_cons, List.map_nil]); first | done | rfl) ?_; (with_reducible refine (str_eq EB.out (BackQ_calls M8.out HB8.out HC.out HT.out q ZQ.out HPW.out HIV.out C8.out HML3.out V8.out (HUB.out cs HT.out) U8.out)).mono ?_); rintro e w11 ⟨rfl, hb⟩; refine ⟨_, rfl, ?_⟩; replace HC := bb HC hb; replace HB := bh HB hb; (try clear hb))
  | (go_at_call 17; (with_reducible refine (str_eq EB.out (BackQ_calls M8.out HB8.out HC.out HT.out q ZQ.out HPW.out HIV.out C8.out HML3.out V8.out (HUB.out cs HT.out) U8.out)).mono ?_); rintro e w11 ⟨rfl, hb⟩; replace HC := bb HC hb; replace HB := bh HB hb; (try clear hb))
  | ((with_reducible refine gate_callee (f := 16) rfl ?_); refine goesL_ (some 80) rfl rfl Try.func16 (by kernel_rfl) rfl #[.pointer (some ⟨g, 0, none⟩), .string s] rfl (by (try simp only [List.map_toArray, List.map_cons, List.map_nil]); first | done | rfl) ?_; (with_reducible refine (str_eq EC.out (BackP_calls M8.out HB8.out HC.out HT.out s HZ.out HPW.out HIV.out C8.out HML3.out V8.out (HUB.out cs HT.out) U8.out)).mono ?_); rintro e w11 ⟨rfl, hb⟩; refine ⟨_, rfl, ?_⟩; replace HC := bb HC hb; replace HB := bh HB hb; (try clear hb))
  | (go_at_call 16; (with_reducible refine (str_eq EC.out (BackP_calls M8.out HB8.out HC.out HT.out s HZ.out HPW.out HIV.out C8.out HML3.out V8.out (HUB.out cs HT.out) U8.out)).mono ?_); rintro e w11 ⟨rfl, hb⟩; replace HC := bb HC hb; replace HB := bh HB hb; (try clear hb))
  | ((with_reducible refine gate_callee (f := 17) rfl ?_); refine goesL_ (some 86) rfl rfl Try.func17 (by kernel_rfl) rfl #[.pointer (some ⟨g, 0, none⟩), .string s] rfl (by (try simp only [List.map_toArray, List.map_cons, List.map_nil]); first | done | rfl) ?_; (with_reducible refine (str_eq ED.out (BackQ_calls M8.out HB8.out HC.out HT.out s HZ.out HPW.out HIV.out C8.out HML3.out V8.out (HUB.out cs HT.out) U8.out)).mono ?_); rintro e w11 ⟨rfl, hb⟩; refine ⟨_, rfl, ?_⟩; replace HC := bb HC hb; replace HB := bh HB hb; (try clear hb))
  | (go_at_call 17; (with_reducible refine (str_eq ED.out (BackQ_calls M8.out HB8.out HC.out HT.out s HZ.out HPW.out HIV.out C8.out HML3.out V8.out (HUB.out cs HT.out) U8.out)).mono ?_); rintro e w11 ⟨rfl, hb⟩; replace HC := bb HC hb; replace HB := bh HB hb; (try clear hb))
  | ((with_reducible refine gate_callee (f := 14) rfl ?_); refine goesL_ (some 92) rfl rfl Try.func14 (by kernel_rfl) rfl #[.pointer (some ⟨g, 0, none⟩), .string c] rfl (by (try simp only [List.map_toArray, List.map_cons, List.map_nil]); first | done | rfl) ?_; (with_reducible refine (str_eq EX.out (P_calls M8.out HB8.out HC.out HT.out c ZC.out)).mono ?_); rintro e w11 ⟨rfl, hb⟩; refine ⟨_, rfl, ?_⟩; replace HC := bb HC hb; replace HB := bh HB hb; (try clear hb))
  | (go_at_call 14; (with_reducible refine (str_eq EX.out (P_calls M8.out HB8.out HC.out HT.out c ZC.out)).mono ?_); rintro e w11 ⟨rfl, hb⟩; replace HC := bb HC hb; replace HB := bh HB hb; (try clear hb))
  | ((with_reducible refine gate_callee (f := 15) rfl ?_); refine goesL_ (some 98) rfl rfl Try.func15 (by kernel_rfl) rfl #[.pointer (some ⟨g, 0, none⟩), .string d] rfl (by (try simp only [List.map_toArray, List.map_cons, List.map_nil]); first | done | rfl) ?_; (with_reducible refine (str_eq EY.out (Q_calls M8.out HB8.out HC.out HT.out d ZD.out)).mono ?_); rintro e w11 ⟨rfl, hb⟩; refine ⟨_, rfl, ?_⟩; replace HC := bb HC hb; replace HB := bh HB hb; (try clear hb))
  | (go_at_call 15; (with_reducible refine (str_eq EY.out (Q_calls M8.out HB8.out HC.out HT.out d ZD.out)).mono ?_); rintro e w11 ⟨rfl, hb⟩; replace HC := bb HC hb; replace HB := bh HB hb; (try clear hb)))
 go_ret
 exact ⟨by first | rfl | (simp; done) | (simp [*]; done), HB.out⟩
set_option maxHeartbeats 8000000 in
set_option maxRecDepth 100000 in
theorem pback_no (k : Nat) (bx : Nat → Nat) (ml : Nat → Nat → Nat) (hbx : ∀ b : Nat, b < 256 → perm_box.f k (b : Int) = some (bx b : Int)) (hml : ∀ b q : Nat, b < 256 → q ∈ mixL → perm_mul.f k (q : Int) (b : Int) = some (ml q b : Int)) (hb8 : ∀ b, b < 256 → bx b < 256) (hinj : ∀ b c, b < 256 → c < 256 → bx b = bx c → b = c)
  (h0 : bx 0 = 99) (h1 : bx 1 = 124) (h2 : ml 2 1 = 2) (s : ByteArray) (hs : s.size ≠ 64) (w : World) :
  Calls Try.prog 6 #[.string s] w fun e w' => e = .returned (.bool true) ∧ Below w.heap.size w w' := by
 have h64 : ((s.size : Int) != 64) = true := by rw [bne_iff_ne]; omega
 clear hs
 have HB := Aside0.mk (Below.refl w.heap.size w)
 have HBX := Aside0.mk hbx
 have HML := Aside0.mk hml
 have HB8 := Aside0.mk hb8
 have HINJ := Aside0.mk hinj
 have H0 := Aside0.mk h0
 have H1 := Aside0.mk h1
 have H2 := Aside0.mk h2
 clear hbx hml hb8 hinj h0 h1 h2
 go_enter Try.func6, Try.ntmps6
 go_wp2_with (first
  | ((with_reducible refine gate_callee (f := 8) rfl ?_); refine goesL_ (some 16) rfl rfl Try.func8 (by kernel_rfl) rfl #[] rfl (by (try simp only [List.map_toArray, List.map_cons, List.map_nil]); first | done | rfl) ?_; (with_reducible refine (make_calls k bx ml HBX.out HML.out HB8.out HINJ.out _).mono ?_); rintro e w11 ⟨g, cs, rfl, hge, hc, ht, hb⟩; refine ⟨_, rfl, ?_⟩; have HC := Aside0.mk hc; have HT := Aside0.mk ht; replace HB := bh HB hb; clear hb hc ht hge)
  | (go_at_call 8; (with_reducible refine (make_calls k bx ml HBX.out HML.out HB8.out HINJ.out _).mono ?_); rintro e w11 ⟨g, cs, rfl, hge, hc, ht, hb⟩; have HC := Aside0.mk hc; have HT := Aside0.mk ht; replace HB := bh HB hb; clear hb hc ht hge)
  | ((with_reducible refine gate_callee (f := 9) rfl ?_); refine goesL_ (some 28) rfl rfl Try.func9 (by kernel_rfl) rfl #[] rfl (by (try simp only [List.map_toArray, List.map_cons, List.map_nil]); first | done | rfl) ?_; (with_reducible refine (awake_calls k bx ml HBX.out HML.out HB8.out HINJ.out H0.out H1.out H2.out _).mono ?_); rintro e w11 ⟨rfl, hb⟩; refine ⟨_, rfl, ?_⟩; replace HC := bb HC hb; replace HB := bh HB hb; (try clear hb))
  | (go_at_call 9; (with_reducible refine (awake_calls k bx ml HBX.out HML.out HB8.out HINJ.out H0.out H1.out H2.out _).mono ?_); rintro e w11 ⟨rfl, hb⟩; replace HC := bb HC hb; replace HB := bh HB hb; (try clear hb)))
 go_ret
 exact ⟨by first | rfl | (simp; done) | (simp [*]; done), HB.out⟩
end Go.Proofs.Ytbfncpcpmigidaa.P
