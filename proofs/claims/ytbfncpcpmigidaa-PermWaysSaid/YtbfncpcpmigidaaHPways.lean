/- The law's function PermWays walked (layer 10). Conditions: those that each theorem names. Printed by gen_st.py. -/
import Derived.Test.YtbfncpcpmigidaaHPerm
import Derived.Test.YtbfncpcpmigidaaHWalkB
import Derived.Test.YtbfncpcpmigidaaPx5
import Derived.Test.YtbfncpcpmigidaaPx7
set_option linter.unusedVariables false
set_option linter.unusedSimpArgs false
namespace Go.Proofs.Ytbfncpcpmigidaa.P
open Go.RowKit Go.Proofs.YtbfncpcpmigidaaX Go.Proofs.YtbfncpcpmigidaaW.PrintWords Go.Proofs.YtbfncpcpmigidaaW.PrintLast Go.Proofs.YtbfncpcpmigidaaW.PrintMore
theorem two_info (A B : Option Addr) (n m c d : Nat) : (Try.prog.info? 37).map (·.size) = some #[Value.slice A n c, Value.slice B m d].size := by
  show (Try.prog.info? 37).map (·.size) = some 2
  kernel_rfl
theorem two_one (A B : Option Addr) (n m c d : Nat) : #[Value.slice A n c, Value.slice B m d].all (·.oneCell') = true := by simp [Value.oneCell', Value.cells]
theorem emp_app : ((⟨#[]⟩ : ByteArray) ++ ⟨#[]⟩) = ⟨#[]⟩ := by first | rfl | decide
set_option maxHeartbeats 8000000 in
set_option maxRecDepth 100000 in
theorem pways_far (k : Nat) (bx : Nat → Nat) (ml : Nat → Nat → Nat) (hbx : ∀ b : Nat, b < 256 → perm_box.f k (b : Int) = some (bx b : Int)) (hml : ∀ b q : Nat, b < 256 → q ∈ mixL → perm_mul.f k (q : Int) (b : Int) = some (ml q b : Int)) (hb8 : ∀ b, b < 256 → bx b < 256) (hinj : ∀ b c, b < 256 → c < 256 → bx b = bx c → b = c)
  (h0 : bx 0 = 99) (h1 : bx 1 = 124) (h2 : ml 2 1 = 2) (s : ByteArray) (hs : 200 < s.size) (w : World) :
  Calls Try.prog 5 #[.string s] w fun e w' => e = .returned (.bool true) ∧ Below w.heap.size w w' := by
 have z0 : decide (200 < (s.size : Int)) = true := decide_eq_true (by omega)
 have z1 : decide (200 < s.size) = true := decide_eq_true hs
 clear hs
 have HB := Aside0.mk (Below.refl w.heap.size w)
 have HBX := Aside0.mk hbx
 have HML := Aside0.mk hml
 have HB8 := Aside0.mk hb8
 have HINJ := Aside0.mk hinj
 have H0 := Aside0.mk h0
 have H1 := Aside0.mk h1
 have H2 := Aside0.mk h2
 clear hbx hml hb8 hinj h0 h1 h2
 go_enter Try.func5, Try.ntmps5
 go_wp2_with (first
  | ((with_reducible refine gate_callee (f := 8) rfl ?_); refine goesL_ (some 13) rfl rfl Try.func8 (by kernel_rfl) rfl #[] rfl (by (try simp only [List.map_toArray, List.map_cons, List.map_nil]); first | done | rfl) ?_; (with_reducible refine (make_calls k bx ml HBX.out HML.out HB8.out HINJ.out _).mono ?_); rintro e w11 ⟨g, cs, rfl, hge, hc, ht, hb⟩; refine ⟨_, rfl, ?_⟩; have HC := Aside0.mk hc; have HT := Aside0.mk ht; replace HB := bh HB hb; clear hb hc ht hge)
  | (go_at_call 8; (with_reducible refine (make_calls k bx ml HBX.out HML.out HB8.out HINJ.out _).mono ?_); rintro e w11 ⟨g, cs, rfl, hge, hc, ht, hb⟩; have HC := Aside0.mk hc; have HT := Aside0.mk ht; replace HB := bh HB hb; clear hb hc ht hge)
  | ((with_reducible refine gate_callee (f := 9) rfl ?_); refine goesL_ (some 25) rfl rfl Try.func9 (by kernel_rfl) rfl #[] rfl (by (try simp only [List.map_toArray, List.map_cons, List.map_nil]); first | done | rfl) ?_; (with_reducible refine (awake_calls k bx ml HBX.out HML.out HB8.out HINJ.out H0.out H1.out H2.out _).mono ?_); rintro e w11 ⟨rfl, hb⟩; refine ⟨_, rfl, ?_⟩; replace HC := bb HC hb; replace HB := bh HB hb; (try clear hb))
  | (go_at_call 9; (with_reducible refine (awake_calls k bx ml HBX.out HML.out HB8.out HINJ.out H0.out H1.out H2.out _).mono ?_); rintro e w11 ⟨rfl, hb⟩; replace HC := bb HC hb; replace HB := bh HB hb; (try clear hb)))
 go_ret
 exact ⟨by first | rfl | (simp; done) | (simp [*]; done), HB.out⟩
set_option maxHeartbeats 8000000 in
set_option maxRecDepth 100000 in
theorem pways_size (k : Nat) (bx : Nat → Nat) (ml : Nat → Nat → Nat) (hbx : ∀ b : Nat, b < 256 → perm_box.f k (b : Int) = some (bx b : Int)) (hml : ∀ b q : Nat, b < 256 → q ∈ mixL → perm_mul.f k (q : Int) (b : Int) = some (ml q b : Int)) (hb8 : ∀ b, b < 256 → bx b < 256) (hinj : ∀ b c, b < 256 → c < 256 → bx b = bx c → b = c)
  (h0 : bx 0 = 99) (h1 : bx 1 = 124) (h2 : ml 2 1 = 2) (s : ByteArray) (hs : s.size ≤ 200) (hs2 : s.size ≠ 64) (w : World) :
  Calls Try.prog 5 #[.string s] w fun e w' => e = .returned (.bool true) ∧ Below w.heap.size w w' := by
 have z0 : decide (200 < (s.size : Int)) = false := decide_eq_false (by omega)
 have z1 : decide (200 < s.size) = false := decide_eq_false (by omega)
 have h64 : ((s.size : Int) != 64) = true := by rw [bne_iff_ne]; omega
 have HZ := Aside0.mk hs2
 have ea := emp_app
 clear hs hs2
 have HB := Aside0.mk (Below.refl w.heap.size w)
 have HBX := Aside0.mk hbx
 have HML := Aside0.mk hml
 have HB8 := Aside0.mk hb8
 have HINJ := Aside0.mk hinj
 have H0 := Aside0.mk h0
 have H1 := Aside0.mk h1
 have H2 := Aside0.mk h2
 clear hbx hml hb8 hinj h0 h1 h2
 go_enter Try.func5, Try.ntmps5
 go_wp2_with (first
  | ((with_reducible refine gate_callee (f := 8) rfl ?_); refine goesL_ (some 13) rfl rfl Try.func8 (by kernel_rfl) rfl #[] rfl (by (try simp only [List.map_toArray, List.map_cons, List.map_nil]); first | done | rfl) ?_; (with_reducible refine (make_calls k bx ml HBX.out HML.out HB8.out HINJ.out _).mono ?_); rintro e w11 ⟨g, cs, rfl, hge, hc, ht, hb⟩; refine ⟨_, rfl, ?_⟩; have HC := Aside0.mk hc; have HT := Aside0.mk ht; replace HB := bh HB hb; clear hb hc ht hge)
  | (go_at_call 8; (with_reducible refine (make_calls k bx ml HBX.out HML.out HB8.out HINJ.out _).mono ?_); rintro e w11 ⟨g, cs, rfl, hge, hc, ht, hb⟩; have HC := Aside0.mk hc; have HT := Aside0.mk ht; replace HB := bh HB hb; clear hb hc ht hge)
  | ((with_reducible refine gate_callee (f := 9) rfl ?_); refine goesL_ (some 18) rfl rfl Try.func9 (by kernel_rfl) rfl #[] rfl (by (try simp only [List.map_toArray, List.map_cons, List.map_nil]); first | done | rfl) ?_; (with_reducible refine (awake_calls k bx ml HBX.out HML.out HB8.out HINJ.out H0.out H1.out H2.out _).mono ?_); rintro e w11 ⟨rfl, hb⟩; refine ⟨_, rfl, ?_⟩; replace HC := bb HC hb; replace HB := bh HB hb; (try clear hb))
  | (go_at_call 9; (with_reducible refine (awake_calls k bx ml HBX.out HML.out HB8.out HINJ.out H0.out H1.out H2.out _).mono ?_); rintro e w11 ⟨rfl, hb⟩; replace HC := bb HC hb; replace HB := bh HB hb; (try clear hb))
  | ((with_reducible refine gate_callee (f := 14) rfl ?_); refine goesL_ (some 29) rfl rfl Try.func14 (by kernel_rfl) rfl #[.pointer (some ⟨g, 0, none⟩), .string s] rfl (by (try simp only [List.map_toArray, List.map_cons, List.map_nil]); first | done | rfl) ?_; (with_reducible refine (P_size s HZ.out).mono ?_); rintro e w11 ⟨rfl, hb⟩; refine ⟨_, rfl, ?_⟩; replace HC := bb HC hb; replace HB := bh HB hb; (try clear hb))
  | (go_at_call 14; (with_reducible refine (P_size s HZ.out).mono ?_); rintro e w11 ⟨rfl, hb⟩; replace HC := bb HC hb; replace HB := bh HB hb; (try clear hb))
  | ((with_reducible refine gate_callee (f := 15) rfl ?_); refine goesL_ (some 35) rfl rfl Try.func15 (by kernel_rfl) rfl #[.pointer (some ⟨g, 0, none⟩), .string s] rfl (by (try simp only [List.map_toArray, List.map_cons, List.map_nil]); first | done | rfl) ?_; (with_reducible refine (Q_size s HZ.out).mono ?_); rintro e w11 ⟨rfl, hb⟩; refine ⟨_, rfl, ?_⟩; replace HC := bb HC hb; replace HB := bh HB hb; (try clear hb))
  | (go_at_call 15; (with_reducible refine (Q_size s HZ.out).mono ?_); rintro e w11 ⟨rfl, hb⟩; replace HC := bb HC hb; replace HB := bh HB hb; (try clear hb))
  | ((with_reducible refine gate_callee (f := 16) rfl ?_); refine goesL_ (some 44) rfl rfl Try.func16 (by kernel_rfl) rfl #[.pointer (some ⟨g, 0, none⟩), .string s] rfl (by (try simp only [List.map_toArray, List.map_cons, List.map_nil]); first | done | rfl) ?_; (with_reducible refine (BackP_size s HZ.out).mono ?_); rintro e w11 ⟨rfl, hb⟩; refine ⟨_, rfl, ?_⟩; replace HC := bb HC hb; replace HB := bh HB hb; (try clear hb))
  | (go_at_call 16; (with_reducible refine (BackP_size s HZ.out).mono ?_); rintro e w11 ⟨rfl, hb⟩; replace HC := bb HC hb; replace HB := bh HB hb; (try clear hb))
  | ((with_reducible refine gate_callee (f := 17) rfl ?_); refine goesL_ (some 50) rfl rfl Try.func17 (by kernel_rfl) rfl #[.pointer (some ⟨g, 0, none⟩), .string s] rfl (by (try simp only [List.map_toArray, List.map_cons, List.map_nil]); first | done | rfl) ?_; (with_reducible refine (BackQ_size s HZ.out).mono ?_); rintro e w11 ⟨rfl, hb⟩; refine ⟨_, rfl, ?_⟩; replace HC := bb HC hb; replace HB := bh HB hb; (try clear hb))
  | (go_at_call 17; (with_reducible refine (BackQ_size s HZ.out).mono ?_); rintro e w11 ⟨rfl, hb⟩; replace HC := bb HC hb; replace HB := bh HB hb; (try clear hb)))
 go_ret
 exact ⟨by first | rfl | (simp; done) | (simp [*]; done), HB.out⟩
theorem str_eq2 {P : Program} {f : FuncId} {args : Array Value} {w : World} {a b : ByteArray} {n : Int} (h : a = b) (hc : Calls P f args w fun e w' => e = .returned (.tuple #[.string a, .int .i64 n]) ∧ Below w.heap.size w w') : Calls P f args w fun e w' => e = .returned (.tuple #[.string b, .int .i64 n]) ∧ Below w.heap.size w w' := h ▸ hc
set_option maxHeartbeats 8000000 in
set_option maxRecDepth 100000 in
theorem pways_yes (k : Nat) (bx : Nat → Nat) (ml : Nat → Nat → Nat) (hbx : ∀ b : Nat, b < 256 → perm_box.f k (b : Int) = some (bx b : Int)) (hml : ∀ b q : Nat, b < 256 → q ∈ mixL → perm_mul.f k (q : Int) (b : Int) = some (ml q b : Int)) (hb8 : ∀ b, b < 256 → bx b < 256) (hinj : ∀ b c, b < 256 → c < 256 → bx b = bx c → b = c)
  (h0 : bx 0 = 99) (h1 : bx 1 = 124) (h2 : ml 2 1 = 2) (hm8 : ∀ b q : Nat, b < 256 → q ∈ mixL → ml q b < 256) (s p q : ByteArray) (hs : s.size = 64) (ep : strF (wayF bx ml false (bF s)) = p) (eq : strF (wayF bx ml true (bF s)) = q) {K : Nat} {bl : List Int} {tl : List (List Int)} (hmk : steepleref10_Make.f K = some (bl, tl)) (hwp : steepleref10_Way.f K bl tl s false = some p) (hwq : steepleref10_Way.f K bl tl s true = some q) (w : World) :
  Calls Try.prog 5 #[.string s] w fun e w' => e = .returned (.bool true) ∧ Below w.heap.size w w' := by
 have z0 : decide (200 < (s.size : Int)) = false := decide_eq_false (by omega)
 have z1 : decide (200 < s.size) = false := decide_eq_false (by omega)
 have h64 : ((s.size : Int) != 64) = false := by rw [hs]; rfl
 have HZ := Aside0.mk hs
 have EP := Aside0.mk ep
 have EQ := Aside0.mk eq
 have HMK := Aside0.mk hmk
 have HWP := Aside0.mk hwp
 have HWQ := Aside0.mk hwq
 have M8 := Aside0.mk hm8
 clear hs ep eq hmk hwp hwq hm8
 have HB := Aside0.mk (Below.refl w.heap.size w)
 have HBX := Aside0.mk hbx
 have HML := Aside0.mk hml
 have HB8 := Aside0.mk hb8
 have HINJ := Aside0.mk hinj
 have H0 := Aside0.mk h0
 have H1 := Aside0.mk h1
 have H2 := Aside0.mk h2
 clear hbx hml hb8 hinj h0 h1 h2
 go_enter Try.func5, Try.ntmps5
 go_wp2_with (first
  | ((with_reducible refine gate_callee (f := 8) rfl ?_); refine goesL_ (some 13) rfl rfl Try.func8 (by kernel_rfl) rfl #[] rfl (by (try simp only [List.map_toArray, List.map_cons, List.map_nil]); first | done | rfl) ?_; (with_reducible refine (make_calls k bx ml HBX.out HML.out HB8.out HINJ.out _).mono ?_); rintro e w11 ⟨g, cs, rfl, hge, hc, ht, hb⟩; refine ⟨_, rfl, ?_⟩; have HC := Aside0.mk hc; have HT := Aside0.mk ht; replace HB := bh HB hb; clear hb hc ht hge)
  | (go_at_call 8; (with_reducible refine (make_calls k bx ml HBX.out HML.out HB8.out HINJ.out _).mono ?_); rintro e w11 ⟨g, cs, rfl, hge, hc, ht, hb⟩; have HC := Aside0.mk hc; have HT := Aside0.mk ht; replace HB := bh HB hb; clear hb hc ht hge)
  | ((with_reducible refine gate_callee (f := 9) rfl ?_); refine goesL_ (some 18) rfl rfl Try.func9 (by kernel_rfl) rfl #[] rfl (by (try simp only [List.map_toArray, List.map_cons, List.map_nil]); first | done | rfl) ?_; (with_reducible refine (awake_calls k bx ml HBX.out HML.out HB8.out HINJ.out H0.out H1.out H2.out _).mono ?_); rintro e w11 ⟨rfl, hb⟩; refine ⟨_, rfl, ?_⟩; replace HC := bb HC hb; replace HB := bh HB hb; (try clear hb))
  | (go_at_call 9; (with_reducible refine (awake_calls k bx ml HBX.out HML.out HB8.out HINJ.out H0.out H1.out H2.out _).mono ?_); rintro e w11 ⟨rfl, hb⟩; replace HC := bb HC hb; replace HB := bh HB hb; (try clear hb))
  | ((with_reducible refine gate_callee (f := 14) rfl ?_); refine goesL_ (some 29) rfl rfl Try.func14 (by kernel_rfl) rfl #[.pointer (some ⟨g, 0, none⟩), .string s] rfl (by (try simp only [List.map_toArray, List.map_cons, List.map_nil]); first | done | rfl) ?_; (with_reducible refine (str_eq2 EP.out (P_calls M8.out HB8.out HC.out HT.out s HZ.out)).mono ?_); rintro e w11 ⟨rfl, hb⟩; refine ⟨_, rfl, ?_⟩; replace HC := bb HC hb; replace HB := bh HB hb; (try clear hb))
  | (go_at_call 14; (with_reducible refine (str_eq2 EP.out (P_calls M8.out HB8.out HC.out HT.out s HZ.out)).mono ?_); rintro e w11 ⟨rfl, hb⟩; replace HC := bb HC hb; replace HB := bh HB hb; (try clear hb))
  | ((with_reducible refine gate_callee (f := 15) rfl ?_); refine goesL_ (some 35) rfl rfl Try.func15 (by kernel_rfl) rfl #[.pointer (some ⟨g, 0, none⟩), .string s] rfl (by (try simp only [List.map_toArray, List.map_cons, List.map_nil]); first | done | rfl) ?_; (with_reducible refine (str_eq2 EQ.out (Q_calls M8.out HB8.out HC.out HT.out s HZ.out)).mono ?_); rintro e w11 ⟨rfl, hb⟩; refine ⟨_, rfl, ?_⟩; replace HC := bb HC hb; replace HB := bh HB hb; (try clear hb))
  | (go_at_call 15; (with_reducible refine (str_eq2 EQ.out (Q_calls M8.out HB8.out HC.out HT.out s HZ.out)).mono ?_); rintro e w11 ⟨rfl, hb⟩; replace HC := bb HC hb; replace HB := bh HB hb; (try clear hb))
  | ((with_reducible refine gate_callee (f := 18) rfl ?_); refine goesL_ (some 73) rfl rfl Try.func18 (by kernel_rfl) rfl #[] rfl (by (try simp only [List.map_toArray, List.map_cons, List.map_nil]); first | done | rfl) ?_; (with_reducible refine (steepleref10_Make.calls K bl tl _ HMK.out).mono ?_); rintro e w11 ⟨v0, v1, rfl, hr0, hr1, hb⟩; refine ⟨_, rfl, ?_⟩; obtain ⟨A0, d0, rfl, hd0, hC0⟩ := Kd.R_reads hr0; obtain ⟨A1, d1, rfl, hd1, hC1⟩ := Kd.S_reads hr1; have K0 := Aside0.mk hC0; have K1 := Aside0.mk hC1; have D0 := Aside0.mk hd0; have D1 := Aside0.mk hd1; replace HC := bb HC hb; replace HB := bh HB hb; clear hb hr0 hr1 hC0 hC1 hd0 hd1)
  | (go_at_call 18; (with_reducible refine (steepleref10_Make.calls K bl tl _ HMK.out).mono ?_); rintro e w11 ⟨v0, v1, rfl, hr0, hr1, hb⟩; obtain ⟨A0, d0, rfl, hd0, hC0⟩ := Kd.R_reads hr0; obtain ⟨A1, d1, rfl, hd1, hC1⟩ := Kd.S_reads hr1; have K0 := Aside0.mk hC0; have K1 := Aside0.mk hC1; have D0 := Aside0.mk hd0; have D1 := Aside0.mk hd1; replace HC := bb HC hb; replace HB := bh HB hb; clear hb hr0 hr1 hC0 hC1 hd0 hd1)
  | ((with_reducible refine gate_dst (N := 12) rfl ?_); refine box_event ?hg (N := 12) ?hd (cs := #[.slice none 0 0, .slice none 0 0]) (t := 37) ?hr ?_; (case hd => rfl); (case hg => rfl); (case hr => first | (go_simp; done) | (go_simp; rfl)); intro g3 hg3 w3 hbox hb; have B3 := Aside0.mk hbox; have G3 := ge hg3 HB; have G4 := Aside0.mk (Nat.le_of_eq hg3.symm); have KB := Aside0.mk hb; replace HB := bh HB hb; clear hb hbox hg3 HC)
  | ((with_reducible refine gate_store (t := 37) (p := 12) rfl ?_); refine wpList_store_row rfl 37 (.tmp 12) (.tmp 73) rfl g3 #[Value.slice A0 bl.length d0, .slice A1 tl.length d1] (by rfl) (by rfl) 37 _ B3.out (two_info _ _ _ _ _ _) rfl (two_one _ _ _ _ _ _) ?_; replace KB := Aside0.mk (below_setRow KB.out G4.out #[Value.slice A0 bl.length d0, .slice A1 tl.length d1]); replace HB := Aside0.mk (below_setRow HB.out G3.out #[Value.slice A0 bl.length d0, .slice A1 tl.length d1]); replace B3 := Aside0.mk (setRow_heap _ g3 _ #[Value.slice A0 bl.length d0, .slice A1 tl.length d1] 37 (0, 0) B3.out); (generalize World.setRow _ g3 #[Value.slice A0 bl.length d0, .slice A1 tl.length d1] = w4 at HB KB B3 ⊢); have ca := (blk_cell B3.out 0).trans rfl; have cb := (blk_cell B3.out 1).trans rfl)
  | ((with_reducible refine gate_callee (f := 19) rfl ?_); refine goesL_ (some 84) rfl rfl Try.func19 (by kernel_rfl) rfl #[.agg #[.slice A0 bl.length d0, .slice A1 tl.length d1], .string s, .bool false] rfl (by (try simp only [List.map_toArray, List.map_cons, List.map_nil]); first | done | rfl) ?_; (with_reducible refine (steepleref10_Way.calls K _ _ bl _ _ tl s false p _ (Kd.C_below K0.out KB.out) D0.out (Kd.C_below K1.out KB.out) D1.out HWP.out).mono ?_); rintro e w11 ⟨rfl, hb⟩; refine ⟨_, rfl, ?_⟩; clear ca cb; replace B3 := bb B3 hb; replace KB := Aside0.mk (below_step KB.out hb); replace HB := bh HB hb; clear hb; have ca := (blk_cell B3.out 0).trans rfl; have cb := (blk_cell B3.out 1).trans rfl)
  | (go_at_call 19; (with_reducible refine (steepleref10_Way.calls K _ _ bl _ _ tl s false p _ (Kd.C_below K0.out KB.out) D0.out (Kd.C_below K1.out KB.out) D1.out HWP.out).mono ?_); rintro e w11 ⟨rfl, hb⟩; clear ca cb; replace B3 := bb B3 hb; replace KB := Aside0.mk (below_step KB.out hb); replace HB := bh HB hb; clear hb; have ca := (blk_cell B3.out 0).trans rfl; have cb := (blk_cell B3.out 1).trans rfl)
  | ((with_reducible refine gate_callee (f := 19) rfl ?_); refine goesL_ (some 91) rfl rfl Try.func19 (by kernel_rfl) rfl #[.agg #[.slice A0 bl.length d0, .slice A1 tl.length d1], .string s, .bool true] rfl (by (try simp only [List.map_toArray, List.map_cons, List.map_nil]); first | done | rfl) ?_; (with_reducible refine (steepleref10_Way.calls K _ _ bl _ _ tl s true q _ (Kd.C_below K0.out KB.out) D0.out (Kd.C_below K1.out KB.out) D1.out HWQ.out).mono ?_); rintro e w11 ⟨rfl, hb⟩; refine ⟨_, rfl, ?_⟩; clear ca cb; replace B3 := bb B3 hb; replace KB := Aside0.mk (below_step KB.out hb); replace HB := bh HB hb; clear hb; have ca := (blk_cell B3.out 0).trans rfl; have cb := (blk_cell B3.out 1).trans rfl)
  | (go_at_call 19; (with_reducible refine (steepleref10_Way.calls K _ _ bl _ _ tl s true q _ (Kd.C_below K0.out KB.out) D0.out (Kd.C_below K1.out KB.out) D1.out HWQ.out).mono ?_); rintro e w11 ⟨rfl, hb⟩; clear ca cb; replace B3 := bb B3 hb; replace KB := Aside0.mk (below_step KB.out hb); replace HB := bh HB hb; clear hb; have ca := (blk_cell B3.out 0).trans rfl; have cb := (blk_cell B3.out 1).trans rfl))
 go_ret
 exact ⟨by first | rfl | (simp; done) | (simp [*]; done), HB.out⟩
end Go.Proofs.Ytbfncpcpmigidaa.P
