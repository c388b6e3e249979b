/- Merkle's functions without tables, in the print's form. Conditions: those that each theorem names. Printed by gen_nil12.py. -/
import Derived.Test.YtmibjgjgfombaaaHSu
import Derived.WalkMore
import Derived.Test.YtmibjgjgfombaaaPx4
set_option linter.unusedVariables false
set_option linter.unusedSimpArgs false
set_option maxRecDepth 100000
namespace Go.Proofs.Ytmibjgjgfombaaa.P
open Go.RowKit Go.Proofs.Ytmibjgjgfombaaa.Br Go.Proofs.YtmibjgjgfombaaaX Go.Proofs.YtmibjgjgfombaaaW.PrintWords Go.Proofs.YtmibjgjgfombaaaW.PrintLast Go.Proofs.YtmibjgjgfombaaaW.PrintMore
theorem sumNil (s : ByteArray) (w : World) : Calls Try.prog 29 #[.pointer none, .string s] w fun e w' => e = .returned (.string ⟨#[]⟩) ∧ Below w.heap.size w w' := sum_nil s
def merkle_LeafNil.f (s : ByteArray) : Option ByteArray := if s.size ≤ 1000000 then some (⟨#[]⟩ : ByteArray) else none
def merkle_NodeNil.f (a b : ByteArray) : Option ByteArray := if a.size ≤ 1000000 ∧ b.size ≤ 1000000 then some (⟨#[]⟩ : ByteArray) else none
theorem leafText_f {s : ByteArray} (h : s.size ≤ 1000000) : merkle_leafText.f s = some ((⟨#[0]⟩ : ByteArray) ++ s) := by
  unfold merkle_leafText.f
  rw [if_pos (by omega)]
theorem nodeText_f {a b : ByteArray} (h : a.size ≤ 1000000 ∧ b.size ≤ 1000000) : merkle_nodeText.f a b = some (((⟨#[1]⟩ : ByteArray) ++ a) ++ b) := by
  have e1 : ((⟨#[1]⟩ : ByteArray) ++ a).size = 1 + a.size := ByteArray.size_append
  unfold merkle_nodeText.f
  rw [if_pos (by omega), if_pos (by omega)]
set_option maxHeartbeats 8000000 in
set_option maxRecDepth 100000 in
theorem leafNil_calls (s : ByteArray) (w : World) (hs : s.size ≤ 1000000) :
  Calls Try.prog 26 #[.pointer none, .string s] w fun e w' => e = .returned (.string ⟨#[]⟩) ∧ Below w.heap.size w w' := by
 have LT := Aside0.mk (leafText_f hs)
 clear hs
 have HB := Aside0.mk (Below.refl w.heap.size w)
 go_enter Try.func26, Try.ntmps26
 go_wp2_with (first
  | ((with_reducible refine gate_callee (f := 40) rfl ?_); refine goesL_ (some 7) rfl rfl Try.func40 (by kernel_rfl) rfl #[.string s] rfl (by (try simp only [List.map_toArray, List.map_cons, List.map_nil]); first | done | rfl) ?_; (with_reducible refine (merkle_leafText.calls s _ _ LT.out).mono ?_); rintro e w11 ⟨rfl, hd⟩; refine ⟨_, rfl, ?_⟩; have hb := hd.below; clear hd; replace HB := bh HB hb; (try clear hb))
  | (go_at_call 40; (with_reducible refine (merkle_leafText.calls s _ _ LT.out).mono ?_); rintro e w11 ⟨rfl, hd⟩; have hb := hd.below; clear hd; replace HB := bh HB hb; (try clear hb))
  | ((with_reducible refine gate_callee (f := 29) rfl ?_); refine goesL_ (some 8) rfl rfl Try.func29 (by kernel_rfl) rfl #[.pointer none, .string ((⟨#[0]⟩ : ByteArray) ++ s)] rfl (by (try simp only [List.map_toArray, List.map_cons, List.map_nil]); first | done | rfl) ?_; (with_reducible refine (sumNil _ _).mono ?_); rintro e w11 ⟨rfl, hb⟩; refine ⟨_, rfl, ?_⟩; replace HB := bh HB hb; (try clear hb))
  | (go_at_call 29; (with_reducible refine (sumNil _ _).mono ?_); rintro e w11 ⟨rfl, hb⟩; replace HB := bh HB hb; (try clear hb)))
 go_ret
 exact ⟨by first | rfl | (simp; done) | (simp [*]; done), HB.out⟩
set_option maxHeartbeats 8000000 in
set_option maxRecDepth 100000 in
theorem nodeNil_calls (a b : ByteArray) (w : World) (hs : a.size ≤ 1000000 ∧ b.size ≤ 1000000) :
  Calls Try.prog 28 #[.pointer none, .string a, .string b] w fun e w' => e = .returned (.string ⟨#[]⟩) ∧ Below w.heap.size w w' := by
 have LT := Aside0.mk (nodeText_f hs)
 clear hs
 have HB := Aside0.mk (Below.refl w.heap.size w)
 go_enter Try.func28, Try.ntmps28
 go_wp2_with (first
  | ((with_reducible refine gate_callee (f := 38) rfl ?_); refine goesL_ (some 10) rfl rfl Try.func38 (by kernel_rfl) rfl #[.string a, .string b] rfl (by (try simp only [List.map_toArray, List.map_cons, List.map_nil]); first | done | rfl) ?_; (with_reducible refine (merkle_nodeText.calls a b _ _ LT.out).mono ?_); rintro e w11 ⟨rfl, hd⟩; refine ⟨_, rfl, ?_⟩; have hb := hd.below; clear hd; replace HB := bh HB hb; (try clear hb))
  | (go_at_call 38; (with_reducible refine (merkle_nodeText.calls a b _ _ LT.out).mono ?_); rintro e w11 ⟨rfl, hd⟩; have hb := hd.below; clear hd; replace HB := bh HB hb; (try clear hb))
  | ((with_reducible refine gate_callee (f := 29) rfl ?_); refine goesL_ (some 11) rfl rfl Try.func29 (by kernel_rfl) rfl #[.pointer none, .string (((⟨#[1]⟩ : ByteArray) ++ a) ++ b)] rfl (by (try simp only [List.map_toArray, List.map_cons, List.map_nil]); first | done | rfl) ?_; (with_reducible refine (sumNil _ _).mono ?_); rintro e w11 ⟨rfl, hb⟩; refine ⟨_, rfl, ?_⟩; replace HB := bh HB hb; (try clear hb))
  | (go_at_call 29; (with_reducible refine (sumNil _ _).mono ?_); rintro e w11 ⟨rfl, hb⟩; replace HB := bh HB hb; (try clear hb)))
 go_ret
 exact ⟨by first | rfl | (simp; done) | (simp [*]; done), HB.out⟩
theorem merkle_LeafNil.calls (a1 : ByteArray) (r : ByteArray) (w : World) (h : merkle_LeafNil.f a1 = some r) : Calls Try.prog 26 #[.pointer none, .string a1] w fun e w' => e = .returned (.string r) ∧ Below w.heap.size w w' := by
 unfold merkle_LeafNil.f at h
 by_cases c : a1.size ≤ 1000000
 · rw [if_pos c] at h
   obtain rfl := Option.some.inj h
   exact leafNil_calls a1 w c
 · rw [if_neg c] at h
   cases h
theorem merkle_NodeNil.calls (a1 a2 : ByteArray) (r : ByteArray) (w : World) (h : merkle_NodeNil.f a1 a2 = some r) : Calls Try.prog 28 #[.pointer none, .string a1, .string a2] w fun e w' => e = .returned (.string r) ∧ Below w.heap.size w w' := by
 unfold merkle_NodeNil.f at h
 by_cases c : a1.size ≤ 1000000 ∧ a2.size ≤ 1000000
 · rw [if_pos c] at h
   obtain rfl := Option.some.inj h
   exact nodeNil_calls a1 a2 w c
 · rw [if_neg c] at h
   cases h
set_option maxHeartbeats 8000000 in
set_option maxRecDepth 100000 in
theorem rowsNil_calls (v : Value) (w : World) :
  Calls Try.prog 12 #[.pointer none, v] w fun e w' => e = .returned (.tuple #[.slice none 0 0, .int .i64 1]) ∧ Below w.heap.size w w' := by
 have HB := Aside0.mk (Below.refl w.heap.size w)
 go_enter Try.func12, Try.ntmps12
 go_wp2
 go_ret2
 exact ⟨by first | rfl | (simp; done) | (simp [*]; done), HB.out⟩
set_option maxHeartbeats 8000000 in
set_option maxRecDepth 100000 in
theorem rootNil_calls (v : Value) (w : World) :
  Calls Try.prog 13 #[.pointer none, v] w fun e w' => e = .returned (.tuple #[.string ⟨#[]⟩, .int .i64 1]) ∧ Below w.heap.size w w' := by
 have HB := Aside0.mk (Below.refl w.heap.size w)
 go_enter Try.func13, Try.ntmps13
 go_wp2_with (first
  | ((with_reducible refine gate_callee (f := 12) rfl ?_); refine goesL_ (some 11) rfl rfl Try.func12 (by kernel_rfl) rfl #[.pointer none, v] rfl (by (try simp only [List.map_toArray, List.map_cons, List.map_nil]); first | done | rfl) ?_; (with_reducible refine (rowsNil_calls v _).mono ?_); rintro e w11 ⟨rfl, hb⟩; refine ⟨_, rfl, ?_⟩; replace HB := bh HB hb; (try clear hb))
  | (go_at_call 12; (with_reducible refine (rowsNil_calls v _).mono ?_); rintro e w11 ⟨rfl, hb⟩; replace HB := bh HB hb; (try clear hb)))
 go_ret2
 exact ⟨by first | rfl | (simp; done) | (simp [*]; done), HB.out⟩
set_option maxHeartbeats 8000000 in
set_option maxRecDepth 100000 in
theorem climbNil_calls (h i : Int) (s : ByteArray) (v : Value) (w : World) :
  Calls Try.prog 22 #[.pointer none, .int .i64 h, .int .i64 i, .string s, v] w fun e w' => e = .returned (.tuple #[.string ⟨#[]⟩, .slice none 0 0, .int .i64 1]) ∧ Below w.heap.size w w' := by
 have HB := Aside0.mk (Below.refl w.heap.size w)
 go_enter Try.func22, Try.ntmps22
 go_wp2
 go_ret3
 exact ⟨by first | rfl | (simp; done) | (simp [*]; done), HB.out⟩
set_option maxHeartbeats 8000000 in
set_option maxRecDepth 100000 in
theorem checkNil_calls (r : ByteArray) (h i : Int) (s : ByteArray) (v : Value) (w : World) (hs : s.size ≤ 1000000) :
  Calls Try.prog 24 #[.pointer none, .string r, .int .i64 h, .int .i64 i, .string s, v] w fun e w' => e = .returned (.bool false) ∧ Below w.heap.size w w' := by
 have HS := Aside0.mk hs
 clear hs
 have HB := Aside0.mk (Below.refl w.heap.size w)
 go_enter Try.func24, Try.ntmps24
 go_wp2_with (first
  | ((with_reducible refine gate_callee (f := 26) rfl ?_); refine goesL_ (some 22) rfl rfl Try.func26 (by kernel_rfl) rfl #[.pointer none, .string s] rfl (by (try simp only [List.map_toArray, List.map_cons, List.map_nil]); first | done | rfl) ?_; (with_reducible refine (leafNil_calls s _ HS.out).mono ?_); rintro e w11 ⟨rfl, hb⟩; refine ⟨_, rfl, ?_⟩; replace HB := bh HB hb; (try clear hb))
  | (go_at_call 26; (with_reducible refine (leafNil_calls s _ HS.out).mono ?_); rintro e w11 ⟨rfl, hb⟩; replace HB := bh HB hb; (try clear hb))
  | ((with_reducible refine gate_callee (f := 22) rfl ?_); refine goesL_ (some 24) rfl rfl Try.func22 (by kernel_rfl) rfl #[.pointer none, .int .i64 h, .int .i64 i, .string ⟨#[]⟩, v] rfl (by (try simp only [List.map_toArray, List.map_cons, List.map_nil]); first | done | rfl) ?_; (with_reducible refine (climbNil_calls h i ⟨#[]⟩ v _).mono ?_); rintro e w11 ⟨rfl, hb⟩; refine ⟨_, rfl, ?_⟩; replace HB := bh HB hb; (try clear hb))
  | (go_at_call 22; (with_reducible refine (climbNil_calls h i ⟨#[]⟩ v _).mono ?_); rintro e w11 ⟨rfl, hb⟩; replace HB := bh HB hb; (try clear hb)))
 go_ret
 exact ⟨by first | rfl | (simp; done) | (simp [*]; done), HB.out⟩
set_option maxHeartbeats 8000000 in
set_option maxRecDepth 100000 in
theorem twinNil_calls (h i : Int) (a b : ByteArray) (v u : Value) (w : World) (ha : a.size ≤ 1000000) (hb : b.size ≤ 1000000) :
  Calls Try.prog 25 #[.pointer none, .int .i64 h, .int .i64 i, .string a, .string b, v, u] w fun e w' => e = .returned (.tuple #[.string ⟨#[]⟩, .string ⟨#[]⟩, .bool false]) ∧ Below w.heap.size w w' := by
 have HA := Aside0.mk ha
 have HBB := Aside0.mk hb
 clear ha hb
 have HB := Aside0.mk (Below.refl w.heap.size w)
 go_enter Try.func25, Try.ntmps25
 go_wp2
 go_step3
 go_wp2_with (first
  | ((with_reducible refine gate_callee (f := 26) rfl ?_); refine goesL_ (some 30) rfl rfl Try.func26 (by kernel_rfl) rfl #[.pointer none, .string a] rfl (by (try simp only [List.map_toArray, List.map_cons, List.map_nil]); first | done | rfl) ?_; (with_reducible refine (leafNil_calls a _ HA.out).mono ?_); rintro e w11 ⟨rfl, hb⟩; refine ⟨_, rfl, ?_⟩; replace HB := bh HB hb; (try clear hb))
  | (go_at_call 26; (with_reducible refine (leafNil_calls a _ HA.out).mono ?_); rintro e w11 ⟨rfl, hb⟩; replace HB := bh HB hb; (try clear hb))
  | ((with_reducible refine gate_callee (f := 22) rfl ?_); refine goesL_ (some 32) rfl rfl Try.func22 (by kernel_rfl) rfl #[.pointer none, .int .i64 h, .int .i64 i, .string ⟨#[]⟩, v] rfl (by (try simp only [List.map_toArray, List.map_cons, List.map_nil]); first | done | rfl) ?_; (with_reducible refine (climbNil_calls h i ⟨#[]⟩ v _).mono ?_); rintro e w11 ⟨rfl, hb⟩; refine ⟨_, rfl, ?_⟩; replace HB := bh HB hb; (try clear hb))
  | (go_at_call 22; (with_reducible refine (climbNil_calls h i ⟨#[]⟩ v _).mono ?_); rintro e w11 ⟨rfl, hb⟩; replace HB := bh HB hb; (try clear hb))
  | ((with_reducible refine gate_callee (f := 26) rfl ?_); refine goesL_ (some 42) rfl rfl Try.func26 (by kernel_rfl) rfl #[.pointer none, .string b] rfl (by (try simp only [List.map_toArray, List.map_cons, List.map_nil]); first | done | rfl) ?_; (with_reducible refine (leafNil_calls b _ HBB.out).mono ?_); rintro e w11 ⟨rfl, hb⟩; refine ⟨_, rfl, ?_⟩; replace HB := bh HB hb; (try clear hb))
  | (go_at_call 26; (with_reducible refine (leafNil_calls b _ HBB.out).mono ?_); rintro e w11 ⟨rfl, hb⟩; replace HB := bh HB hb; (try clear hb))
  | ((with_reducible refine gate_callee (f := 22) rfl ?_); refine goesL_ (some 44) rfl rfl Try.func22 (by kernel_rfl) rfl #[.pointer none, .int .i64 h, .int .i64 i, .string ⟨#[]⟩, u] rfl (by (try simp only [List.map_toArray, List.map_cons, List.map_nil]); first | done | rfl) ?_; (with_reducible refine (climbNil_calls h i ⟨#[]⟩ u _).mono ?_); rintro e w11 ⟨rfl, hb⟩; refine ⟨_, rfl, ?_⟩; replace HB := bh HB hb; (try clear hb))
  | (go_at_call 22; (with_reducible refine (climbNil_calls h i ⟨#[]⟩ u _).mono ?_); rintro e w11 ⟨rfl, hb⟩; replace HB := bh HB hb; (try clear hb)))
 first | (change bodyPost _ _ _ _ _ _; go_ret3) | (unfold Exit.noGoto; go_ret3)
 exact ⟨by first | rfl | (simp; done) | (simp [*]; done), HB.out⟩
def merkle_RowsNil.f (_ : List ByteArray) : Option (List (List ByteArray) × Int) := some ([], 1)
theorem merkle_RowsNil.calls (A1 : Option Addr) (c1 : Nat) (l1 : List ByteArray) (r1 : List (List ByteArray)) (r2 : Int) (w : World) (hr1 : Kd.C Kd.string w A1 l1.length l1) (hc1 : l1.length ≤ c1) (h : merkle_RowsNil.f l1 = some (r1, r2)) :
  Calls Try.prog 12 #[.pointer none, .slice A1 l1.length c1] w fun e w' => ∃ v0 : Value, e = .returned (.tuple #[v0, .int .i64 r2]) ∧ Kd.S (Kd.slice 9 Kd.string) 22 w' w.heap.size (fun _ => True) v0 r1 ∧ Below w.heap.size w w' := by
 obtain ⟨rfl, rfl⟩ : ([] : List (List ByteArray)) = r1 ∧ (1 : Int) = r2 := by simpa [merkle_RowsNil.f] using h
 refine (rowsNil_calls _ w).mono ?_
 rintro e w' ⟨he, hb⟩
 exact ⟨_, he, Kd.S_nil _ _ _ _ _, hb⟩
def merkle_RootNil.f (_ : List ByteArray) : Option (ByteArray × Int) := some (⟨#[]⟩, 1)
theorem merkle_RootNil.calls (A1 : Option Addr) (c1 : Nat) (l1 : List ByteArray) (r1 : ByteArray) (r2 : Int) (w : World) (hr1 : Kd.C Kd.string w A1 l1.length l1) (hc1 : l1.length ≤ c1) (h : merkle_RootNil.f l1 = some (r1, r2)) :
  Calls Try.prog 13 #[.pointer none, .slice A1 l1.length c1] w fun e w' => e = .returned (.tuple #[.string r1, .int .i64 r2]) ∧ Below w.heap.size w w' := by
 obtain ⟨rfl, rfl⟩ : (⟨#[]⟩ : ByteArray) = r1 ∧ (1 : Int) = r2 := by simpa [merkle_RootNil.f] using h
 exact rootNil_calls _ w
def merkle_ClimbNil.f (_ : Nat) (_ _ : Int) (_ : ByteArray) (_ : List ByteArray) : Option (ByteArray × List ByteArray × Int) := some (⟨#[]⟩, [], 1)
theorem merkle_ClimbNil.calls (k : Nat) (a1 a2 : Int) (a3 : ByteArray) (A4 : Option Addr) (c4 : Nat) (l4 : List ByteArray) (r1 : ByteArray) (r2 : List ByteArray) (r3 : Int) (w : World) (hr4 : Kd.C Kd.string w A4 l4.length l4) (hc4 : l4.length ≤ c4) (h : merkle_ClimbNil.f k a1 a2 a3 l4 = some (r1, r2, r3)) :
  Calls Try.prog 22 #[.pointer none, .int .i64 a1, .int .i64 a2, .string a3, .slice A4 l4.length c4] w fun e w' => ∃ v0 : Value, e = .returned (.tuple #[.string r1, v0, .int .i64 r3]) ∧ Kd.R Kd.string 9 w' w.heap.size (fun _ => True) v0 r2 ∧ Below w.heap.size w w' := by
 obtain ⟨rfl, rfl, rfl⟩ : (⟨#[]⟩ : ByteArray) = r1 ∧ ([] : List ByteArray) = r2 ∧ (1 : Int) = r3 := by simpa [merkle_ClimbNil.f] using h
 refine (climbNil_calls a1 a2 a3 _ w).mono ?_
 rintro e w' ⟨he, hb⟩
 exact ⟨_, he, Kd.R_nil _ _ _ _ _, hb⟩
def merkle_CheckNil.f (_ : Nat) (_ : ByteArray) (_ _ : Int) (s : ByteArray) (_ : List ByteArray) : Option Bool := if s.size ≤ 1000000 then some false else none
theorem merkle_CheckNil.calls (k : Nat) (a1 : ByteArray) (a2 a3 : Int) (a4 : ByteArray) (A5 : Option Addr) (c5 : Nat) (l5 : List ByteArray) (r : Bool) (w : World) (hr5 : Kd.C Kd.string w A5 l5.length l5) (hc5 : l5.length ≤ c5) (h : merkle_CheckNil.f k a1 a2 a3 a4 l5 = some r) :
  Calls Try.prog 24 #[.pointer none, .string a1, .int .i64 a2, .int .i64 a3, .string a4, .slice A5 l5.length c5] w fun e w' => e = .returned (.bool r) ∧ Below w.heap.size w w' := by
 unfold merkle_CheckNil.f at h
 by_cases c : a4.size ≤ 1000000
 · rw [if_pos c] at h
   obtain rfl := Option.some.inj h
   exact checkNil_calls a1 a2 a3 a4 _ w c
 · rw [if_neg c] at h
   cases h
def merkle_TwinNil.f (_ _ : Int) (a b : ByteArray) (_ _ : List ByteArray) : Option (ByteArray × ByteArray × Bool) := if a.size ≤ 1000000 ∧ b.size ≤ 1000000 then some (⟨#[]⟩, ⟨#[]⟩, false) else none
theorem merkle_TwinNil.calls (a1 a2 : Int) (a3 a4 : ByteArray) (A5 : Option Addr) (c5 : Nat) (l5 : List ByteArray) (A6 : Option Addr) (c6 : Nat) (l6 : List ByteArray) (r1 r2 : ByteArray) (r3 : Bool) (w : World) (hr5 : Kd.C Kd.string w A5 l5.length l5) (hc5 : l5.length ≤ c5) (hr6 : Kd.C Kd.string w A6 l6.length l6) (hc6 : l6.length ≤ c6) (h : merkle_TwinNil.f a1 a2 a3 a4 l5 l6 = some (r1, r2, r3)) :
  Calls Try.prog 25 #[.pointer none, .int .i64 a1, .int .i64 a2, .string a3, .string a4, .slice A5 l5.length c5, .slice A6 l6.length c6] w fun e w' => e = .returned (.tuple #[.string r1, .string r2, .bool r3]) ∧ Below w.heap.size w w' := by
 unfold merkle_TwinNil.f at h
 by_cases c : a3.size ≤ 1000000 ∧ a4.size ≤ 1000000
 · rw [if_pos c] at h
   obtain ⟨rfl, rfl, rfl⟩ : (⟨#[]⟩ : ByteArray) = r1 ∧ (⟨#[]⟩ : ByteArray) = r2 ∧ false = r3 := by simpa using h
   exact twinNil_calls a1 a2 a3 a4 _ _ w c.1 c.2
 · rw [if_neg c] at h
   cases h
end Go.Proofs.Ytmibjgjgfombaaa.P
