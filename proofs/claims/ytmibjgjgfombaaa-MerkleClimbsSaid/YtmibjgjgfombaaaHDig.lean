/- Are all texts as long as digests (merkle.digests, over slices.ContainsFunc and IndexFunc)? Conditions: those that each theorem names. -/
import Derived.Test.YtmibjgjgfombaaaPx0
import Derived.Test.YtmibjgjgfombaaaX
set_option linter.unusedVariables false
set_option linter.unusedSimpArgs false
set_option maxRecDepth 100000
namespace Go.Proofs.Ytmibjgjgfombaaa.P
open Go.RowKit Go.Proofs.YtmibjgjgfombaaaX Go.Proofs.YtmibjgjgfombaaaW.PrintWords Go.Proofs.YtmibjgjgfombaaaW.PrintLast Go.Proofs.YtmibjgjgfombaaaW.PrintMore
/-- The first place whose text is not as long as a digest; below 0: there is none. -/
def badAt : List ByteArray → Int → Int
  | [], _ => -1
  | t :: L, i => if t.size = 32 then badAt L (i + 1) else i
theorem badAt_nonneg : ∀ (L : List ByteArray) (i : Int), 0 ≤ i → (decide (0 ≤ badAt L i) = !(L.all fun t => decide (t.size = 32)))
  | [], i, h => rfl
  | t :: L, i, h => by
    unfold badAt
    rw [List.all_cons]
    by_cases c : t.size = 32
    · rw [if_pos c, decide_eq_true c, Bool.true_and]
      exact badAt_nonneg L (i + 1) (by omega)
    · rw [if_neg c, decide_eq_false c, Bool.false_and, decide_eq_true h]
      rfl
set_option maxHeartbeats 8000000 in
theorem dig1_calls (s : ByteArray) (b : Bool) (w : World) (h : ((s.size : Int) != 32) = b) : Calls Try.prog 57 #[.string s] w fun e w' => e = .returned (.bool b) ∧ Below w.heap.size w w' := by
 have HB := Aside0.mk (Below.refl w.heap.size w)
 go_enter Try.func57, Try.ntmps57
 go_wp2
 go_ret
 exact ⟨by first | rfl | (simp; done) | (simp [*]; done), HB.out⟩
set_option maxHeartbeats 8000000 in
theorem idx_calls (A0 : Option Addr) (c0 : Nat) (l0 : List ByteArray) (r : Int) (w : World) (hr0 : Kd.C Kd.string w A0 l0.length l0) (hc0 : l0.length ≤ c0) (hL : l0.length < 1000000000) (h : badAt l0 0 = r) :
  Calls Try.prog 80 #[.slice A0 l0.length c0, .func (.func 57) #[] #[]] w fun e w' => e = .returned (.int .i64 r) ∧ Below w.heap.size w w' := by
 have HR0 := Aside0.mk hr0
 have HC0 := Aside0.mk hc0
 have HL := Aside0.mk hL
 have H0 := Aside0.mk h
 have HB := Aside0.mk (Below.refl w.heap.size w)
 clear hr0 hc0 hL h
 go_enter Try.func80, Try.ntmps80
 go_wp2
 go_loopg [8] l0.length (fun kq v8 w' => ∃ i : Nat, v8 = .int .i64 (i : Int) ∧ Aside0 (i + kq = l0.length) ∧ Aside0 (badAt (l0.drop i) (i : Int) = r) ∧ Aside0 (Below w.heap.size w w'))
 case atStart => exact ⟨0, rfl, ⟨Nat.zero_add _⟩, H0, HB⟩
 case round =>
  clear HB H0
  obtain ⟨i, rfl, HK, HA, HB⟩ := hrel
  cases gk with
  | zero =>
   have e0 := HK.out
   have d1 : decide ((i : Int) < (l0.length : Int)) = false := decide_eq_false (by omega)
   have d2 : decide (i < l0.length) = false := decide_eq_false (by omega)
   have hA := HA.out
   rw [List.drop_of_length_le (by omega)] at hA
   have er : r = -1 := hA.symm
   clear hA e0
   go_wp2
   go_ret
   exact ⟨by rw [er]; rfl, HB.out⟩
  | succ gko =>
   have e0 := HK.out
   have hi : i < l0.length := by omega
   have d1 : decide ((i : Int) < (l0.length : Int)) = true := decide_eq_true (by omega)
   have d2 : decide (i < l0.length) = true := decide_eq_true hi
   have p1 : 0 ≤ (i : Int) := by omega
   have q1 : (i : Int) < (l0.length : Int) := by omega
   obtain ⟨ad1, e1, hx1⟩ := Kd.at_string (Kd.C_below HR0.out HB.out) (i : Int) p1 q1
   cases e1
   have et : rdOf ByteArray.empty l0 (i : Int) = l0[i] := by
     unfold rdOf
     rw [Int.toNat_natCast, List.getD_eq_getElem?_getD, List.getElem?_eq_getElem hi, Option.getD_some]
   rw [et] at hx1
   simp only [Int.toNat_natCast] at hx1
   obtain ⟨t, ht⟩ : ∃ t, t = l0[i] := ⟨_, rfl⟩
   rw [← ht] at hx1
   have hA := HA.out
   rw [List.drop_eq_getElem_cons hi, ← ht] at hA
   have HD : Aside0 (badAt (t :: l0.drop (i + 1)) (i : Int) = r) := ⟨hA⟩
   have e9 : wrap64 ((i : Int) + 1) = ((i + 1 : Nat) : Int) := by have := HL.out; unfold wrap64; omega
   clear hA ht et HA
   replace p1 := eq_true p1
   replace q1 := eq_true q1
   have HI := Aside0.mk hi
   have HK2 := Aside0.mk (show (i + 1) + gko = l0.length by omega)
   clear hi e0
   by_cases cz : t.size = 32
   · have hz : ((t.size : Int) != 32) = false := by rw [cz]; rfl
     have HZ := Aside0.mk hz
     have HA2 : Aside0 (badAt (l0.drop (i + 1)) ((i + 1 : Nat) : Int) = r) := ⟨by have := HD.out; unfold badAt at this; rw [if_pos cz] at this; exact this⟩
     clear cz hz HD
     go_wp2_with (first
      | ((with_reducible refine gate_callee (f := 57) rfl ?_); refine goesL_ (some 16) rfl rfl Try.func57 (by kernel_rfl) rfl #[.string t] rfl (by (try simp only [List.map_toArray, List.map_cons, List.map_nil]); first | done | rfl) ?_; (with_reducible refine (dig1_calls t false _ HZ.out).mono ?_); rintro e w11 ⟨rfl, hb⟩; refine ⟨_, rfl, ?_⟩; replace HB := bh HB hb; clear hb)
      | (go_at_call 57; (with_reducible refine (dig1_calls t false _ HZ.out).mono ?_); rintro e w11 ⟨rfl, hb⟩; replace HB := bh HB hb; clear hb))
     go_roundg gko
     case measure => exact Nat.lt_succ_self _
     case rel => exact ⟨i + 1, by first | rfl | (simp; done) | (simp [*]; done), HK2, HA2, HB⟩
   · have hz : ((t.size : Int) != 32) = true := by rw [bne_iff_ne]; omega
     have HZ := Aside0.mk hz
     have er : r = (i : Int) := by have := HD.out; unfold badAt at this; rw [if_neg cz] at this; exact this.symm
     clear cz hz HD
     go_wp2_with (first
      | ((with_reducible refine gate_callee (f := 57) rfl ?_); refine goesL_ (some 16) rfl rfl Try.func57 (by kernel_rfl) rfl #[.string t] rfl (by (try simp only [List.map_toArray, List.map_cons, List.map_nil]); first | done | rfl) ?_; (with_reducible refine (dig1_calls t true _ HZ.out).mono ?_); rintro e w11 ⟨rfl, hb⟩; refine ⟨_, rfl, ?_⟩; replace HB := bh HB hb; clear hb)
      | (go_at_call 57; (with_reducible refine (dig1_calls t true _ HZ.out).mono ?_); rintro e w11 ⟨rfl, hb⟩; replace HB := bh HB hb; clear hb))
     go_ret
     exact ⟨by rw [er]; rfl, HB.out⟩
set_option maxHeartbeats 8000000 in
theorem cont_calls (A0 : Option Addr) (c0 : Nat) (l0 : List ByteArray) (r : Int) (b : Bool) (w : World) (hr0 : Kd.C Kd.string w A0 l0.length l0) (hc0 : l0.length ≤ c0) (hL : l0.length < 1000000000) (h : badAt l0 0 = r) (hb : decide (0 ≤ r) = b) :
  Calls Try.prog 56 #[.slice A0 l0.length c0, .func (.func 57) #[] #[]] w fun e w' => e = .returned (.bool b) ∧ Below w.heap.size w w' := by
 have HR0 := Aside0.mk hr0
 have HC0 := Aside0.mk hc0
 have HL := Aside0.mk hL
 have H0 := Aside0.mk h
 have HB := Aside0.mk (Below.refl w.heap.size w)
 clear hr0 hc0 hL h
 go_enter Try.func56, Try.ntmps56
 go_wp2_with (first
  | ((with_reducible refine gate_callee (f := 80) rfl ?_); refine goesL_ (some 7) rfl rfl Try.func80 (by kernel_rfl) rfl #[.slice A0 l0.length c0, .func (.func 57) #[] #[]] rfl (by (try simp only [List.map_toArray, List.map_cons, List.map_nil]); first | done | rfl) ?_; (with_reducible refine (idx_calls A0 c0 l0 r _ HR0.out HC0.out HL.out H0.out).mono ?_); rintro e w11 ⟨rfl, hbb⟩; refine ⟨_, rfl, ?_⟩; replace HB := bh HB hbb; clear hbb)
  | (go_at_call 80; (with_reducible refine (idx_calls A0 c0 l0 r _ HR0.out HC0.out HL.out H0.out).mono ?_); rintro e w11 ⟨rfl, hbb⟩; replace HB := bh HB hbb; clear hbb))
 go_ret
 exact ⟨by first | rfl | (simp; done) | (simp [*]; done), HB.out⟩
def merkle_digests.f (l : List ByteArray) : Option Bool := if l.length < 1000000000 then some (l.all fun t => decide (t.size = 32)) else none
set_option maxHeartbeats 8000000 in
theorem merkle_digests.calls (A0 : Option Addr) (c0 : Nat) (l0 : List ByteArray) (r : Bool) (w : World) (hr0 : Kd.C Kd.string w A0 l0.length l0) (hc0 : l0.length ≤ c0) (h : merkle_digests.f l0 = some r) :
  Calls Try.prog 37 #[.slice A0 l0.length c0] w fun e w' => e = .returned (.bool r) ∧ Below w.heap.size w w' := by
 unfold merkle_digests.f at h
 by_cases c : l0.length < 1000000000
 rotate_left
 · rw [if_neg c] at h
   cases h
 rw [if_pos c] at h
 obtain ⟨b, eb⟩ : ∃ b, b = !r := ⟨_, rfl⟩
 have hq : decide (0 ≤ badAt l0 0) = b := by rw [badAt_nonneg l0 0 (by decide), Option.some.inj h]; exact eb.symm
 have hbr : (!b) = r := by rw [eb, Bool.not_not]
 have HR0 := Aside0.mk hr0
 have HC0 := Aside0.mk hc0
 have HL := Aside0.mk c
 have HQ := Aside0.mk hq
 have HB := Aside0.mk (Below.refl w.heap.size w)
 clear hr0 hc0 c hq h eb
 go_enter Try.func37, Try.ntmps37
 go_wp2_with (first
  | ((with_reducible refine gate_callee (f := 56) rfl ?_); refine goesL_ (some 4) rfl rfl Try.func56 (by kernel_rfl) rfl #[.slice A0 l0.length c0, .func (.func 57) #[] #[]] rfl (by (try simp only [List.map_toArray, List.map_cons, List.map_nil]); first | done | rfl) ?_; (with_reducible refine (cont_calls A0 c0 l0 _ b _ HR0.out HC0.out HL.out rfl HQ.out).mono ?_); rintro e w11 ⟨rfl, hbb⟩; refine ⟨_, rfl, ?_⟩; replace HB := bh HB hbb; clear hbb)
  | (go_at_call 56; (with_reducible refine (cont_calls A0 c0 l0 _ b _ HR0.out HC0.out HL.out rfl HQ.out).mono ?_); rintro e w11 ⟨rfl, hbb⟩; replace HB := bh HB hbb; clear hbb))
 go_ret
 exact ⟨by first | rfl | (rw [← hbr]; rfl) | (simp [hbr]; done), HB.out⟩
end Go.Proofs.Ytmibjgjgfombaaa.P
