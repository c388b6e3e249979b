/- A state of 64 bytes in memory (layer 10). Conditions: those that each theorem names. -/
import Derived.Test.YtaffpnnhoagmaaaHTab
import Derived.StillTailTactics
set_option linter.unusedVariables false
set_option linter.unusedSimpArgs false
namespace Go.Proofs.Ytaffpnnhoagmaaa.P
open Go.RowKit Go.Proofs.YtaffpnnhoagmaaaX Go.Proofs.YtaffpnnhoagmaaaW.PrintWords Go.Proofs.YtaffpnnhoagmaaaW.PrintLast Go.Proofs.YtaffpnnhoagmaaaW.PrintMore
/-- 64 cells are the bytes f. -/
structure Sta (f : Nat → Nat) (cs : Array Value) : Prop where
  size : cs.size = 64
  cell : ∀ n, n < 64 → cs[n]? = some (.int .u8 (f n : Int))
  lt : ∀ n, n < 64 → f n < 256
theorem Sta.congr {f f' : Nat → Nat} {cs : Array Value} (h : Sta f cs) (e : ∀ n, n < 64 → f' n = f n) : Sta f' cs :=
  ⟨h.size, fun n hn => by rw [e n hn]; exact h.cell n hn, fun n hn => by rw [e n hn]; exact h.lt n hn⟩
theorem Sta.set {f f' : Nat → Nat} {cs : Array Value} {i v : Nat} {x : Int} (h : Sta f cs) (hi : i < 64) (hv : v < 256) (hx : x = (v : Int)) (e : ∀ n, n < 64 → f' n = if n = i then v else f n) : Sta f' (cs.setIfInBounds i (.int .u8 x)) := by
  subst hx
  have hz := h.size
  refine ⟨by rw [Array.size_setIfInBounds]; exact hz, fun n hn => ?_, fun n hn => ?_⟩
  · rw [e n hn]
    by_cases c : n = i
    · subst c
      rw [if_pos rfl, set_at (by omega)]
    · rw [if_neg c, set_ne (fun e2 => c e2.symm)]
      exact h.cell n hn
  · rw [e n hn]
    by_cases c : n = i
    · rw [if_pos c]
      exact hv
    · rw [if_neg c]
      exact h.lt n hn
theorem u8_xor (a b : Nat) (ha : a < 256) (hb : b < 256) : Go.bits .xor .u8 (a : Int) (b : Int) = ((a ^^^ b : Nat) : Int) := by
  have h : a ^^^ b < 2 ^ 8 := Nat.xor_lt_two_pow (n := 8) ha hb
  have e1 : (BitVec.ofInt 8 (a : Int)).toNat = a := by rw [BitVec.toNat_ofInt]; omega
  have e2 : (BitVec.ofInt 8 (b : Int)).toNat = b := by rw [BitVec.toNat_ofInt]; omega
  show IntKind.u8.wrap (((BitVec.ofInt 8 (a : Int)) ^^^ (BitVec.ofInt 8 (b : Int))).toNat : Int) = _
  rw [BitVec.toNat_xor, e1, e2]
  simp only [IntKind.wrap, IntKind.bits, IntKind.signed]
  simp
  omega
theorem xor_lt {a b : Nat} (ha : a < 256) (hb : b < 256) : a ^^^ b < 256 := Nat.xor_lt_two_pow (n := 8) ha hb
/-! The numbers of a place in the state: column m, row i. -/
theorem idx_lt {m i : Nat} (hm : m < 8) (hi : i < 8) : (8 * (m : Int) + (i : Int) < 64) = True := eq_true (by omega)
theorem idx_ge {m i : Nat} (hm : m < 8) (hi : i < 8) : (0 ≤ 8 * (m : Int) + (i : Int)) = True := eq_true (by omega)
theorem idx_w0 {m : Nat} (hm : m < 8) : IntKind.i64.wrap (8 * (m : Int)) = 8 * (m : Int) := (i64_w _).trans (by unfold wrap64; omega)
theorem idx_w1 {m i : Nat} (hm : m < 8) (hi : i < 8) : IntKind.i64.wrap (8 * (m : Int) + (i : Int)) = 8 * (m : Int) + (i : Int) := (i64_w _).trans (by unfold wrap64; omega)
theorem idx_nat (m i : Nat) : (8 * (m : Int) + (i : Int)).toNat = 8 * m + i := by omega
theorem idx_64 {m i : Nat} (hm : m < 8) (hi : i < 8) : 8 * m + i < 64 := by omega
theorem idx_sum {c t : Nat} (hc : c < 8) (ht : t < 8) : wrap64 ((c : Int) + (t : Int)) = (c : Int) + (t : Int) := by unfold wrap64; omega
theorem idx_sumw {c t : Nat} (hc : c < 8) (ht : t < 8) : IntKind.i64.wrap ((c : Int) + (t : Int)) = (c : Int) + (t : Int) := (i64_w _).trans (idx_sum hc ht)
theorem idx_mod {c t d : Nat} (hd : d = (c + t) % 8) : ((c : Int) + (t : Int)) % 8 = (d : Int) := by omega
theorem idx_tmod {c t d : Nat} (hd : d = (c + t) % 8) : Int.tmod ((c : Int) + (t : Int)) 8 = (d : Int) := by
  rw [Int.tmod_eq_emod_of_nonneg (by omega)]
  omega
theorem idx_m8 {c t d : Nat} (hd : d = (c + t) % 8) : d < 8 := by omega
theorem step_1 {i : Nat} (hi : i < 1000) : wrap64 ((i : Int) + 1) = ((i + 1 : Nat) : Int) := by unfold wrap64; omega
theorem dec_lt {i n : Nat} (hi : i < n) : decide ((i : Int) < (n : Int)) = true := decide_eq_true (by omega)
end Go.Proofs.Ytaffpnnhoagmaaa.P
