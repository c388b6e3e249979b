/- Numbers of the code as words of the tower, evaluation for enough rounds, and elements of two words. Conditions: those that each theorem names. -/
import Derived.Test.YthgiifakcgjlaaaTw
import Derived.Test.YthgiifakcgjlaaaWWords
set_option linter.unusedVariables false
namespace Go.Proofs.Ythgiifakcgjlaaa.Br
open Go.RowKit Go.Proofs.YthgiifakcgjlaaaT Go.Proofs.YthgiifakcgjlaaaW.PrintWords Go.Proofs.YthgiifakcgjlaaaW.PrintLast Go.Proofs.YthgiifakcgjlaaaW.PrintMore
theorem wrap_u64 (n : Nat) (h : n < 2 ^ 64) : IntKind.u64.wrap (n : Int) = n := by
  simp [IntKind.wrap, IntKind.bits, IntKind.signed]; omega
theorem bv_of (n : Nat) (h : n < 2 ^ 64) : (BitVec.ofInt 64 (n : Int)).toNat = n := by
  rw [BitVec.toNat_ofInt]
  omega
theorem bits_and (m n : Nat) (hm : m < 2 ^ 64) (hn : n < 2 ^ 64) : Go.bits .and .u64 (m : Int) (n : Int) = ((m &&& n : Nat) : Int) := by
  show IntKind.u64.wrap (((BitVec.ofInt 64 (m : Int)) &&& (BitVec.ofInt 64 (n : Int))).toNat : Int) = _
  rw [BitVec.toNat_and, bv_of m hm, bv_of n hn]
  exact wrap_u64 _ (Nat.and_lt_two_pow _ hn)
theorem bits_or (m n : Nat) (hm : m < 2 ^ 64) (hn : n < 2 ^ 64) : Go.bits .or .u64 (m : Int) (n : Int) = ((m ||| n : Nat) : Int) := by
  show IntKind.u64.wrap (((BitVec.ofInt 64 (m : Int)) ||| (BitVec.ofInt 64 (n : Int))).toNat : Int) = _
  rw [BitVec.toNat_or, bv_of m hm, bv_of n hn]
  exact wrap_u64 _ (Nat.or_lt_two_pow hm hn)
theorem shr_u64 (m c : Nat) (hc : c ≤ 64) : shr .u64 (m : Int) (c : Int) = ((m / 2 ^ c : Nat) : Int) := by
  unfold shr
  rw [Int.toNat_natCast, show IntKind.u64.bits = 64 from rfl, Nat.min_eq_left hc, Int.natCast_ediv, Int.natCast_pow]
  rfl
theorem shl_u64 (m c : Nat) (hc : c ≤ 64) (h : m * 2 ^ c < 2 ^ 64) : shl .u64 (m : Int) (c : Int) = ((m * 2 ^ c : Nat) : Int) := by
  unfold shl
  rw [Int.toNat_natCast, show IntKind.u64.bits = 64 from rfl, Nat.min_eq_left hc]
  have : ((m : Int) * 2 ^ c) = ((m * 2 ^ c : Nat) : Int) := by rw [Int.natCast_mul, Int.natCast_pow]; rfl
  rw [this]
  exact wrap_u64 _ h
theorem shl1_u64 : ∀ k : Nat, k < 7 → shl .u64 1 (k : Int) = ((2 ^ k : Nat) : Int) := by decide
theorem lt64 {k : Nat} (h : k ≤ 6) (a : T k) : enc k a < 2 ^ 64 := Nat.lt_of_lt_of_le (enc_lt k a) (Nat.pow_le_pow_right (by decide) (Nat.pow_le_pow_right (by decide) h))
theorem or_join (a : Nat) {b i : Nat} (h : b < 2 ^ i) : a * 2 ^ i ||| b = a * 2 ^ i + b := by
  rw [← Nat.shiftLeft_eq, Nat.shiftLeft_add_eq_or_of_lt h]
/-! Evaluation, for enough rounds. -/
theorem Ev.succ {α : Type} {g : Nat → Option α} {r : α} (h : Ev (fun k => g (k + 1)) r) : Ev g r := Ev.step (fun _ => rfl) h
theorem Ev.pos {α : Type} {c : Prop} [Decidable c] {f g : Nat → Option α} {r : α} (hc : c) (h : Ev f r) : Ev (fun k => if c then f k else g k) r := Ev.congr (fun _ => if_pos hc) h
theorem Ev.neg {α : Type} {c : Prop} [Decidable c] {f g : Nat → Option α} {r : α} (hc : ¬ c) (h : Ev g r) : Ev (fun k => if c then f k else g k) r := Ev.congr (fun _ => if_neg hc) h
theorem Ev.const {α : Type} {g : Option α} {r : α} (h : g = some r) : Ev (fun _ => g) r := ⟨0, fun _ _ => h⟩
theorem Ev.from {α : Type} {g : Nat → Option α} {r : α} (N : Nat) (h : ∀ k, N ≤ k → g k = some r) : Ev g r := ⟨N, h⟩
/-! Elements: two words each. -/
def hiW (x : T 7) : Int := (enc 6 x.1 : Int)
def loW (x : T 7) : Int := (enc 6 x.2 : Int)
theorem u64_wf {a : Int} : (Lit.int .u64 a).wf = true ↔ 0 ≤ a ∧ a < 18446744073709551616 := by
  simp [Lit.wf, IntKind.min, IntKind.max, IntKind.bits, IntKind.signed]
  omega
theorem el_of {a b : Int} (ha : (Lit.int .u64 a).wf = true) (hb : (Lit.int .u64 b).wf = true) : ∃ x : T 7, a = hiW x ∧ b = loW x := by
  have h1 : 0 ≤ a ∧ a < 18446744073709551616 := u64_wf.1 ha
  have h2 : 0 ≤ b ∧ b < 18446744073709551616 := u64_wf.1 hb
  refine ⟨((dec 6 a.toNat, dec 6 b.toNat) : T 6 × T 6), ?_, ?_⟩
  · show a = (enc 6 (dec 6 a.toNat) : Int)
    rw [enc_dec_of_lt (by show a.toNat < 18446744073709551616; omega)]
    omega
  · show b = (enc 6 (dec 6 b.toNat) : Int)
    rw [enc_dec_of_lt (by show b.toNat < 18446744073709551616; omega)]
    omega
theorem enc7 (x : T 7) : enc 7 x = enc 6 x.1 * 2 ^ 64 + enc 6 x.2 := rfl
/-- Is an element of a level (any number)? -/
def ofB (l : Int) (x : T 7) : Bool := decide (0 ≤ l ∧ l ≤ 7 ∧ enc 7 x < 2 ^ 2 ^ l.toNat)
theorem ofB_iff {l : Int} {x : T 7} : ofB l x = true ↔ ∃ j : Nat, l = j ∧ j ≤ 7 ∧ InL j x := by
  unfold ofB
  rw [decide_eq_true_eq]
  constructor
  · rintro ⟨h1, h2, h3⟩
    exact ⟨l.toNat, by omega, by omega, h3⟩
  · rintro ⟨j, rfl, h1, h2⟩
    exact ⟨by omega, by omega, by rw [Int.toNat_natCast]; exact h2⟩
theorem ofB_nat {j : Nat} (h : j ≤ 7) {x : T 7} (hx : InL j x) : ofB (j : Int) x = true := ofB_iff.2 ⟨j, rfl, h, hx⟩
theorem shr_zero {l : Nat} (hl : l ≤ 5) (n : Nat) (hn : n < 2 ^ 64) : (shr .u64 (n : Int) (shl .u64 1 (l : Int)) == 0) = decide (n < 2 ^ 2 ^ l) := by
  rw [shl1_u64 l (by omega), shr_u64 _ _ (Nat.le_trans (Nat.pow_le_pow_right (by decide) (show l ≤ 6 by omega)) (by decide))]
  have : (((n / 2 ^ 2 ^ l : Nat) : Int) == 0) = decide (n / 2 ^ 2 ^ l = 0) := by
    rw [Bool.eq_iff_iff, beq_iff_eq, decide_eq_true_eq]
    omega
  rw [this]
  congr 1
  rw [Nat.div_eq_zero_iff]
  have := Nat.two_pow_pos (2 ^ l)
  exact propext ⟨fun h => by omega, fun h => .inr h⟩
theorem and1_u64 (n : Nat) (hn : n < 2 ^ 64) : Go.bits .and .u64 (n : Int) 1 = ((n % 2 : Nat) : Int) := by
  have := bits_and n 1 hn (by decide)
  rw [Nat.and_one_is_mod] at this
  exact this
theorem wrap_succ (i : Nat) (h : i < 9223372036854775807) : wrap64 ((i : Int) + 1) = ((i + 1 : Nat) : Int) := by unfold wrap64; omega
/-! Elements cut down to a level. -/
end Go.Proofs.Ythgiifakcgjlaaa.Br
