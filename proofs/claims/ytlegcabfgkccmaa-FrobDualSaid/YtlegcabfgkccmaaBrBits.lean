/- Numbers of the code as words of the tower, evaluation for enough rounds, and elements of two words. Conditions: those that each theorem names. -/
import Derived.Test.YtlegcabfgkccmaaTw
import Derived.Test.YtlegcabfgkccmaaWWords
set_option linter.unusedVariables false
namespace Go.Proofs.Ytlegcabfgkccmaa.Br
open Go.RowKit Go.Proofs.YtlegcabfgkccmaaT Go.Proofs.YtlegcabfgkccmaaW.PrintWords Go.Proofs.YtlegcabfgkccmaaW.PrintLast Go.Proofs.YtlegcabfgkccmaaW.PrintMore
theorem wrap_u64 (n : Nat) (h : n < 2 ^ 64) : IntKind.u64.wrap (n : Int) = n := by
  simp [IntKind.wrap, IntKind.bits, IntKind.signed]; omega
theorem bv_of (n : Nat) (h : n < 2 ^ 64) : (BitVec.ofInt 64 (n : Int)).toNat = n := by
  rw [BitVec.toNat_ofInt]
  omega
theorem bits_xor (m n : Nat) (hm : m < 2 ^ 64) (hn : n < 2 ^ 64) : Go.bits .xor .u64 (m : Int) (n : Int) = ((m ^^^ n : Nat) : Int) := by
  show IntKind.u64.wrap (((BitVec.ofInt 64 (m : Int)) ^^^ (BitVec.ofInt 64 (n : Int))).toNat : Int) = _
  rw [BitVec.toNat_xor, bv_of m hm, bv_of n hn]
  exact wrap_u64 _ (Nat.xor_lt_two_pow hm hn)
theorem bits_and (m n : Nat) (hm : m < 2 ^ 64) (hn : n < 2 ^ 64) : Go.bits .and .u64 (m : Int) (n : Int) = ((m &&& n : Nat) : Int) := by
  show IntKind.u64.wrap (((BitVec.ofInt 64 (m : Int)) &&& (BitVec.ofInt 64 (n : Int))).toNat : Int) = _
  rw [BitVec.toNat_and, bv_of m hm, bv_of n hn]
  exact wrap_u64 _ (Nat.and_lt_two_pow _ hn)
theorem bits_or (m n : Nat) (hm : m < 2 ^ 64) (hn : n < 2 ^ 64) : Go.bits .or .u64 (m : Int) (n : Int) = ((m ||| n : Nat) : Int) := by
  show IntKind.u64.wrap (((BitVec.ofInt 64 (m : Int)) ||| (BitVec.ofInt 64 (n : Int))).toNat : Int) = _
  rw [BitVec.toNat_or, bv_of m hm, bv_of n hn]
  exact wrap_u64 _ (Nat.or_lt_two_pow hm hn)
theorem shr_u64 (m c : Nat) (hc : c ≤ 64) : shr .u64 (m : Int) (c : Int) = ((m / 2 ^ c : Nat) : Int) := by
  unfold shr
  rw [Int.toNat_natCast, show IntKind.u64.bits = 64 from rfl, Nat.min_eq_left hc, Int.natCast_ediv, Int.natCast_pow]
  rfl
theorem shl_u64 (m c : Nat) (hc : c ≤ 64) (h : m * 2 ^ c < 2 ^ 64) : shl .u64 (m : Int) (c : Int) = ((m * 2 ^ c : Nat) : Int) := by
  unfold shl
  rw [Int.toNat_natCast, show IntKind.u64.bits = 64 from rfl, Nat.min_eq_left hc]
  have : ((m : Int) * 2 ^ c) = ((m * 2 ^ c : Nat) : Int) := by rw [Int.natCast_mul, Int.natCast_pow]; rfl
  rw [this]
  exact wrap_u64 _ h
theorem shl1_i64 : ∀ k : Nat, k < 7 → shl .i64 1 (k : Int) = ((2 ^ k : Nat) : Int) := by decide
theorem shl1_u64 : ∀ k : Nat, k < 7 → shl .u64 1 (k : Int) = ((2 ^ k : Nat) : Int) := by decide
theorem mask_u64 : ∀ k : Nat, k < 7 → IntKind.u64.wrap (shl .u64 1 ((2 ^ k : Nat) : Int) - 1) = ((2 ^ 2 ^ k - 1 : Nat) : Int) := by decide +kernel
theorem wrap_pred (k : Nat) (h : k < 1000) : wrap64 (((k + 1 : Nat) : Int) - 1) = (k : Int) := by unfold wrap64; omega
theorem lt64 {k : Nat} (h : k ≤ 6) (a : T k) : enc k a < 2 ^ 64 := Nat.lt_of_lt_of_le (enc_lt k a) (Nat.pow_le_pow_right (by decide) (Nat.pow_le_pow_right (by decide) h))
theorem or_join (a : Nat) {b i : Nat} (h : b < 2 ^ i) : a * 2 ^ i ||| b = a * 2 ^ i + b := by
  rw [← Nat.shiftLeft_eq, Nat.shiftLeft_add_eq_or_of_lt h]
theorem xor_f {k : Nat} (h : k ≤ 6) (a b : T k) : Go.bits .xor .u64 (enc k a : Int) (enc k b : Int) = (enc k (a + b) : Int) := by
  rw [bits_xor _ _ (lt64 h a) (lt64 h b), enc_add]
theorem cast_zero (k : Nat) : (((k + 1 : Nat) : Int) = 0) = False := by simp; omega
theorem and1 (a b : T 0) : Go.bits .and .u64 (Go.bits .and .u64 (enc 0 a : Int) (enc 0 b : Int)) 1 = (enc 0 (a * b) : Int) := by
  cases a <;> cases b <;> decide
theorem and_zero_l (n : Nat) (hn : n < 2 ^ 64) : Go.bits .and .u64 (Go.bits .and .u64 (0 : Int) (n : Int)) 1 = 0 := by
  have := bits_and 0 n (by decide) hn
  rw [show ((0 : Nat) : Int) = 0 from rfl, Nat.zero_and] at this
  rw [this]
  decide
theorem and_zero_r (n : Nat) (hn : n < 2 ^ 64) : Go.bits .and .u64 (Go.bits .and .u64 (n : Int) (0 : Int)) 1 = 0 := by
  have := bits_and n 0 hn (by decide)
  rw [show ((0 : Nat) : Int) = 0 from rfl, Nat.and_zero] at this
  rw [this]
  decide
theorem cast_enc_zero {k : Nat} {a : T k} : ((enc k a : Int) = 0) ↔ a = 0 := by
  rw [← enc_eq_zero]
  omega
theorem mul_kara {k : Nat} (x y : T (k + 1)) : x * y = (((x.1 + x.2) * (y.1 + y.2) + x.1 * y.1 + x.2 * y.2 + x.1 * y.1 * gen k, x.2 * y.2 + x.1 * y.1) : T k × T k) := by
  refine ext2 ?_ rfl
  show x.1 * y.1 * gen k + x.1 * y.2 + x.2 * y.1 = (x.1 + x.2) * (y.1 + y.2) + x.1 * y.1 + x.2 * y.2 + x.1 * y.1 * gen k
  rw [mul_add, add_mul, add_mul]
  have : x.1 * y.1 + x.2 * y.1 + (x.1 * y.2 + x.2 * y.2) + x.1 * y.1 + x.2 * y.2 + x.1 * y.1 * gen k = x.1 * y.1 * gen k + x.1 * y.2 + x.2 * y.1 + (x.1 * y.1 + x.1 * y.1) + (x.2 * y.2 + x.2 * y.2) := by ac_rfl
  rw [this, add_self, add_self, add_zero, add_zero]
/-! Evaluation, for enough rounds. -/
theorem Ev.succ {α : Type} {g : Nat → Option α} {r : α} (h : Ev (fun k => g (k + 1)) r) : Ev g r := Ev.step (fun _ => rfl) h
theorem Ev.pos {α : Type} {c : Prop} [Decidable c] {f g : Nat → Option α} {r : α} (hc : c) (h : Ev f r) : Ev (fun k => if c then f k else g k) r := Ev.congr (fun _ => if_pos hc) h
theorem Ev.neg {α : Type} {c : Prop} [Decidable c] {f g : Nat → Option α} {r : α} (hc : ¬ c) (h : Ev g r) : Ev (fun k => if c then f k else g k) r := Ev.congr (fun _ => if_neg hc) h
theorem Ev.const {α : Type} {g : Option α} {r : α} (h : g = some r) : Ev (fun _ => g) r := ⟨0, fun _ _ => h⟩
theorem Ev.from {α : Type} {g : Nat → Option α} {r : α} (N : Nat) (h : ∀ k, N ≤ k → g k = some r) : Ev g r := ⟨N, h⟩
/-! Elements: two words each. -/
def hiW (x : T 7) : Int := (enc 6 x.1 : Int)
def loW (x : T 7) : Int := (enc 6 x.2 : Int)
theorem el_inj {x y : T 7} (h1 : hiW x = hiW y) (h2 : loW x = loW y) : x = y := ext2 (enc_inj (Int.ofNat.inj h1)) (enc_inj (Int.ofNat.inj h2))
theorem u64_wf {a : Int} : (Lit.int .u64 a).wf = true ↔ 0 ≤ a ∧ a < 18446744073709551616 := by
  simp [Lit.wf, IntKind.min, IntKind.max, IntKind.bits, IntKind.signed]
  omega
theorem i64_wf {a : Int} : (Lit.int .i64 a).wf = true ↔ -9223372036854775808 ≤ a ∧ a < 9223372036854775808 := by
  simp [Lit.wf, IntKind.min, IntKind.max, IntKind.bits, IntKind.signed]
  omega
theorem el_of {a b : Int} (ha : (Lit.int .u64 a).wf = true) (hb : (Lit.int .u64 b).wf = true) : ∃ x : T 7, a = hiW x ∧ b = loW x := by
  have h1 : 0 ≤ a ∧ a < 18446744073709551616 := u64_wf.1 ha
  have h2 : 0 ≤ b ∧ b < 18446744073709551616 := u64_wf.1 hb
  refine ⟨((dec 6 a.toNat, dec 6 b.toNat) : T 6 × T 6), ?_, ?_⟩
  · show a = (enc 6 (dec 6 a.toNat) : Int)
    rw [enc_dec_of_lt (by show a.toNat < 18446744073709551616; omega)]
    omega
  · show b = (enc 6 (dec 6 b.toNat) : Int)
    rw [enc_dec_of_lt (by show b.toNat < 18446744073709551616; omega)]
    omega
theorem enc7 (x : T 7) : enc 7 x = enc 6 x.1 * 2 ^ 64 + enc 6 x.2 := rfl
theorem hi_zero : hiW 0 = 0 := by show ((enc 6 0 : Nat) : Int) = 0; rw [enc_zero]; rfl
theorem lo_zero : loW 0 = 0 := by show ((enc 6 0 : Nat) : Int) = 0; rw [enc_zero]; rfl
theorem hi_one : hiW 1 = 0 := by show ((enc 6 0 : Nat) : Int) = 0; rw [enc_zero]; rfl
theorem lo_one : loW 1 = 1 := by show ((enc 6 1 : Nat) : Int) = 1; rw [enc_one]; rfl
/-- Elements of a level below the greatest one have no high word. -/
theorem hi_emb {j : Nat} (h : j ≤ 6) (a : T j) : hiW (emb 7 j a) = 0 := by
  have e : enc 7 (emb 7 j a) = enc j a := enc_emb (by omega) a
  have hl := lt64 h a
  rw [enc7] at e
  unfold hiW
  have := lt64 (k := 6) (by omega) (emb 7 j a).2
  omega
theorem lo_emb {j : Nat} (h : j ≤ 6) (a : T j) : loW (emb 7 j a) = (enc j a : Int) := by
  have e : enc 7 (emb 7 j a) = enc j a := enc_emb (by omega) a
  have hl := lt64 h a
  rw [enc7] at e
  unfold loW
  have := lt64 (k := 6) (by omega) (emb 7 j a).2
  omega
/-- Is an element of a level (any number)? -/
def ofB (l : Int) (x : T 7) : Bool := decide (0 ≤ l ∧ l ≤ 7 ∧ enc 7 x < 2 ^ 2 ^ l.toNat)
theorem ofB_iff {l : Int} {x : T 7} : ofB l x = true ↔ ∃ j : Nat, l = j ∧ j ≤ 7 ∧ InL j x := by
  unfold ofB
  rw [decide_eq_true_eq]
  constructor
  · rintro ⟨h1, h2, h3⟩
    exact ⟨l.toNat, by omega, by omega, h3⟩
  · rintro ⟨j, rfl, h1, h2⟩
    exact ⟨by omega, by omega, by rw [Int.toNat_natCast]; exact h2⟩
theorem ofB_nat {j : Nat} (h : j ≤ 7) {x : T 7} (hx : InL j x) : ofB (j : Int) x = true := ofB_iff.2 ⟨j, rfl, h, hx⟩
theorem shr_zero {l : Nat} (hl : l ≤ 5) (n : Nat) (hn : n < 2 ^ 64) : (shr .u64 (n : Int) (shl .u64 1 (l : Int)) == 0) = decide (n < 2 ^ 2 ^ l) := by
  rw [shl1_u64 l (by omega), shr_u64 _ _ (Nat.le_trans (Nat.pow_le_pow_right (by decide) (show l ≤ 6 by omega)) (by decide))]
  have : (((n / 2 ^ 2 ^ l : Nat) : Int) == 0) = decide (n / 2 ^ 2 ^ l = 0) := by
    rw [Bool.eq_iff_iff, beq_iff_eq, decide_eq_true_eq]
    omega
  rw [this]
  congr 1
  rw [Nat.div_eq_zero_iff]
  have := Nat.two_pow_pos (2 ^ l)
  exact propext ⟨fun h => by omega, fun h => .inr h⟩
def mulE (l : Int) (x y : T 7) : T 7 := if ofB l x = true ∧ ofB l y = true then x * y else 0
theorem zero_pair : (some ((0 : Int), (0 : Int)) : Option (Int × Int)) = some (hiW 0, loW 0) := by rw [hi_zero, lo_zero]
theorem xor6 (a b : T 6) : Go.bits .xor .u64 (enc 6 a : Int) (enc 6 b : Int) = (enc 6 (a + b) : Int) := xor_f (by omega) a b
def sqE (l : Int) (x : T 7) : T 7 := if ofB l x = true then x * x else 0
def invE (l : Int) (x : T 7) : T 7 := if ofB l x = true then inv 7 x else 0
/-- The generator of a level, as an element of the greatest one. -/
def X7 (l : Int) : T 7 := if 0 ≤ l ∧ l ≤ 7 then emb 7 l.toNat (gen l.toNat) else 0
def mulXE (l : Int) (x : T 7) : T 7 := if ofB l x = true then x * X7 l else 0
theorem sq_kara {k : Nat} (x : T (k + 1)) : x * x = ((x.1 * x.1 * gen k, x.2 * x.2 + x.1 * x.1) : T k × T k) := by
  refine ext2 ?_ rfl
  show x.1 * x.1 * gen k + x.1 * x.2 + x.2 * x.1 = x.1 * x.1 * gen k
  rw [mul_comm x.2, add_assoc, add_self, add_zero]
theorem mulgen {k : Nat} (x : T (k + 1)) : x * gen (k + 1) = ((x.2 + x.1 * gen k, x.1) : T k × T k) := by
  refine ext2 ?_ ?_
  · show x.1 * 1 * gen k + x.1 * 0 + x.2 * 1 = _
    rw [mul_one, mul_one, mul_zero, add_zero, add_comm]
  · show x.2 * 0 + x.1 * 1 = _
    rw [mul_one, mul_zero, zero_add]
theorem mulE_in {j : Nat} (hj : j ≤ 7) {x y : T 7} (hx : InL j x) (hy : InL j y) : mulE (j : Int) x y = x * y := if_pos ⟨ofB_nat hj hx, ofB_nat hj hy⟩
theorem sqE_in {j : Nat} (hj : j ≤ 7) {x : T 7} (hx : InL j x) : sqE (j : Int) x = x * x := if_pos (ofB_nat hj hx)
theorem invE_in {j : Nat} (hj : j ≤ 7) {x : T 7} (hx : InL j x) : invE (j : Int) x = inv 7 x := if_pos (ofB_nat hj hx)
theorem and1_u64 (n : Nat) (hn : n < 2 ^ 64) : Go.bits .and .u64 (n : Int) 1 = ((n % 2 : Nat) : Int) := by
  have := bits_and n 1 hn (by decide)
  rw [Nat.and_one_is_mod] at this
  exact this
def sumE : List (T 7) → T 7
  | [] => 0
  | x :: l => x + sumE l
theorem wrap_succ (i : Nat) (h : i < 9223372036854775807) : wrap64 ((i : Int) + 1) = ((i + 1 : Nat) : Int) := by unfold wrap64; omega
/-! Elements cut down to a level. -/
def cutE (j : Nat) (x : T 7) : T 7 := dec 7 (enc 7 x % 2 ^ 2 ^ j)
theorem cutE_lt {j : Nat} (hj : j ≤ 7) (x : T 7) : enc 7 x % 2 ^ 2 ^ j < 2 ^ 2 ^ 7 :=
  Nat.lt_of_lt_of_le (Nat.mod_lt _ (Nat.two_pow_pos _)) (Nat.pow_le_pow_right (by decide) (Nat.pow_le_pow_right (by decide) hj))
theorem enc_cutE {j : Nat} (hj : j ≤ 7) (x : T 7) : enc 7 (cutE j x) = enc 7 x % 2 ^ 2 ^ j := enc_dec_of_lt (cutE_lt hj x)
theorem cutE_in {j : Nat} (hj : j ≤ 7) (x : T 7) : InL j (cutE j x) := by
  rw [InL, enc_cutE hj]
  exact Nat.mod_lt _ (Nat.two_pow_pos _)
theorem cutE_self {j : Nat} {x : T 7} (h : InL j x) : cutE j x = x := by
  unfold cutE
  rw [Nat.mod_eq_of_lt h, dec_enc]
theorem hi_in {j : Nat} (h : j ≤ 6) {x : T 7} (hx : InL j x) : hiW x = 0 := by
  obtain ⟨a, rfl⟩ := hx.ex
  exact hi_emb h a
theorem lo_in {j : Nat} (h : j ≤ 6) {x : T 7} (hx : InL j x) : loW x = (enc 7 x : Int) := by
  obtain ⟨a, rfl⟩ := hx.ex
  rw [lo_emb h, enc_emb (by omega)]
theorem lo_cutE {j : Nat} (h : j ≤ 6) (x : T 7) : loW (cutE j x) = ((enc 6 x.2 % 2 ^ 2 ^ j : Nat) : Int) := by
  rw [lo_in h (cutE_in (by omega) x), enc_cutE (by omega), enc7]
  have : (2 : Nat) ^ 64 = 2 ^ 2 ^ j * 2 ^ (64 - 2 ^ j) := by
    rw [← Nat.pow_add]
    congr 1
    have : 2 ^ j ≤ 2 ^ 6 := Nat.pow_le_pow_right (by decide) h
    omega
  rw [this, Nat.mul_left_comm, Nat.mul_add_mod]
/-- The level that a law cuts down to. -/
def lev (a : Int) : Nat := (a % 8).toNat
theorem lev_le (a : Int) : lev a ≤ 7 := by unfold lev; omega
theorem lev_eq {a : Int} (h : (Lit.int .i64 a).wf = true) : Int.tmod (wrap64 (Int.tmod a 8 + 8)) 8 = (lev a : Int) := by
  rw [i64_wf] at h
  have h1 : (lev a : Int) = a % 8 := by unfold lev; omega
  rw [h1]
  have b1 := Int.tmod_lt_of_pos a (show (0 : Int) < 8 by decide)
  have b2 := Int.lt_tmod_of_pos a (show (0 : Int) < 8 by decide)
  have e := Int.mul_tdiv_add_tmod a 8
  generalize Int.tdiv a 8 = q at e
  generalize Int.tmod a 8 = r at b1 b2 e ⊢
  have h2 : wrap64 (r + 8) = r + 8 := by
    unfold wrap64
    omega
  rw [h2, Int.tmod_eq_emod_of_nonneg (by omega)]
  omega
theorem same_pair {x y : T 7} (h : x = y) : (!(hiW x == hiW y) || !(loW x == loW y)) = false := by subst h; simp
theorem eq_pair {x y : T 7} (h : x = y) : (hiW x == hiW y && loW x == loW y) = true := by subst h; simp
end Go.Proofs.Ytlegcabfgkccmaa.Br
