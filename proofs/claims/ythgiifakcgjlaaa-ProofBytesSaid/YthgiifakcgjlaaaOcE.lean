/- The bytes of elements: what octet and the reference come to. Conditions: those that each theorem names. -/
import Derived.Test.YthgiifakcgjlaaaOcB
import Derived.Test.YthgiifakcgjlaaaBrOf
import Derived.Test.YthgiifakcgjlaaaBrRefOf
import Derived.Test.YthgiifakcgjlaaaBrLL
import Derived.Test.YthgiifakcgjlaaaHElems
import Derived.Test.YthgiifakcgjlaaaPx14
import Derived.Test.YthgiifakcgjlaaaPx15
import Derived.Test.YthgiifakcgjlaaaPx8
set_option linter.unusedVariables false
set_option linter.unusedSimpArgs false
namespace Go.Proofs.Ythgiifakcgjlaaa.Br
open Go.RowKit Go.Proofs.YthgiifakcgjlaaaT Go.Proofs.Ythgiifakcgjlaaa.P Go.Proofs.YthgiifakcgjlaaaW.PrintWords Go.Proofs.YthgiifakcgjlaaaW.PrintLast
/-- How many bytes an element of a level has. -/
def wideN (a : Int) : Nat := if 0 ≤ a ∧ a ≤ 7 then (if a ≤ 3 then 1 else 2 ^ (a.toNat - 3)) else 0
theorem wideN_le (a : Int) : wideN a ≤ 16 := by
  unfold wideN
  split
  · split
    · decide
    · exact Nat.pow_le_pow_right (n := 2) (by decide) (show a.toNat - 3 ≤ 4 by omega)
  · decide
theorem wide_all : ∀ j : Nat, j < 8 → octet_Wide.f 3 (j : Int) = some ((wideN (j : Int) : Nat) : Int) := by decide +kernel
theorem Wide_ev (a : Int) : Ev (fun k => octet_Wide.f k a) ((wideN a : Nat) : Int) := by
  by_cases h : 0 ≤ a ∧ a ≤ 7
  · obtain ⟨j, rfl⟩ := Int.eq_ofNat_of_zero_le h.1
    exact Ev.of (fun k => octet_Wide.mono _ k) (k := 3) (wide_all j (by omega))
  · have e : wideN a = 0 := by unfold wideN; rw [if_neg h]
    rw [e]
    unfold octet_Wide.f
    by_cases h0 : a < 0
    · refine Ev.pos h0 (Ev.succ ?_)
      simp only [octet_Wide.j0]
      exact Ev.pos trivial (Ev.now _)
    · refine Ev.neg h0 (Ev.succ ?_)
      simp only [octet_Wide.j0]
      exact Ev.pos (decide_eq_true (by omega)) (Ev.now _)
theorem refWide_all : ∀ j : Nat, j < 8 → steepleref01_Wide.f (j : Int) = some ((wideN (j : Int) : Nat) : Int) := by decide +kernel
theorem refWide_f (a : Int) : steepleref01_Wide.f a = some ((wideN a : Nat) : Int) := by
  by_cases h : 0 ≤ a ∧ a ≤ 7
  · obtain ⟨j, rfl⟩ := Int.eq_ofNat_of_zero_le h.1
    exact refWide_all j (by omega)
  · have e : wideN a = 0 := by unfold wideN; rw [if_neg h]
    rw [e]
    unfold steepleref01_Wide.f
    rw [Option.bind_some]
    by_cases h0 : a < 0
    · rw [if_pos h0]
      rfl
    · rw [if_neg h0, if_pos (by omega)]
      rfl
theorem wrap_u8 (x : Int) : IntKind.u8.wrap x = x % 256 := by
  simp only [IntKind.wrap, IntKind.bits, IntKind.signed]
  rfl
/-- Byte i. -/
def byN (x : T 7) (i : Nat) : Nat := enc 7 x / 2 ^ (8 * i) % 256
theorem eByte_by (x : T 7) {i : Nat} (h : i < 16) : eByte (hiW x) (loW x) i = (byN x i : Int) := by
  unfold byN
  rw [enc7]
  have hl := lt64 (k := 6) (by omega) x.2
  by_cases h8 : i < 8
  · rw [eByte_lo _ _ h8, show (8 * (i : Int)).toNat = 8 * i by omega]
    unfold loW
    rw [wrap_u8, show ((2 : Int) ^ (8 * i)) = ((2 ^ (8 * i) : Nat) : Int) by rw [Int.natCast_pow]; rfl, ← Int.natCast_ediv, show (256 : Int) = ((256 : Nat) : Int) from rfl, ← Int.natCast_emod]
    refine congrArg (Nat.cast : Nat → Int) ?_
    generalize enc 6 x.1 = H
    generalize enc 6 x.2 = L
    have e : 2 ^ 64 = 256 * 2 ^ (8 * (7 - i)) * 2 ^ (8 * i) := by
      rw [show 256 = 2 ^ 8 from rfl, ← Nat.pow_add, ← Nat.pow_add]
      congr 1
      omega
    rw [e, show H * (256 * 2 ^ (8 * (7 - i)) * 2 ^ (8 * i)) + L = L + (256 * (H * 2 ^ (8 * (7 - i)))) * 2 ^ (8 * i) by simp only [Nat.mul_assoc, Nat.mul_left_comm, Nat.add_comm], Nat.add_mul_div_right _ _ (Nat.two_pow_pos _), Nat.add_mul_mod_self_left]
  · obtain ⟨j, rfl⟩ : ∃ j, i = 8 + j := ⟨i - 8, by omega⟩
    rw [eByte_hi _ _ (by omega), show (8 * (j : Int)).toNat = 8 * j by omega]
    unfold hiW
    rw [wrap_u8, show ((2 : Int) ^ (8 * j)) = ((2 ^ (8 * j) : Nat) : Int) by rw [Int.natCast_pow]; rfl, ← Int.natCast_ediv, show (256 : Int) = ((256 : Nat) : Int) from rfl, ← Int.natCast_emod]
    refine congrArg (Nat.cast : Nat → Int) ?_
    generalize enc 6 x.1 = H at *
    generalize enc 6 x.2 = L at *
    rw [show 8 * (8 + j) = 64 + 8 * j by omega, Nat.pow_add, ← Nat.div_div_eq_div_mul]
    have e : (H * 2 ^ 64 + L) / 2 ^ 64 = H := by omega
    rw [e]
def bytL (x : T 7) (n : Nat) : List Int := (List.range n).map fun i => (byN x i : Int)
theorem eList_by (x : T 7) {n : Nat} (h : n ≤ 16) : eList (hiW x) (loW x) n = bytL x n := by
  unfold eList bytL
  apply List.map_congr_left
  intro i hi
  exact eByte_by x (by have := List.mem_range.1 hi; omega)
theorem bytL_succ (x : T 7) (n : Nat) : bytL x (n + 1) = bytL x n ++ [(byN x n : Int)] := by
  unfold bytL
  rw [List.range_succ, List.map_append]
  rfl
theorem bytL_len (x : T 7) (n : Nat) : (bytL x n).length = n := by rw [bytL, List.length_map, List.length_range]
def bytesE (a : Int) (x : T 7) : ByteArray := if ofB a x = true then strOfNums (bytL x (wideN a)) else noB
theorem Elem_ev (a : Int) (x : T 7) : Ev (fun k => octet_Elem.f k a (hiW x) (loW x)) (bytesE a x) := by
  unfold octet_Elem.f bytesE
  refine Ev.bind (Of_ev a x) ?_
  cases ofB a x with
  | false => exact Ev.neg (by decide) (Ev.now _)
  | true =>
    have hw := wideN_le a
    refine Ev.pos rfl (Ev.bind (Wide_ev a) (Ev.pos (by omega) (Ev.pos (by omega) ?_)))
    rw [Int.toNat_natCast, eList_by x hw]
    exact Ev.now _
/-! The reference: bit by bit. -/
def bitM (M i : Nat) : Nat := (M.testBit i).toNat
theorem bitM_div (M i : Nat) : bitM M i = M / 2 ^ i % 2 := (testBit_toNat _ _).symm
theorem bitM_le (M i : Nat) : bitM M i ≤ 1 := by unfold bitM; cases M.testBit i <;> decide
def horn (M i : Nat) : Nat → Nat → Nat
  | 0, b => 2 * b + bitM M (8 * i)
  | m + 1, b => horn M i m (2 * b + bitM M (8 * i + (m + 1)))
theorem horn_by (M i : Nat) : horn M i 7 0 = M / 2 ^ (8 * i) % 256 := by
  simp only [horn, bitM_div, Nat.pow_add, ← Nat.div_div_eq_div_mul]
  generalize M / 2 ^ (8 * i) = M
  simp only [Nat.reduceAdd, Nat.reducePow]
  omega
theorem refBytes_l1 (a : Int) (hw lw : Int) (M : Nat) (hM : ∀ j : Nat, j < 128 → steepleref01_bit.f hw lw (j : Int) = some ((bitM M j : Nat) : Int)) (acc : List Int) {i : Nat} (hi : i < 16) {r : ByteArray} : ∀ (m b : Nat), m ≤ 7 → b < 2 ^ (7 - m + 1) →
    Ev (fun k => if acc.length < 140737488355328 then steepleref01_Bytes.l0 k a (acc ++ [((horn M i m b : Nat) : Int) % 256]) ((i + 1 : Nat) : Int) hw lw else none) r →
    Ev (fun k => steepleref01_Bytes.l1 k a acc (i : Int) (b : Int) (m : Int) hw lw) r := by
  intro m
  induction m with
  | zero =>
    intro b hm hb h
    have hb2 := bitM_le M (8 * i)
    refine Ev.succ ?_
    simp only [steepleref01_Bytes.l1]
    refine Ev.pos (by omega) ?_
    rw [show wrap64 (wrap64 (8 * (i : Int)) + ((0 : Nat) : Int)) = ((8 * i : Nat) : Int) by unfold wrap64; omega]
    refine Ev.bind (Ev.const (hM _ (by omega))) ?_
    have hb3 : b < 2 ^ 8 := hb
    have e0 : wrap64 (wrap64 (2 * (b : Int)) + wrap64 ((bitM M (8 * i) : Nat) : Int)) = ((2 * b + bitM M (8 * i) : Nat) : Int) := by
      generalize bitM M (8 * i) = t at *
      unfold wrap64
      omega
    rw [e0]
    refine Ev.succ ?_
    simp only [steepleref01_Bytes.l1]
    refine Ev.neg (by unfold wrap64; omega) ?_
    rw [wrap_succ i (by omega)]
    exact h
  | succ m ih =>
    intro b hm hb h
    have hb2 := bitM_le M (8 * i + (m + 1))
    have hb3 : b < 2 ^ 8 := Nat.lt_of_lt_of_le hb (Nat.pow_le_pow_right (by decide) (by omega))
    refine Ev.succ ?_
    simp only [steepleref01_Bytes.l1]
    refine Ev.pos (by omega) ?_
    rw [show wrap64 (wrap64 (8 * (i : Int)) + ((m + 1 : Nat) : Int)) = ((8 * i + (m + 1) : Nat) : Int) by unfold wrap64; omega]
    refine Ev.bind (Ev.const (hM _ (by omega))) ?_
    have e0 : wrap64 (wrap64 (2 * (b : Int)) + wrap64 ((bitM M (8 * i + (m + 1)) : Nat) : Int)) = ((2 * b + bitM M (8 * i + (m + 1)) : Nat) : Int) := by
      generalize bitM M (8 * i + (m + 1)) = t at *
      unfold wrap64
      omega
    rw [e0, show wrap64 (((m + 1 : Nat) : Int) - 1) = (m : Int) by unfold wrap64; omega]
    refine ih (2 * b + bitM M (8 * i + (m + 1))) (by omega) ?_ h
    have : 2 ^ (7 - m + 1) = 2 * 2 ^ (7 - (m + 1) + 1) := by
      rw [show 7 - m + 1 = (7 - (m + 1) + 1) + 1 by omega, Nat.pow_succ, Nat.mul_comm]
    omega
theorem refBytes_l0 (a : Int) (x : T 7) : ∀ d i : Nat, i + d = wideN a → Ev (fun k => steepleref01_Bytes.l0 k a (bytL x i) (i : Int) (hiW x) (loW x)) (strOfNums (bytL x (wideN a)))
  | 0, i, h => by
    refine Ev.succ ?_
    simp only [steepleref01_Bytes.l0]
    refine Ev.bind (Ev.const (refWide_f a)) (Ev.neg (by omega) ?_)
    rw [show i = wideN a by omega]
    exact Ev.now _
  | d + 1, i, h => by
    have hw := wideN_le a
    refine Ev.succ ?_
    simp only [steepleref01_Bytes.l0]
    refine Ev.bind (Ev.const (refWide_f a)) (Ev.pos (by omega) ?_)
    refine refBytes_l1 a _ _ (enc 7 x) (fun j hj => bit_f x hj) (bytL x i) (by omega) 7 0 (by omega) (by decide) ?_
    refine Ev.pos (by rw [bytL_len]; omega) ?_
    have hh : ((horn (enc 7 x) i 7 0 : Nat) : Int) % 256 = (byN x i : Int) := by
      rw [horn_by]
      unfold byN
      generalize enc 7 x = M
      omega
    rw [hh, ← bytL_succ]
    exact refBytes_l0 a x d (i + 1) (by omega)
theorem refBytes_ev (a : Int) (x : T 7) : Ev (fun k => steepleref01_Bytes.f k a (hiW x) (loW x)) (bytesE a x) := by
  unfold steepleref01_Bytes.f bytesE
  refine Ev.bind (refOf_ev a x) ?_
  cases ofB a x with
  | false => exact Ev.neg (by decide) (Ev.now _)
  | true => exact Ev.pos rfl (refBytes_l0 a x (wideN a) 0 (by omega))
theorem bytesE_size {a : Int} {x : T 7} (h : ofB a x = true) : (bytesE a x).size = wideN a := by
  unfold bytesE
  rw [if_pos h, strOfNums_size, bytL_len]
theorem bytesE_le (a : Int) (x : T 7) : (bytesE a x).size ≤ 16 := by
  cases h : ofB a x with
  | true => rw [bytesE_size h]; exact wideN_le a
  | false =>
    unfold bytesE
    rw [h, if_neg (by decide)]
    decide
/-! Lists of elements. -/
def elsB (a : Int) : List (T 7) → ByteArray → ByteArray
  | [], s => s
  | x :: L, s => if ofB a x = true then elsB a L (s ++ bytesE a x) else noB
def elemsB (a : Int) (L : List (T 7)) : ByteArray := if wideN a = 0 then noB else elsB a L (numB (L.length : Int))
theorem elsB_drop {a : Int} {L : List (T 7)} {i : Nat} (h : i < L.length) (s : ByteArray) : elsB a (L.drop i) s = if ofB a L[i] = true then elsB a (L.drop (i + 1)) (s ++ bytesE a L[i]) else noB := by
  rw [List.drop_eq_getElem_cons h]
  rfl
theorem Elems_l0 (a : Int) (L : List (T 7)) (hL : L.length < 2 ^ 40) : ∀ (d i : Nat) (s : ByteArray), i + d = L.length → s.size ≤ 4 + 16 * i → Ev (fun k => octet_Elems.l0 k a (L.map elS) s (i : Int)) (elsB a (L.drop i) s)
  | 0, i, s, h, _ => by
    refine Ev.succ ?_
    simp only [octet_Elems.l0]
    refine Ev.neg (by rw [List.length_map]; omega) ?_
    rw [List.drop_of_length_le (by omega)]
    exact Ev.now _
  | d + 1, i, s, h, hs => by
    have hi : i < L.length := by omega
    have hb := bytesE_le a L[i]
    refine Ev.succ ?_
    simp only [octet_Elems.l0]
    refine Ev.pos (by rw [List.length_map]; omega) (Ev.pos (by omega) ?_)
    rw [rd_elS hi, elS_f0, elS_f1, elsB_drop hi]
    refine Ev.bind (Of_ev a L[i]) ?_
    cases ho : ofB a L[i] with
    | false =>
      rw [if_neg (by decide)]
      exact Ev.neg (by decide) (Ev.now _)
    | true =>
      rw [if_pos rfl]
      refine Ev.pos rfl (Ev.bind (Elem_ev a L[i]) (Ev.pos (by omega) ?_))
      rw [wrap_succ i (by omega)]
      exact Elems_l0 a L hL d (i + 1) _ (by omega) (by rw [ByteArray.size_append]; omega)
theorem Elems_ev (a : Int) {L : List (T 7)} (hL : L.length < 2 ^ 40) : Ev (fun k => octet_Elems.f k a (L.map elS)) (elemsB a L) := by
  unfold octet_Elems.f elemsB
  refine Ev.bind (Wide_ev a) ?_
  by_cases h : wideN a = 0
  · rw [if_pos h]
    exact Ev.pos (by omega) (Ev.now _)
  · rw [if_neg h]
    have hn := numB_le (L.length : Int)
    refine Ev.neg (by omega) ?_
    rw [List.length_map]
    refine Ev.bind (Ev.const (Num_f _)) (Ev.pos (by omega) ?_)
    exact Elems_l0 a L hL L.length 0 _ (by omega) (by omega)
theorem refElems_l0 (a : Int) (L : List (T 7)) (hL : L.length < 2 ^ 40) : ∀ (d i : Nat) (s : ByteArray), i + d = L.length → s.size ≤ 4 + 16 * i → Ev (fun k => steepleref01_Elems.l0 k a (L.map elR) s (i : Int)) (elsB a (L.drop i) s)
  | 0, i, s, h, _ => by
    refine Ev.succ ?_
    simp only [steepleref01_Elems.l0]
    refine Ev.neg (by rw [List.length_map]; omega) ?_
    rw [List.drop_of_length_le (by omega)]
    exact Ev.now _
  | d + 1, i, s, h, hs => by
    have hi : i < L.length := by omega
    have hb := bytesE_le a L[i]
    refine Ev.succ ?_
    simp only [steepleref01_Elems.l0]
    refine Ev.pos (by rw [List.length_map]; omega) (Ev.pos (by omega) ?_)
    rw [rd_elR hi, elR_f0, elR_f1, elsB_drop hi]
    refine Ev.bind (refOf_ev a L[i]) ?_
    cases ho : ofB a L[i] with
    | false =>
      rw [if_neg (by decide)]
      exact Ev.neg (by decide) (Ev.now _)
    | true =>
      rw [if_pos rfl]
      refine Ev.pos rfl (Ev.bind (refBytes_ev a L[i]) (Ev.pos (by omega) ?_))
      rw [wrap_succ i (by omega)]
      exact refElems_l0 a L hL d (i + 1) _ (by omega) (by rw [ByteArray.size_append]; omega)
theorem refElems_ev (a : Int) {L : List (T 7)} (hL : L.length < 2 ^ 40) : Ev (fun k => steepleref01_Elems.f k a (L.map elR)) (elemsB a L) := by
  unfold steepleref01_Elems.f elemsB
  rw [List.length_map]
  refine Ev.bind (Ev.const (refNum_f _)) (Ev.bind (Ev.const (refWide_f a)) ?_)
  have hn := numB_le (L.length : Int)
  by_cases h : wideN a = 0
  · rw [if_pos h]
    exact Ev.pos (by omega) (Ev.now _)
  · rw [if_neg h]
    refine Ev.neg (by omega) ?_
    exact refElems_l0 a L hL L.length 0 _ (by omega) (by omega)
end Go.Proofs.Ythgiifakcgjlaaa.Br
