/- The bytes of numbers, and numbers read: what octet and the reference come to (rows of OcB and OcR, for laws that reach no lists). Conditions: those that each theorem names. -/
import Derived.Test.YthgiifakcgjlaaaBrBits
import Derived.Laws.Strings
import Derived.Lib.Bytes
import Derived.Test.YthgiifakcgjlaaaPx12
import Derived.Test.YthgiifakcgjlaaaPx3
import Derived.Test.YthgiifakcgjlaaaPx4
set_option linter.unusedVariables false
set_option linter.unusedSimpArgs false
namespace Go.Proofs.Ythgiifakcgjlaaa.Br
open Go.RowKit Go.Proofs.YthgiifakcgjlaaaT Go.Proofs.Ythgiifakcgjlaaa.P Go.Proofs.YthgiifakcgjlaaaW.PrintWords Go.Proofs.YthgiifakcgjlaaaW.PrintLast
def noB : ByteArray := ⟨#[]⟩
def numB (a : Int) : ByteArray := if a < 0 then noB else if a > 2147483647 then noB else strOfNums [a / 16777216 % 256, a / 65536 % 256, a / 256 % 256, a % 256]
theorem Num_f (a : Int) : octet_Num.f a = some (numB a) := by
  unfold octet_Num.f octet_join.f numB
  split
  · rfl
  · split
    · rfl
    · rfl
theorem refNum_f (a : Int) : steepleref01_Num.f a = some (numB a) := by
  unfold steepleref01_Num.f numB
  by_cases h0 : a < 0
  · rw [if_pos h0, if_pos h0]
    rfl
  · rw [if_neg h0, if_neg h0]
    by_cases h1 : a > 2147483647
    · rw [if_pos h1, if_pos h1]
      rfl
    · rw [if_neg h1, if_neg h1]
      have t1 : ∀ m : Int, Int.tdiv a m = a / m := fun m => Int.tdiv_eq_ediv_of_nonneg (by omega)
      have t2 : ∀ b : Int, 0 ≤ b → Int.tmod b 256 = b % 256 := fun b hb => Int.tmod_eq_emod_of_nonneg hb
      have w1 : wrap64 (a / 16777216) = a / 16777216 := by unfold wrap64; omega
      have w2 : wrap64 (a / 65536) = a / 65536 := by unfold wrap64; omega
      have w3 : wrap64 (a / 256) = a / 256 := by unfold wrap64; omega
      rw [t1, t1, t1, w1, w2, w3, t2 _ (by omega), t2 _ (by omega), t2 _ (by omega), Int.emod_emod_of_dvd _ (Int.dvd_refl 256), Int.emod_emod_of_dvd _ (Int.dvd_refl 256), Int.emod_emod_of_dvd _ (Int.dvd_refl 256)]
theorem numB_le (a : Int) : (numB a).size ≤ 4 := by
  unfold numB
  split
  · decide
  · split
    · decide
    · rw [strOfNums_size]
      exact Nat.le_refl 4
theorem numB_size {a : Int} (h0 : 0 ≤ a) (h1 : a ≤ 2147483647) : (numB a).size = 4 := by
  unfold numB
  rw [if_neg (by omega), if_neg (by omega), strOfNums_size]
  rfl
/-! Bytes of a text. -/
def btN (s : ByteArray) (i : Nat) : Nat := if h : i < s.size then (s[i]'h).toNat else 0
theorem bt_btN (s : ByteArray) (i : Nat) : bt s (i : Int) = (btN s i : Int) := by
  unfold bt btN
  simp only [Int.toNat_natCast]
  split <;> rfl
theorem btN_lt (s : ByteArray) (i : Nat) : btN s i < 256 := by
  unfold btN
  split
  · exact (s[i]).toNat_lt
  · decide
theorem u8_of_lt {n : Nat} (h : n < 256) : (UInt8.ofNat (n : Int).toNat).toNat = n := by
  rw [Int.toNat_natCast, UInt8.toNat_ofNat']
  exact Nat.mod_eq_of_lt h
theorem strOf_get {l : List Int} {i : Nat} (h : i < l.length) : btN (strOfNums l) i = (UInt8.ofNat (l[i]).toNat).toNat := by
  have hs : i < (strOfNums l).size := by rw [strOfNums_size]; exact h
  unfold btN
  rw [dif_pos hs]
  simp only [strOfNums, ByteArray.getElem_eq_getElem_data, List.getElem_toArray, List.getElem_map]
theorem btN_left {s r : ByteArray} {i : Nat} (h : i < s.size) : btN (s ++ r) i = btN s i := by
  unfold btN
  rw [dif_pos h, dif_pos (by rw [ByteArray.size_append]; omega), ByteArray.getElem_append_left h]
theorem btN_ext {s t : ByteArray} (h : s.size = t.size) (hb : ∀ i, i < s.size → btN s i = btN t i) : s = t := by
  refine ByteArray.ext_getElem h fun i hi hi' => ?_
  have := hb i hi
  unfold btN at this
  rw [dif_pos hi, dif_pos hi'] at this
  exact UInt8.toNat_inj.1 this
theorem btN_pre {s : ByteArray} {n i : Nat} (hn : n ≤ s.size) (h : i < n) : btN (s.extract 0 n) i = btN s i := by
  have hz : (s.extract 0 n).size = n := by rw [ByteArray.size_extract]; omega
  unfold btN
  rw [dif_pos (by omega), dif_pos (by omega), ByteArray.getElem_extract]
  simp only [Nat.zero_add]
theorem pre_size {s : ByteArray} {n : Nat} (hn : n ≤ s.size) : (s.extract 0 n).size = n := by rw [ByteArray.size_extract]; omega
theorem pre_suf {s : ByteArray} {n : Nat} (hn : n ≤ s.size) : s = s.extract 0 n ++ s.extract n s.size := by
  rw [← ByteArray.extract_eq_extract_append_extract n (by omega) hn, ByteArray.extract_zero_size]
theorem suf_size {s : ByteArray} {n : Nat} : (s.extract n s.size).size = s.size - n := by rw [ByteArray.size_extract]; omega
theorem app_pre {s r : ByteArray} : (s ++ r).extract 0 s.size = s := ByteArray.extract_append_eq_left rfl
theorem app_suf {s r : ByteArray} : (s ++ r).extract s.size (s ++ r).size = r := by
  rw [ByteArray.size_append]
  exact ByteArray.extract_append_eq_right rfl rfl
/-! The reader's steps. -/
theorem stop_f (b : ByteArray) (e a : Int) : octet_Reader_stop.f b e a = some (b, if e = 0 then a else e) := by
  unfold octet_Reader_stop.f
  split <;> rfl
theorem take_bad {b : ByteArray} {e : Int} (he : e ≠ 0) (a : Int) : octet_Reader_take.f b e a = some (noB, false, b, e) := by
  unfold octet_Reader_take.f
  rw [if_neg he]
  rfl
theorem take_short {b : ByteArray} {n : Nat} (h : b.size < n) : octet_Reader_take.f b 0 (n : Int) = some (noB, false, b, 11) := by
  unfold octet_Reader_take.f
  rw [if_pos rfl, if_pos (by omega), stop_f]
  rfl
theorem take_ok {b : ByteArray} {n : Nat} (h : n ≤ b.size) : octet_Reader_take.f b 0 (n : Int) = some (b.extract 0 n, true, b.extract n b.size, 0) := by
  unfold octet_Reader_take.f
  rw [if_pos rfl, if_neg (by omega), if_pos (by omega), if_pos (by omega), Int.toNat_natCast]
/-- The number of four bytes. -/
def numV (b : ByteArray) : Nat := btN b 0 * 16777216 + btN b 1 * 65536 + btN b 2 * 256 + btN b 3
theorem or_i64 {m n : Nat} (hm : m < 2 ^ 63) (hn : n < 2 ^ 63) : Go.bits .or .i64 (m : Int) (n : Int) = ((m ||| n : Nat) : Int) := by
  show IntKind.i64.wrap (((BitVec.ofInt 64 (m : Int)) ||| (BitVec.ofInt 64 (n : Int))).toNat : Int) = _
  rw [BitVec.toNat_or, bv_of m (by omega), bv_of n (by omega)]
  have := Nat.or_lt_two_pow hm hn
  generalize m ||| n = t at *
  simp [IntKind.wrap, IntKind.bits, IntKind.signed]
  omega
theorem or_sum {a b i : Nat} (h : b < 2 ^ i) (ha : 2 ^ i ∣ a) : a ||| b = a + b := by
  obtain ⟨c, rfl⟩ := ha
  rw [Nat.mul_comm]
  exact or_join c h
theorem numV_bits {a b c d : Nat} (ha : a < 256) (hb : b < 256) (hc : c < 256) (hd : d < 256) : Go.bits .or .i64 (Go.bits .or .i64 (Go.bits .or .i64 (wrap64 ((wrap64 (a : Int)) * 16777216)) (wrap64 ((wrap64 (b : Int)) * 65536))) (wrap64 ((wrap64 (c : Int)) * 256))) (wrap64 (d : Int)) = ((a * 16777216 + b * 65536 + c * 256 + d : Nat) : Int) := by
  rw [show wrap64 ((wrap64 (a : Int)) * 16777216) = ((a * 16777216 : Nat) : Int) by unfold wrap64; omega, show wrap64 ((wrap64 (b : Int)) * 65536) = ((b * 65536 : Nat) : Int) by unfold wrap64; omega, show wrap64 ((wrap64 (c : Int)) * 256) = ((c * 256 : Nat) : Int) by unfold wrap64; omega, show wrap64 (d : Int) = (d : Int) by unfold wrap64; omega]
  rw [or_i64 (by omega) (by omega), or_sum (i := 24) (by omega) (by omega), or_i64 (by omega) (by omega), or_sum (i := 16) (by omega) (by omega), or_i64 (by omega) (by omega), or_sum (i := 8) (by omega) (by omega)]
theorem Num_bad {b : ByteArray} {e : Int} (he : e ≠ 0) (a : Int) : octet_Reader_Num.f b e a = some (0, b, e) := by
  unfold octet_Reader_Num.f
  rw [take_bad he, Option.bind_some, if_neg (show ¬(false = true) by decide)]
theorem Num_short {b : ByteArray} (h : b.size < 4) (a : Int) : octet_Reader_Num.f b 0 a = some (0, b, 11) := by
  unfold octet_Reader_Num.f
  rw [show (4 : Int) = ((4 : Nat) : Int) from rfl, take_short h, Option.bind_some, if_neg (show ¬(false = true) by decide)]
theorem Num_of {b : ByteArray} (h : 4 ≤ b.size) (a : Int) : octet_Reader_Num.f b 0 a = if (numV b : Int) > mn a 2147483647 then some (0, b.extract 4 b.size, 2) else some ((numV b : Int), b.extract 4 b.size, 0) := by
  have hz := pre_size h
  unfold octet_Reader_Num.f
  rw [show (4 : Int) = ((4 : Nat) : Int) from rfl, take_ok h, Option.bind_some, if_pos rfl, if_pos (show (0 : Int) < ((b.extract 0 4).size : Int) by omega), if_pos (show (1 : Int) < ((b.extract 0 4).size : Int) by omega), if_pos (show (2 : Int) < ((b.extract 0 4).size : Int) by omega), if_pos (show (3 : Int) < ((b.extract 0 4).size : Int) by omega)]
  rw [show (0 : Int) = ((0 : Nat) : Int) from rfl, show (1 : Int) = ((1 : Nat) : Int) from rfl, show (2 : Int) = ((2 : Nat) : Int) from rfl, show (3 : Int) = ((3 : Nat) : Int) from rfl, bt_btN, bt_btN, bt_btN, bt_btN, btN_pre h (by decide), btN_pre h (by decide), btN_pre h (by decide), btN_pre h (by decide), numV_bits (btN_lt _ _) (btN_lt _ _) (btN_lt _ _) (btN_lt _ _), stop_f]
  rfl
theorem mn_le (a b : Int) : mn a b ≤ a ∧ mn a b ≤ b := by
  unfold mn
  split <;> omega
theorem digs {v a b c d : Nat} (ha : a < 256) (hb : b < 256) (hc : c < 256) (hd : d < 256) (e : v = a * 16777216 + b * 65536 + c * 256 + d) : (v : Int) / 16777216 % 256 = (a : Int) ∧ (v : Int) / 65536 % 256 = (b : Int) ∧ (v : Int) / 256 % 256 = (c : Int) ∧ (v : Int) % 256 = (d : Int) := by
  refine ⟨?_, ?_, ?_, ?_⟩ <;> omega
theorem numV_numB {b : ByteArray} (h : 4 ≤ b.size) (hv : numV b ≤ 2147483647) : numB (numV b : Int) = b.extract 0 4 := by
  have hn : (numB (numV b : Int)).size = 4 := numB_size (by omega) (by omega)
  have hz := pre_size h
  refine btN_ext (by omega) fun i hi => ?_
  rw [btN_pre h (by omega)]
  obtain ⟨k0, k1, k2, k3⟩ := digs (btN_lt b 0) (btN_lt b 1) (btN_lt b 2) (btN_lt b 3) (v := numV b) rfl
  have e : numB (numV b : Int) = strOfNums [(btN b 0 : Int), (btN b 1 : Int), (btN b 2 : Int), (btN b 3 : Int)] := by
    unfold numB
    rw [if_neg (by omega), if_neg (by omega), k0, k1, k2, k3]
  have h4 : i < 4 := by omega
  rw [e, strOf_get (by exact h4)]
  have c : i = 0 ∨ i = 1 ∨ i = 2 ∨ i = 3 := by omega
  rcases c with rfl | rfl | rfl | rfl
  · exact u8_of_lt (btN_lt b 0)
  · exact u8_of_lt (btN_lt b 1)
  · exact u8_of_lt (btN_lt b 2)
  · exact u8_of_lt (btN_lt b 3)
theorem numV_of {a : Int} (h0 : 0 ≤ a) (h1 : a ≤ 2147483647) (r : ByteArray) : (numV (numB a ++ r) : Int) = a := by
  have hn := numB_size h0 h1
  have e : numB a = strOfNums [a / 16777216 % 256, a / 65536 % 256, a / 256 % 256, a % 256] := by
    unfold numB
    rw [if_neg (by omega), if_neg (by omega)]
  have g : ∀ (i : Nat) (h : i < 4) (v : Int), 0 ≤ v → v < 256 → [a / 16777216 % 256, a / 65536 % 256, a / 256 % 256, a % 256][i]'h = v → (btN (numB a ++ r) i : Int) = v := by
    intro i h v hv0 hv1 hv
    rw [btN_left (by omega), e, strOf_get (by exact h), hv]
    obtain ⟨n, rfl⟩ := Int.eq_ofNat_of_zero_le hv0
    rw [u8_of_lt (by omega)]
  have g0 := g 0 (by decide) (a / 16777216 % 256) (by omega) (by omega) rfl
  have g1 := g 1 (by decide) (a / 65536 % 256) (by omega) (by omega) rfl
  have g2 := g 2 (by decide) (a / 256 % 256) (by omega) (by omega) rfl
  have g3 := g 3 (by decide) (a % 256) (by omega) (by omega) rfl
  unfold numV
  omega
/-- What a number's reading answers, from any state. -/
theorem Num_snd (b : ByteArray) (e a : Int) : ∃ (n : Nat) (r : ByteArray) (e' : Int), octet_Reader_Num.f b e a = some ((n : Int), r, e') ∧ n ≤ 2147483647 ∧ (n ≠ 0 → e' = 0) ∧ (e' = 0 → e = 0 ∧ (n : Int) ≤ a ∧ b = numB (n : Int) ++ r) := by
  by_cases he : e = 0
  · subst he
    by_cases hs : b.size < 4
    · exact ⟨0, b, 11, Num_short hs a, by decide, fun h => absurd rfl h, fun h => absurd h (by decide)⟩
    · have hs' : 4 ≤ b.size := by omega
      have hm := mn_le a 2147483647
      by_cases hv : (numV b : Int) > mn a 2147483647
      · exact ⟨0, _, 2, by rw [Num_of hs', if_pos hv]; rfl, by decide, fun h => absurd rfl h, fun h => absurd h (by decide)⟩
      · refine ⟨numV b, _, 0, by rw [Num_of hs', if_neg hv], by omega, fun _ => rfl, fun _ => ⟨rfl, by omega, ?_⟩⟩
        rw [numV_numB hs' (by omega)]
        exact pre_suf hs'
  · exact ⟨0, b, e, Num_bad he a, by decide, fun h => absurd rfl h, fun h => absurd h he⟩
theorem Num_cmp {n a : Int} (h0 : 0 ≤ n) (h1 : n ≤ 2147483647) (ha : n ≤ a) (r : ByteArray) : octet_Reader_Num.f (numB n ++ r) 0 a = some (n, r, 0) := by
  have hn := numB_size h0 h1
  rw [Num_of (by rw [ByteArray.size_append]; omega), numV_of h0 h1, if_neg (by unfold mn; split <;> omega)]
  have : (numB n ++ r).extract 4 (numB n ++ r).size = r := by
    rw [← hn]
    exact app_suf
  rw [this]
end Go.Proofs.Ythgiifakcgjlaaa.Br
