/- What a reader of octets answers: numbers, texts, lists of texts. Conditions: those that each theorem names. -/
import Derived.Test.YthgiifakcgjlaaaOcE
import Derived.Test.YthgiifakcgjlaaaPx13b
import Derived.Test.YthgiifakcgjlaaaPx14
import Derived.Test.YthgiifakcgjlaaaPx5
set_option linter.unusedVariables false
set_option linter.unusedSimpArgs false
namespace Go.Proofs.Ythgiifakcgjlaaa.Br
open Go.RowKit Go.Proofs.YthgiifakcgjlaaaT Go.Proofs.Ythgiifakcgjlaaa.P Go.Proofs.YthgiifakcgjlaaaW.PrintWords Go.Proofs.YthgiifakcgjlaaaW.PrintLast
/-! Bytes of a text. -/
def btN (s : ByteArray) (i : Nat) : Nat := if h : i < s.size then (s[i]'h).toNat else 0
theorem bt_btN (s : ByteArray) (i : Nat) : bt s (i : Int) = (btN s i : Int) := by
  unfold bt btN
  simp only [Int.toNat_natCast]
  split <;> rfl
theorem btN_lt (s : ByteArray) (i : Nat) : btN s i < 256 := by
  unfold btN
  split
  · exact (s[i]).toNat_lt
  · decide
theorem u8_of_lt {n : Nat} (h : n < 256) : (UInt8.ofNat (n : Int).toNat).toNat = n := by
  rw [Int.toNat_natCast, UInt8.toNat_ofNat']
  exact Nat.mod_eq_of_lt h
theorem strOf_get {l : List Int} {i : Nat} (h : i < l.length) : btN (strOfNums l) i = (UInt8.ofNat (l[i]).toNat).toNat := by
  have hs : i < (strOfNums l).size := by rw [strOfNums_size]; exact h
  unfold btN
  rw [dif_pos hs]
  simp only [strOfNums, ByteArray.getElem_eq_getElem_data, List.getElem_toArray, List.getElem_map]
theorem btN_ext {s t : ByteArray} (h : s.size = t.size) (hb : ∀ i, i < s.size → btN s i = btN t i) : s = t := by
  refine ByteArray.ext_getElem h fun i hi hi' => ?_
  have := hb i hi
  unfold btN at this
  rw [dif_pos hi, dif_pos hi'] at this
  exact UInt8.toNat_inj.1 this
theorem btN_pre {s : ByteArray} {n i : Nat} (hn : n ≤ s.size) (h : i < n) : btN (s.extract 0 n) i = btN s i := by
  have hz : (s.extract 0 n).size = n := by rw [ByteArray.size_extract]; omega
  unfold btN
  rw [dif_pos (by omega), dif_pos (by omega), ByteArray.getElem_extract]
  simp only [Nat.zero_add]
theorem pre_size {s : ByteArray} {n : Nat} (hn : n ≤ s.size) : (s.extract 0 n).size = n := by rw [ByteArray.size_extract]; omega
theorem pre_suf {s : ByteArray} {n : Nat} (hn : n ≤ s.size) : s = s.extract 0 n ++ s.extract n s.size := by
  rw [← ByteArray.extract_eq_extract_append_extract n (by omega) hn, ByteArray.extract_zero_size]
theorem app_pre {s r : ByteArray} : (s ++ r).extract 0 s.size = s := ByteArray.extract_append_eq_left rfl
theorem app_suf {s r : ByteArray} : (s ++ r).extract s.size (s ++ r).size = r := by
  rw [ByteArray.size_append]
  exact ByteArray.extract_append_eq_right rfl rfl
/-! The reader's steps. -/
theorem stop_f (b : ByteArray) (e a : Int) : octet_Reader_stop.f b e a = some (b, if e = 0 then a else e) := by
  unfold octet_Reader_stop.f
  split <;> rfl
theorem take_bad {b : ByteArray} {e : Int} (he : e ≠ 0) (a : Int) : octet_Reader_take.f b e a = some (noB, false, b, e) := by
  unfold octet_Reader_take.f
  rw [if_neg he]
  rfl
theorem take_short {b : ByteArray} {n : Nat} (h : b.size < n) : octet_Reader_take.f b 0 (n : Int) = some (noB, false, b, 11) := by
  unfold octet_Reader_take.f
  rw [if_pos rfl, if_pos (by omega), stop_f]
  rfl
theorem take_ok {b : ByteArray} {n : Nat} (h : n ≤ b.size) : octet_Reader_take.f b 0 (n : Int) = some (b.extract 0 n, true, b.extract n b.size, 0) := by
  unfold octet_Reader_take.f
  rw [if_pos rfl, if_neg (by omega), if_pos (by omega), if_pos (by omega), Int.toNat_natCast]
/-- The number of four bytes. -/
def numV (b : ByteArray) : Nat := btN b 0 * 16777216 + btN b 1 * 65536 + btN b 2 * 256 + btN b 3
theorem or_i64 {m n : Nat} (hm : m < 2 ^ 63) (hn : n < 2 ^ 63) : Go.bits .or .i64 (m : Int) (n : Int) = ((m ||| n : Nat) : Int) := by
  show IntKind.i64.wrap (((BitVec.ofInt 64 (m : Int)) ||| (BitVec.ofInt 64 (n : Int))).toNat : Int) = _
  rw [BitVec.toNat_or, bv_of m (by omega), bv_of n (by omega)]
  have := Nat.or_lt_two_pow hm hn
  generalize m ||| n = t at *
  simp [IntKind.wrap, IntKind.bits, IntKind.signed]
  omega
theorem or_sum {a b i : Nat} (h : b < 2 ^ i) (ha : 2 ^ i ∣ a) : a ||| b = a + b := by
  obtain ⟨c, rfl⟩ := ha
  rw [Nat.mul_comm]
  exact or_join c h
theorem numV_bits {a b c d : Nat} (ha : a < 256) (hb : b < 256) (hc : c < 256) (hd : d < 256) : Go.bits .or .i64 (Go.bits .or .i64 (Go.bits .or .i64 (wrap64 ((wrap64 (a : Int)) * 16777216)) (wrap64 ((wrap64 (b : Int)) * 65536))) (wrap64 ((wrap64 (c : Int)) * 256))) (wrap64 (d : Int)) = ((a * 16777216 + b * 65536 + c * 256 + d : Nat) : Int) := by
  rw [show wrap64 ((wrap64 (a : Int)) * 16777216) = ((a * 16777216 : Nat) : Int) by unfold wrap64; omega, show wrap64 ((wrap64 (b : Int)) * 65536) = ((b * 65536 : Nat) : Int) by unfold wrap64; omega, show wrap64 ((wrap64 (c : Int)) * 256) = ((c * 256 : Nat) : Int) by unfold wrap64; omega, show wrap64 (d : Int) = (d : Int) by unfold wrap64; omega]
  rw [or_i64 (by omega) (by omega), or_sum (i := 24) (by omega) (by omega), or_i64 (by omega) (by omega), or_sum (i := 16) (by omega) (by omega), or_i64 (by omega) (by omega), or_sum (i := 8) (by omega) (by omega)]
theorem Num_bad {b : ByteArray} {e : Int} (he : e ≠ 0) (a : Int) : octet_Reader_Num.f b e a = some (0, b, e) := by
  unfold octet_Reader_Num.f
  rw [take_bad he, Option.bind_some, if_neg (show ¬(false = true) by decide)]
theorem Num_short {b : ByteArray} (h : b.size < 4) (a : Int) : octet_Reader_Num.f b 0 a = some (0, b, 11) := by
  unfold octet_Reader_Num.f
  rw [show (4 : Int) = ((4 : Nat) : Int) from rfl, take_short h, Option.bind_some, if_neg (show ¬(false = true) by decide)]
theorem Num_of {b : ByteArray} (h : 4 ≤ b.size) (a : Int) : octet_Reader_Num.f b 0 a = if (numV b : Int) > mn a 2147483647 then some (0, b.extract 4 b.size, 2) else some ((numV b : Int), b.extract 4 b.size, 0) := by
  have hz := pre_size h
  unfold octet_Reader_Num.f
  rw [show (4 : Int) = ((4 : Nat) : Int) from rfl, take_ok h, Option.bind_some, if_pos rfl, if_pos (show (0 : Int) < ((b.extract 0 4).size : Int) by omega), if_pos (show (1 : Int) < ((b.extract 0 4).size : Int) by omega), if_pos (show (2 : Int) < ((b.extract 0 4).size : Int) by omega), if_pos (show (3 : Int) < ((b.extract 0 4).size : Int) by omega)]
  rw [show (0 : Int) = ((0 : Nat) : Int) from rfl, show (1 : Int) = ((1 : Nat) : Int) from rfl, show (2 : Int) = ((2 : Nat) : Int) from rfl, show (3 : Int) = ((3 : Nat) : Int) from rfl, bt_btN, bt_btN, bt_btN, bt_btN, btN_pre h (by decide), btN_pre h (by decide), btN_pre h (by decide), btN_pre h (by decide), numV_bits (btN_lt _ _) (btN_lt _ _) (btN_lt _ _) (btN_lt _ _), stop_f]
  rfl
theorem mn_le (a b : Int) : mn a b ≤ a ∧ mn a b ≤ b := by
  unfold mn
  split <;> omega
theorem digs {v a b c d : Nat} (ha : a < 256) (hb : b < 256) (hc : c < 256) (hd : d < 256) (e : v = a * 16777216 + b * 65536 + c * 256 + d) : (v : Int) / 16777216 % 256 = (a : Int) ∧ (v : Int) / 65536 % 256 = (b : Int) ∧ (v : Int) / 256 % 256 = (c : Int) ∧ (v : Int) % 256 = (d : Int) := by
  refine ⟨?_, ?_, ?_, ?_⟩ <;> omega
theorem numV_numB {b : ByteArray} (h : 4 ≤ b.size) (hv : numV b ≤ 2147483647) : numB (numV b : Int) = b.extract 0 4 := by
  have hn : (numB (numV b : Int)).size = 4 := numB_size (by omega) (by omega)
  have hz := pre_size h
  refine btN_ext (by omega) fun i hi => ?_
  rw [btN_pre h (by omega)]
  obtain ⟨k0, k1, k2, k3⟩ := digs (btN_lt b 0) (btN_lt b 1) (btN_lt b 2) (btN_lt b 3) (v := numV b) rfl
  have e : numB (numV b : Int) = strOfNums [(btN b 0 : Int), (btN b 1 : Int), (btN b 2 : Int), (btN b 3 : Int)] := by
    unfold numB
    rw [if_neg (by omega), if_neg (by omega), k0, k1, k2, k3]
  have h4 : i < 4 := by omega
  rw [e, strOf_get (by exact h4)]
  have c : i = 0 ∨ i = 1 ∨ i = 2 ∨ i = 3 := by omega
  rcases c with rfl | rfl | rfl | rfl
  · exact u8_of_lt (btN_lt b 0)
  · exact u8_of_lt (btN_lt b 1)
  · exact u8_of_lt (btN_lt b 2)
  · exact u8_of_lt (btN_lt b 3)
/-- What a number's reading answers, from any state. -/
theorem Num_snd (b : ByteArray) (e a : Int) : ∃ (n : Nat) (r : ByteArray) (e' : Int), octet_Reader_Num.f b e a = some ((n : Int), r, e') ∧ n ≤ 2147483647 ∧ (n ≠ 0 → e' = 0) ∧ (e' = 0 → e = 0 ∧ (n : Int) ≤ a ∧ b = numB (n : Int) ++ r) := by
  by_cases he : e = 0
  · subst he
    by_cases hs : b.size < 4
    · exact ⟨0, b, 11, Num_short hs a, by decide, fun h => absurd rfl h, fun h => absurd h (by decide)⟩
    · have hs' : 4 ≤ b.size := by omega
      have hm := mn_le a 2147483647
      by_cases hv : (numV b : Int) > mn a 2147483647
      · exact ⟨0, _, 2, by rw [Num_of hs', if_pos hv]; rfl, by decide, fun h => absurd rfl h, fun h => absurd h (by decide)⟩
      · refine ⟨numV b, _, 0, by rw [Num_of hs', if_neg hv], by omega, fun _ => rfl, fun _ => ⟨rfl, by omega, ?_⟩⟩
        rw [numV_numB hs' (by omega)]
        exact pre_suf hs'
  · exact ⟨0, b, e, Num_bad he a, by decide, fun h => absurd rfl h, fun h => absurd h he⟩
/-! Texts. -/
theorem Text_snd (b : ByteArray) (e a : Int) : ∃ (t r : ByteArray) (e' : Int), octet_Reader_Text.f b e a = some (t, r, e') ∧ (e' = 0 → e = 0 ∧ (t.size : Int) ≤ a ∧ t.size ≤ 2147483647 ∧ b = textB t ++ r) := by
  obtain ⟨n, r, e', h, hn, h1, h2⟩ := Num_snd b e a
  unfold octet_Reader_Text.f
  rw [h, Option.bind_some]
  by_cases he : e' = 0
  · subst he
    obtain ⟨rfl, ha, hb⟩ := h2 rfl
    by_cases hs : r.size < n
    · refine ⟨noB, r, 11, ?_, fun h => absurd h (by decide)⟩
      show (octet_Reader_take.f r 0 (n : Int)).bind _ = _
      rw [take_short hs]
      rfl
    · have hs' : n ≤ r.size := by omega
      refine ⟨r.extract 0 n, r.extract n r.size, 0, ?_, fun _ => ⟨rfl, ?_, ?_, ?_⟩⟩
      · show (octet_Reader_take.f r 0 (n : Int)).bind _ = _
        rw [take_ok hs']
        rfl
      · rw [pre_size hs']; exact ha
      · rw [pre_size hs']; exact hn
      · unfold textB
        rw [pre_size hs', ByteArray.append_assoc, ← pre_suf hs']
        exact hb
  · refine ⟨noB, r, e', ?_, fun h => absurd h he⟩
    show (octet_Reader_take.f r e' (n : Int)).bind _ = _
    rw [take_bad he]
    rfl
/-! Lists of texts. -/
theorem List_snd_l0 (a : Int) (n : Nat) (hn : n ≤ 2147483647) : ∀ (d i : Nat) (acc : List ByteArray) (b : ByteArray) (e : Int), i + d = n → acc.length = i →
    ∃ (L : List ByteArray) (r : ByteArray) (e' : Int), Ev (fun k => octet_Reader_List.l0 k a (n : Int) acc (i : Int) b e) (L, r, e') ∧ (e' = 0 → e = 0 ∧ ∃ M : List ByteArray, M.length = d ∧ L = acc ++ M ∧ b = lstB M noB ++ r)
  | 0, i, acc, b, e, h, hl => by
    by_cases he : e = 0
    · subst he
      refine ⟨acc, b, 0, Ev.succ ?_, fun _ => ⟨rfl, [], rfl, (List.append_nil _).symm, ByteArray.empty_append.symm⟩⟩
      simp only [octet_Reader_List.l0]
      exact Ev.neg (by omega) (Ev.bind (Ev.now _) (Ev.pos rfl (Ev.now _)))
    · refine ⟨[], b, e, Ev.succ ?_, fun h => absurd h he⟩
      simp only [octet_Reader_List.l0]
      exact Ev.neg (by omega) (Ev.bind (Ev.now _) (Ev.neg he (Ev.now _)))
  | d + 1, i, acc, b, e, h, hl => by
    by_cases he : e = 0
    · subst he
      obtain ⟨t, r1, e1, ht, hs⟩ := Text_snd b 0 a
      obtain ⟨L, r, e', hL, hi⟩ := List_snd_l0 a n hn d (i + 1) (acc ++ [t]) r1 e1 (by omega) (by rw [List.length_append, hl]; rfl)
      refine ⟨L, r, e', Ev.succ ?_, fun h0 => ?_⟩
      · simp only [octet_Reader_List.l0]
        refine Ev.pos (by omega) (Ev.bind (Ev.now _) (Ev.pos rfl (Ev.bind (Ev.const ht) (Ev.pos (by omega) ?_))))
        rw [wrap_succ i (by omega)]
        exact hL
      · obtain ⟨h1, M, hM, hLM, hb⟩ := hi h0
        obtain ⟨_, _, _, hb0⟩ := hs h1
        refine ⟨rfl, t :: M, by rw [List.length_cons, hM], by rw [hLM, List.append_assoc]; rfl, ?_⟩
        rw [lstB_cons, lstB_app M (noB ++ textB t), ByteArray.append_assoc, ← hb, show noB ++ textB t = textB t from ByteArray.empty_append]
        exact hb0
    · refine ⟨[], b, e, Ev.succ ?_, fun h => absurd h he⟩
      simp only [octet_Reader_List.l0]
      exact Ev.pos (by omega) (Ev.bind (Ev.now _) (Ev.neg he (Ev.bind (Ev.now _) (Ev.neg he (Ev.now _)))))
theorem List_snd (b : ByteArray) (e a c : Int) : ∃ (L : List ByteArray) (r : ByteArray) (e' : Int), Ev (fun k => octet_Reader_List.f k b e a c) (L, r, e') ∧ (e' = 0 → e = 0 ∧ L.length ≤ 2147483647 ∧ b = listB L ++ r) := by
  obtain ⟨n, r0, e0, h, hn, h1, h2⟩ := Num_snd b e a
  obtain ⟨L, r, e', hL, hi⟩ := List_snd_l0 c n hn n 0 [] r0 e0 (by omega) rfl
  refine ⟨L, r, e', ?_, fun h0 => ?_⟩
  · unfold octet_Reader_List.f
    exact Ev.bind (Ev.const h) hL
  · obtain ⟨h3, M, hM, hLM, hb⟩ := hi h0
    obtain ⟨h4, _, hb0⟩ := h2 h3
    rw [List.nil_append] at hLM
    subst hLM
    refine ⟨h4, by omega, ?_⟩
    unfold listB
    rw [lstB_app, hM, ByteArray.append_assoc, ← hb]
    exact hb0
end Go.Proofs.Ythgiifakcgjlaaa.Br
