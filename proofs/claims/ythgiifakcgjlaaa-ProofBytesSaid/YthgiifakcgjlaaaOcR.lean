/- What a reader of octets answers: numbers, texts, lists of texts. Conditions: those that each theorem names. -/
import Derived.Test.YthgiifakcgjlaaaOcE
import Derived.Test.YthgiifakcgjlaaaPx13b
import Derived.Test.YthgiifakcgjlaaaPx14
import Derived.Test.YthgiifakcgjlaaaPx5
set_option linter.unusedVariables false
set_option linter.unusedSimpArgs false
namespace Go.Proofs.Ythgiifakcgjlaaa.Br
open Go.RowKit Go.Proofs.YthgiifakcgjlaaaT Go.Proofs.Ythgiifakcgjlaaa.P Go.Proofs.YthgiifakcgjlaaaW.PrintWords Go.Proofs.YthgiifakcgjlaaaW.PrintLast
/-! Bytes of a text. -/
def btN (s : ByteArray) (i : Nat) : Nat := if h : i < s.size then (s[i]'h).toNat else 0
theorem bt_btN (s : ByteArray) (i : Nat) : bt s (i : Int) = (btN s i : Int) := by
  unfold bt btN
  simp only [Int.toNat_natCast]
  split <;> rfl
theorem btN_lt (s : ByteArray) (i : Nat) : btN s i < 256 := by
  unfold btN
  split
  · exact (s[i]).toNat_lt
  · decide
theorem u8_of_lt {n : Nat} (h : n < 256) : (UInt8.ofNat (n : Int).toNat).toNat = n := by
  rw [Int.toNat_natCast, UInt8.toNat_ofNat']
  exact Nat.mod_eq_of_lt h
theorem strOf_get {l : List Int} {i : Nat} (h : i < l.length) : btN (strOfNums l) i = (UInt8.ofNat (l[i]).toNat).toNat := by
  have hs : i < (strOfNums l).size := by rw [strOfNums_size]; exact h
  unfold btN
  rw [dif_pos hs]
  simp only [strOfNums, ByteArray.getElem_eq_getElem_data, List.getElem_toArray, List.getElem_map]
theorem btN_left {s r : ByteArray} {i : Nat} (h : i < s.size) : btN (s ++ r) i = btN s i := by
  unfold btN
  rw [dif_pos h, dif_pos (by rw [ByteArray.size_append]; omega), ByteArray.getElem_append_left h]
theorem btN_pre {s : ByteArray} {n i : Nat} (hn : n ≤ s.size) (h : i < n) : btN (s.extract 0 n) i = btN s i := by
  have hz : (s.extract 0 n).size = n := by rw [ByteArray.size_extract]; omega
  unfold btN
  rw [dif_pos (by omega), dif_pos (by omega), ByteArray.getElem_extract]
  simp only [Nat.zero_add]
theorem pre_size {s : ByteArray} {n : Nat} (hn : n ≤ s.size) : (s.extract 0 n).size = n := by rw [ByteArray.size_extract]; omega
theorem app_pre {s r : ByteArray} : (s ++ r).extract 0 s.size = s := ByteArray.extract_append_eq_left rfl
theorem app_suf {s r : ByteArray} : (s ++ r).extract s.size (s ++ r).size = r := by
  rw [ByteArray.size_append]
  exact ByteArray.extract_append_eq_right rfl rfl
/-! The reader's steps. -/
theorem stop_f (b : ByteArray) (e a : Int) : octet_Reader_stop.f b e a = some (b, if e = 0 then a else e) := by
  unfold octet_Reader_stop.f
  split <;> rfl
theorem take_ok {b : ByteArray} {n : Nat} (h : n ≤ b.size) : octet_Reader_take.f b 0 (n : Int) = some (b.extract 0 n, true, b.extract n b.size, 0) := by
  unfold octet_Reader_take.f
  rw [if_pos rfl, if_neg (by omega), if_pos (by omega), if_pos (by omega), Int.toNat_natCast]
/-- The number of four bytes. -/
def numV (b : ByteArray) : Nat := btN b 0 * 16777216 + btN b 1 * 65536 + btN b 2 * 256 + btN b 3
theorem or_i64 {m n : Nat} (hm : m < 2 ^ 63) (hn : n < 2 ^ 63) : Go.bits .or .i64 (m : Int) (n : Int) = ((m ||| n : Nat) : Int) := by
  show IntKind.i64.wrap (((BitVec.ofInt 64 (m : Int)) ||| (BitVec.ofInt 64 (n : Int))).toNat : Int) = _
  rw [BitVec.toNat_or, bv_of m (by omega), bv_of n (by omega)]
  have := Nat.or_lt_two_pow hm hn
  generalize m ||| n = t at *
  simp [IntKind.wrap, IntKind.bits, IntKind.signed]
  omega
theorem or_sum {a b i : Nat} (h : b < 2 ^ i) (ha : 2 ^ i ∣ a) : a ||| b = a + b := by
  obtain ⟨c, rfl⟩ := ha
  rw [Nat.mul_comm]
  exact or_join c h
theorem numV_bits {a b c d : Nat} (ha : a < 256) (hb : b < 256) (hc : c < 256) (hd : d < 256) : Go.bits .or .i64 (Go.bits .or .i64 (Go.bits .or .i64 (wrap64 ((wrap64 (a : Int)) * 16777216)) (wrap64 ((wrap64 (b : Int)) * 65536))) (wrap64 ((wrap64 (c : Int)) * 256))) (wrap64 (d : Int)) = ((a * 16777216 + b * 65536 + c * 256 + d : Nat) : Int) := by
  rw [show wrap64 ((wrap64 (a : Int)) * 16777216) = ((a * 16777216 : Nat) : Int) by unfold wrap64; omega, show wrap64 ((wrap64 (b : Int)) * 65536) = ((b * 65536 : Nat) : Int) by unfold wrap64; omega, show wrap64 ((wrap64 (c : Int)) * 256) = ((c * 256 : Nat) : Int) by unfold wrap64; omega, show wrap64 (d : Int) = (d : Int) by unfold wrap64; omega]
  rw [or_i64 (by omega) (by omega), or_sum (i := 24) (by omega) (by omega), or_i64 (by omega) (by omega), or_sum (i := 16) (by omega) (by omega), or_i64 (by omega) (by omega), or_sum (i := 8) (by omega) (by omega)]
theorem Num_of {b : ByteArray} (h : 4 ≤ b.size) (a : Int) : octet_Reader_Num.f b 0 a = if (numV b : Int) > mn a 2147483647 then some (0, b.extract 4 b.size, 2) else some ((numV b : Int), b.extract 4 b.size, 0) := by
  have hz := pre_size h
  unfold octet_Reader_Num.f
  rw [show (4 : Int) = ((4 : Nat) : Int) from rfl, take_ok h, Option.bind_some, if_pos rfl, if_pos (show (0 : Int) < ((b.extract 0 4).size : Int) by omega), if_pos (show (1 : Int) < ((b.extract 0 4).size : Int) by omega), if_pos (show (2 : Int) < ((b.extract 0 4).size : Int) by omega), if_pos (show (3 : Int) < ((b.extract 0 4).size : Int) by omega)]
  rw [show (0 : Int) = ((0 : Nat) : Int) from rfl, show (1 : Int) = ((1 : Nat) : Int) from rfl, show (2 : Int) = ((2 : Nat) : Int) from rfl, show (3 : Int) = ((3 : Nat) : Int) from rfl, bt_btN, bt_btN, bt_btN, bt_btN, btN_pre h (by decide), btN_pre h (by decide), btN_pre h (by decide), btN_pre h (by decide), numV_bits (btN_lt _ _) (btN_lt _ _) (btN_lt _ _) (btN_lt _ _), stop_f]
  rfl
theorem numV_of {a : Int} (h0 : 0 ≤ a) (h1 : a ≤ 2147483647) (r : ByteArray) : (numV (numB a ++ r) : Int) = a := by
  have hn := numB_size h0 h1
  have e : numB a = strOfNums [a / 16777216 % 256, a / 65536 % 256, a / 256 % 256, a % 256] := by
    unfold numB
    rw [if_neg (by omega), if_neg (by omega)]
  have g : ∀ (i : Nat) (h : i < 4) (v : Int), 0 ≤ v → v < 256 → [a / 16777216 % 256, a / 65536 % 256, a / 256 % 256, a % 256][i]'h = v → (btN (numB a ++ r) i : Int) = v := by
    intro i h v hv0 hv1 hv
    rw [btN_left (by omega), e, strOf_get (by exact h), hv]
    obtain ⟨n, rfl⟩ := Int.eq_ofNat_of_zero_le hv0
    rw [u8_of_lt (by omega)]
  have g0 := g 0 (by decide) (a / 16777216 % 256) (by omega) (by omega) rfl
  have g1 := g 1 (by decide) (a / 65536 % 256) (by omega) (by omega) rfl
  have g2 := g 2 (by decide) (a / 256 % 256) (by omega) (by omega) rfl
  have g3 := g 3 (by decide) (a % 256) (by omega) (by omega) rfl
  unfold numV
  omega
theorem Num_cmp {n a : Int} (h0 : 0 ≤ n) (h1 : n ≤ 2147483647) (ha : n ≤ a) (r : ByteArray) : octet_Reader_Num.f (numB n ++ r) 0 a = some (n, r, 0) := by
  have hn := numB_size h0 h1
  rw [Num_of (by rw [ByteArray.size_append]; omega), numV_of h0 h1, if_neg (by unfold mn; split <;> omega)]
  have : (numB n ++ r).extract 4 (numB n ++ r).size = r := by
    rw [← hn]
    exact app_suf
  rw [this]
/-! Texts. -/
theorem Text_cmp {t : ByteArray} {a : Int} (h1 : t.size ≤ 2147483647) (ha : (t.size : Int) ≤ a) (r : ByteArray) : octet_Reader_Text.f (textB t ++ r) 0 a = some (t, r, 0) := by
  unfold octet_Reader_Text.f textB
  rw [ByteArray.append_assoc, Num_cmp (by omega) (by omega) ha, Option.bind_some]
  show (octet_Reader_take.f (t ++ r) 0 (t.size : Int)).bind _ = _
  rw [take_ok (by rw [ByteArray.size_append]; omega), app_pre, app_suf]
  rfl
/-! Lists of texts. -/
theorem List_cmp_l0 (a : Int) (n : Nat) (hn : n ≤ 2147483647) (r : ByteArray) : ∀ (M acc : List ByteArray) (i : Nat), i + M.length = n → acc.length = i → (∀ t ∈ M, t.size ≤ 2147483647 ∧ (t.size : Int) ≤ a) →
    Ev (fun k => octet_Reader_List.l0 k a (n : Int) acc (i : Int) (lstB M noB ++ r) 0) (acc ++ M, r, 0)
  | [], acc, i, h, hl, _ => by
    rw [List.length_nil] at h
    rw [lstB_nil, show noB ++ r = r from ByteArray.empty_append, List.append_nil]
    refine Ev.succ ?_
    simp only [octet_Reader_List.l0]
    exact Ev.neg (by omega) (Ev.bind (Ev.now _) (Ev.pos rfl (Ev.now _)))
  | t :: M, acc, i, h, hl, hs => by
    rw [List.length_cons] at h
    obtain ⟨h1, h2⟩ := hs t List.mem_cons_self
    rw [lstB_cons, lstB_app M (noB ++ textB t), ByteArray.append_assoc, show noB ++ textB t = textB t from ByteArray.empty_append]
    refine Ev.succ ?_
    simp only [octet_Reader_List.l0]
    refine Ev.pos (by omega) (Ev.bind (Ev.now _) (Ev.pos rfl (Ev.bind (Ev.const (Text_cmp h1 h2 _)) (Ev.pos (by omega) ?_))))
    rw [wrap_succ i (by omega), show acc ++ t :: M = (acc ++ [t]) ++ M by rw [List.append_assoc]; rfl]
    exact List_cmp_l0 a n hn r M (acc ++ [t]) (i + 1) (by omega) (by rw [List.length_append, hl]; rfl) (fun u hu => hs u (List.mem_cons_of_mem _ hu))
theorem List_cmp {L : List ByteArray} {a c : Int} (hL : L.length ≤ 2147483647) (ha : (L.length : Int) ≤ a) (hs : ∀ t ∈ L, t.size ≤ 2147483647 ∧ (t.size : Int) ≤ c) (r : ByteArray) : Ev (fun k => octet_Reader_List.f k (listB L ++ r) 0 a c) (L, r, 0) := by
  unfold octet_Reader_List.f listB
  rw [lstB_app, ByteArray.append_assoc]
  exact Ev.bind (Ev.const (Num_cmp (by omega) (by omega) ha _)) (List_cmp_l0 c L.length hL r L [] 0 (by omega) rfl hs)
end Go.Proofs.Ythgiifakcgjlaaa.Br
