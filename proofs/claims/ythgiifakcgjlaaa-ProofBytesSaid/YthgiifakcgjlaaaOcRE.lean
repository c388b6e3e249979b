/- What a reader of octets answers: elements and lists of elements. Conditions: those that each theorem names. -/
import Derived.Test.YthgiifakcgjlaaaOcR
import Derived.Test.YthgiifakcgjlaaaPx13
set_option linter.unusedVariables false
set_option linter.unusedSimpArgs false
namespace Go.Proofs.Ythgiifakcgjlaaa.Br
open Go.RowKit Go.Proofs.YthgiifakcgjlaaaT Go.Proofs.Ythgiifakcgjlaaa.P Go.Proofs.YthgiifakcgjlaaaW.PrintWords Go.Proofs.YthgiifakcgjlaaaW.PrintLast
/-- The number of n bytes from a place on. -/
def vO (s : ByteArray) (o : Nat) : Nat → Nat
  | 0 => 0
  | n + 1 => vO s o n + btN s (o + n) * 2 ^ (8 * n)
theorem byte_room {b n : Nat} (hb : b < 256) : b * 2 ^ (8 * n) + 2 ^ (8 * n) ≤ 2 ^ (8 * (n + 1)) := by
  rw [show 8 * (n + 1) = 8 + 8 * n by omega, Nat.pow_add, show (2 : Nat) ^ 8 = 256 from rfl, ← Nat.succ_mul]
  exact Nat.mul_le_mul_right _ hb
theorem vO_lt (s : ByteArray) (o : Nat) : ∀ n, vO s o n < 2 ^ (8 * n)
  | 0 => by show 0 < _; exact Nat.two_pow_pos _
  | n + 1 => by
    have h1 := vO_lt s o n
    have h2 := byte_room (n := n) (btN_lt s (o + n))
    show vO s o n + btN s (o + n) * 2 ^ (8 * n) < _
    omega
theorem vO_byte (s : ByteArray) (o : Nat) {j : Nat} : ∀ n, j < n → vO s o n / 2 ^ (8 * j) % 256 = btN s (o + j)
  | 0, h => by omega
  | n + 1, h => by
    have hb := btN_lt s (o + n)
    have hv := vO_lt s o n
    show (vO s o n + btN s (o + n) * 2 ^ (8 * n)) / 2 ^ (8 * j) % 256 = _
    by_cases hj : j = n
    · subst hj
      rw [Nat.add_mul_div_right _ _ (Nat.two_pow_pos _), Nat.div_eq_of_lt hv, Nat.zero_add]
      exact Nat.mod_eq_of_lt hb
    · have ih := vO_byte s o (j := j) n (by omega)
      have e : 2 ^ (8 * n) = 256 * 2 ^ (8 * (n - j - 1)) * 2 ^ (8 * j) := by
        rw [show 256 = 2 ^ 8 from rfl, ← Nat.pow_add, ← Nat.pow_add]
        congr 1
        omega
      rw [e, ← Nat.mul_assoc, Nat.add_mul_div_right _ _ (Nat.two_pow_pos _), Nat.mul_left_comm, Nat.add_mul_mod_self_left]
      exact ih
theorem or_byte {V b n : Nat} (hn : n < 8) (hb : b < 256) (hV : V < 2 ^ (8 * n)) : Go.bits .or .u64 (V : Int) (shl .u64 (IntKind.u64.wrap (b : Int)) (wrap64 (8 * (n : Int)))) = ((V + b * 2 ^ (8 * n) : Nat) : Int) := by
  have h1 := byte_room (n := n) hb
  have h2 : 2 ^ (8 * (n + 1)) ≤ 2 ^ 64 := Nat.pow_le_pow_right (by decide) (by omega)
  rw [wrap_u64 b (by omega), show wrap64 (8 * (n : Int)) = ((8 * n : Nat) : Int) by unfold wrap64; omega, shl_u64 _ _ (by omega) (by omega), bits_or _ _ (by omega) (by omega), Nat.or_comm, or_join b hV, Nat.add_comm]
/-- The element of up to sixteen bytes. -/
def xS (s : ByteArray) : T 7 := ((dec 6 (vO s 8 (s.size - 8)), dec 6 (vO s 0 (min s.size 8))) : T 6 × T 6)
theorem vO_64 (s : ByteArray) (o : Nat) {n : Nat} (h : n ≤ 8) : vO s o n < 2 ^ 2 ^ 6 := Nat.lt_of_lt_of_le (vO_lt s o n) (Nat.pow_le_pow_right (n := 2) (by decide) (show 8 * n ≤ 2 ^ 6 by omega))
theorem xS_hi {s : ByteArray} (h : s.size ≤ 16) : hiW (xS s) = (vO s 8 (s.size - 8) : Int) := by
  show ((enc 6 (dec 6 (vO s 8 (s.size - 8))) : Nat) : Int) = _
  rw [enc_dec_of_lt (vO_64 s 8 (by omega))]
theorem xS_lo {s : ByteArray} (h : s.size ≤ 16) : loW (xS s) = (vO s 0 (min s.size 8) : Int) := by
  show ((enc 6 (dec 6 (vO s 0 (min s.size 8))) : Nat) : Int) = _
  rw [enc_dec_of_lt (vO_64 s 0 (by omega))]
theorem xS_by {s : ByteArray} (h : s.size ≤ 16) {j : Nat} (hj : j < s.size) : byN (xS s) j = btN s j := by
  have e := eByte_by (xS s) (i := j) (by omega)
  rw [xS_hi h, xS_lo h] at e
  by_cases h8 : j < 8
  · have hv := vO_byte s 0 (j := j) (min s.size 8) (by omega)
    rw [Nat.zero_add] at hv
    rw [eByte_lo _ _ h8, show (8 * (j : Int)).toNat = 8 * j by omega, wrap_u8] at e
    generalize vO s 0 (min s.size 8) = V at *
    rw [show ((2 : Int) ^ (8 * j)) = ((2 ^ (8 * j) : Nat) : Int) by rw [Int.natCast_pow]; rfl, ← Int.natCast_ediv, show (256 : Int) = ((256 : Nat) : Int) from rfl, ← Int.natCast_emod, hv] at e
    exact (Int.ofNat.inj e).symm
  · obtain ⟨i, rfl⟩ : ∃ i, j = 8 + i := ⟨j - 8, by omega⟩
    have hv := vO_byte s 8 (j := i) (s.size - 8) (by omega)
    rw [eByte_hi _ _ (by omega), show (8 * (i : Int)).toNat = 8 * i by omega, wrap_u8] at e
    generalize vO s 8 (s.size - 8) = V at *
    rw [show ((2 : Int) ^ (8 * i)) = ((2 ^ (8 * i) : Nat) : Int) by rw [Int.natCast_pow]; rfl, ← Int.natCast_ediv, show (256 : Int) = ((256 : Nat) : Int) from rfl, ← Int.natCast_emod, hv] at e
    exact (Int.ofNat.inj e).symm
theorem bytL_get {x : T 7} {n i : Nat} (h : i < n) : btN (strOfNums (bytL x n)) i = byN x i := by
  have hl : i < (bytL x n).length := by rw [bytL_len]; exact h
  rw [strOf_get hl]
  have e : (bytL x n)[i] = ((byN x i : Nat) : Int) := by simp only [bytL, List.getElem_map, List.getElem_range]
  rw [e]
  exact u8_of_lt (Nat.mod_lt _ (by decide))
theorem bytes_inj {M K n : Nat} (hM : M < 2 ^ (8 * n)) (hK : K < 2 ^ (8 * n)) (h : ∀ j, j < n → M / 2 ^ (8 * j) % 256 = K / 2 ^ (8 * j) % 256) : M = K := by
  refine Nat.eq_of_testBit_eq fun i => ?_
  by_cases hi : i < 8 * n
  · have := congrArg (fun t => t.testBit (i % 8)) (h (i / 8) (by omega))
    simp only [show 256 = 2 ^ 8 from rfl, Nat.testBit_mod_two_pow, Nat.testBit_div_two_pow] at this
    rw [show i % 8 + 8 * (i / 8) = i by omega, decide_eq_true (by omega), Bool.true_and, Bool.true_and] at this
    exact this
  · have hp : 2 ^ (8 * n) ≤ 2 ^ i := Nat.pow_le_pow_right (by decide) (by omega)
    rw [Nat.testBit_lt_two_pow (by omega), Nat.testBit_lt_two_pow (by omega)]
theorem xS_enc {s : ByteArray} (h : s.size ≤ 16) : enc 7 (xS s) < 2 ^ (8 * s.size) := by
  have e1 := xS_hi h
  have e2 := xS_lo h
  have e1' : enc 6 (xS s).1 = vO s 8 (s.size - 8) := Int.ofNat.inj e1
  have e2' : enc 6 (xS s).2 = vO s 0 (min s.size 8) := Int.ofNat.inj e2
  rw [enc7, e1', e2']
  by_cases h8 : s.size ≤ 8
  · rw [show s.size - 8 = 0 by omega, Nat.min_eq_left h8]
    show 0 * 2 ^ 64 + vO s 0 s.size < _
    rw [Nat.zero_mul, Nat.zero_add]
    exact vO_lt s 0 s.size
  · rw [Nat.min_eq_right (by omega)]
    have v1 := vO_lt s 8 (s.size - 8)
    have v2 := vO_lt s 0 8
    have e : 2 ^ (8 * s.size) = 2 ^ (8 * (s.size - 8)) * 2 ^ 64 := by
      rw [← Nat.pow_add]
      congr 1
      omega
    rw [e]
    generalize vO s 8 (s.size - 8) = H at *
    generalize vO s 0 8 = L at *
    generalize 2 ^ (8 * (s.size - 8)) = P at *
    have : (H + 1) * 2 ^ 64 ≤ P * 2 ^ 64 := Nat.mul_le_mul_right _ v1
    omega
theorem wideN_bits {a : Int} (h : 0 ≤ a ∧ a ≤ 7) : 2 ^ a.toNat ≤ 8 * wideN a := by
  obtain ⟨j, rfl⟩ := Int.eq_ofNat_of_zero_le h.1
  have : ∀ j : Nat, j < 8 → 2 ^ (j : Int).toNat ≤ 8 * wideN (j : Int) := by decide
  exact this j (by omega)
theorem ofB_range {a : Int} {x : T 7} (h : ofB a x = true) : (0 ≤ a ∧ a ≤ 7) ∧ enc 7 x < 2 ^ (8 * wideN a) := by
  unfold ofB at h
  rw [decide_eq_true_eq] at h
  obtain ⟨h0, h1, h2⟩ := h
  exact ⟨⟨h0, h1⟩, Nat.lt_of_lt_of_le h2 (Nat.pow_le_pow_right (by decide) (wideN_bits ⟨h0, h1⟩))⟩
theorem wideN_pos {a : Int} (h : 0 ≤ a ∧ a ≤ 7) : wideN a ≠ 0 := by
  have h1 := wideN_bits h
  have h2 := Nat.two_pow_pos a.toNat
  omega
theorem xS_of {a : Int} {x : T 7} (h : ofB a x = true) : xS (bytesE a x) = x := by
  have hz := bytesE_size h
  have hw := wideN_le a
  obtain ⟨hr, he⟩ := ofB_range h
  have he2 := xS_enc (s := bytesE a x) (by omega)
  rw [hz] at he2
  refine enc_inj (bytes_inj he2 he fun j hj => ?_)
  show byN (xS (bytesE a x)) j = byN x j
  rw [xS_by (by omega) (by omega)]
  unfold bytesE
  rw [if_pos h, bytL_get hj]
/-! One element. -/
theorem Elem_l0 (a : Int) (s b : ByteArray) (hs : s.size ≤ 16) : ∀ d i : Nat, i + d = s.size →
    Ev (fun k => octet_Reader_Elem.l0 k a s (s.size : Int) (i : Int) b 0 (vO s 8 (i - 8) : Int) (vO s 0 (min i 8) : Int)) (if ofB a (xS s) = true then (hiW (xS s), loW (xS s), b, 0) else (0, 0, b, 5))
  | 0, i, h => by
    obtain rfl : i = s.size := by omega
    refine Ev.succ ?_
    simp only [octet_Reader_Elem.l0]
    refine Ev.neg (by omega) ?_
    rw [← xS_hi hs, ← xS_lo hs]
    refine Ev.bind (Of_ev a (xS s)) ?_
    by_cases ho : ofB a (xS s) = true
    · rw [if_pos ho, if_pos ho]
      exact Ev.now _
    · rw [if_neg ho, if_neg ho]
      exact Ev.bind (Ev.const (stop_f _ _ _)) (Ev.now _)
  | d + 1, i, h => by
    have hb := btN_lt s i
    refine Ev.succ ?_
    simp only [octet_Reader_Elem.l0]
    refine Ev.pos (by omega) ?_
    have ih := Elem_l0 a s b hs d (i + 1) (by omega)
    by_cases h8 : i < 8
    · refine Ev.pos (by omega) (Ev.pos (by omega) (Ev.pos (by omega) (Ev.pos (by unfold wrap64; omega) ?_)))
      rw [bt_btN, show min i 8 = i by omega, or_byte h8 hb (vO_lt s 0 i), wrap_succ i (by omega)]
      rw [show min (i + 1) 8 = i + 1 by omega, show i + 1 - 8 = i - 8 by omega] at ih
      have e : vO s 0 (i + 1) = vO s 0 i + btN s i * 2 ^ (8 * i) := by
        show vO s 0 i + btN s (0 + i) * 2 ^ (8 * i) = _
        rw [Nat.zero_add]
      rw [e] at ih
      exact ih
    · obtain ⟨m, rfl⟩ : ∃ m, i = 8 + m := ⟨i - 8, by omega⟩
      have hw : wrap64 (((8 + m : Nat) : Int) - 8) = (m : Int) := by unfold wrap64; omega
      refine Ev.neg (by omega) (Ev.pos (by omega) (Ev.pos (by omega) (Ev.pos (by rw [hw]; unfold wrap64; omega) ?_)))
      rw [bt_btN, hw, show 8 + m - 8 = m by omega, or_byte (by omega) hb (vO_lt s 8 m), wrap_succ (8 + m) (by omega), show min (8 + m) 8 = 8 by omega]
      rw [show min (8 + m + 1) 8 = 8 by omega, show 8 + m + 1 - 8 = m + 1 by omega] at ih
      exact ih
theorem Elem_read {a : Int} (hw : wideN a ≠ 0) {s : ByteArray} (hs : s.size = wideN a) (r : ByteArray) : Ev (fun k => octet_Reader_Elem.f k (s ++ r) 0 a) (if ofB a (xS s) = true then (hiW (xS s), loW (xS s), r, 0) else (0, 0, r, 5)) := by
  have hl := wideN_le a
  have hz : (s ++ r).extract 0 (wideN a) = s := by rw [← hs]; exact app_pre
  have hy : (s ++ r).extract (wideN a) (s ++ r).size = r := by rw [← hs]; exact app_suf
  have ht := take_ok (b := s ++ r) (n := wideN a) (by rw [ByteArray.size_append]; omega)
  rw [hz, hy] at ht
  unfold octet_Reader_Elem.f
  refine Ev.bind (Wide_ev a) (Ev.neg (by omega) (Ev.bind (Wide_ev a) (Ev.bind (Ev.const ht) (Ev.pos rfl ?_))))
  have := Elem_l0 a s r (by omega) s.size 0 (by omega)
  exact this
theorem Elem_cmp {a : Int} {x : T 7} (h : ofB a x = true) (r : ByteArray) : Ev (fun k => octet_Reader_Elem.f k (bytesE a x ++ r) 0 a) (hiW x, loW x, r, 0) := by
  have := Elem_read (wideN_pos (ofB_range h).1) (bytesE_size h) r
  rw [xS_of h, if_pos h] at this
  exact this
/-! Lists of elements. -/
theorem elsB_app {a : Int} : ∀ (M : List (T 7)) (s : ByteArray), (∀ x ∈ M, ofB a x = true) → elsB a M s = s ++ elsB a M noB
  | [], s, _ => (ByteArray.append_empty (b := s)).symm
  | x :: M, s, h => by
    have hx := h x List.mem_cons_self
    have hM : ∀ y ∈ M, ofB a y = true := fun y hy => h y (List.mem_cons_of_mem _ hy)
    show (if ofB a x = true then elsB a M (s ++ bytesE a x) else noB) = s ++ (if ofB a x = true then elsB a M (noB ++ bytesE a x) else noB)
    rw [if_pos hx, if_pos hx, elsB_app M (s ++ bytesE a x) hM, elsB_app M (noB ++ bytesE a x) hM, ByteArray.append_assoc, show noB ++ bytesE a x = bytesE a x from ByteArray.empty_append]
theorem elsB_cons {a : Int} {x : T 7} {M : List (T 7)} (hx : ofB a x = true) (hM : ∀ y ∈ M, ofB a y = true) : elsB a (x :: M) noB = bytesE a x ++ elsB a M noB := by
  show (if ofB a x = true then elsB a M (noB ++ bytesE a x) else noB) = _
  rw [if_pos hx, elsB_app M _ hM, show noB ++ bytesE a x = bytesE a x from ByteArray.empty_append]
theorem Elems_cmp_l0 (a : Int) (n : Nat) (hn : n ≤ 2147483647) (r : ByteArray) : ∀ (M : List (T 7)) (acc : List S61) (i : Nat), i + M.length = n → acc.length = i → (∀ x ∈ M, ofB a x = true) →
    Ev (fun k => octet_Reader_Elems.l0 k a (n : Int) acc (i : Int) (elsB a M noB ++ r) 0) (acc ++ M.map elS, r, 0)
  | [], acc, i, h, hl, _ => by
    rw [List.length_nil] at h
    rw [show elsB a [] noB ++ r = r from ByteArray.empty_append, List.map_nil, List.append_nil]
    refine Ev.succ ?_
    simp only [octet_Reader_Elems.l0]
    exact Ev.neg (by omega) (Ev.bind (Ev.now _) (Ev.pos rfl (Ev.now _)))
  | x :: M, acc, i, h, hl, hs => by
    rw [List.length_cons] at h
    have hM : ∀ y ∈ M, ofB a y = true := fun y hy => hs y (List.mem_cons_of_mem _ hy)
    have hx := hs x List.mem_cons_self
    rw [elsB_cons hx hM, ByteArray.append_assoc]
    refine Ev.succ ?_
    simp only [octet_Reader_Elems.l0]
    refine Ev.pos (by omega) (Ev.bind (Ev.now _) (Ev.pos rfl (Ev.bind (Elem_cmp hx _) (Ev.pos (by omega) ?_))))
    rw [wrap_succ i (by omega), show acc ++ (x :: M).map elS = (acc ++ [elS x]) ++ M.map elS by rw [List.append_assoc]; rfl]
    exact Elems_cmp_l0 a n hn r M (acc ++ [elS x]) (i + 1) (by omega) (by rw [List.length_append, hl]; rfl) hM
theorem elsB_ok {a : Int} : ∀ (M : List (T 7)) (s : ByteArray), elsB a M s ≠ noB → ∀ x ∈ M, ofB a x = true
  | [], s, _ => fun x hx => absurd hx List.not_mem_nil
  | x :: M, s, h => by
    have e : elsB a (x :: M) s = if ofB a x = true then elsB a M (s ++ bytesE a x) else noB := rfl
    rw [e] at h
    by_cases hx : ofB a x = true
    · rw [if_pos hx] at h
      intro y hy
      rcases List.mem_cons.1 hy with rfl | hy
      · exact hx
      · exact elsB_ok M _ h y hy
    · rw [if_neg hx] at h
      exact absurd rfl h
theorem elemsB_ok {a : Int} {M : List (T 7)} (h : elemsB a M ≠ noB) : wideN a ≠ 0 ∧ ∀ x ∈ M, ofB a x = true := by
  unfold elemsB at h
  by_cases hw : wideN a = 0
  · rw [if_pos hw] at h
    exact absurd rfl h
  · rw [if_neg hw] at h
    exact ⟨hw, elsB_ok M _ h⟩
theorem Elems_cmp {a c : Int} {M : List (T 7)} (h : elemsB a M ≠ noB) (hL : M.length ≤ 2147483647) (hc : (M.length : Int) ≤ c) (r : ByteArray) : Ev (fun k => octet_Reader_Elems.f k (elemsB a M ++ r) 0 a c) (M.map elS, r, 0) := by
  obtain ⟨hw, hall⟩ := elemsB_ok h
  unfold octet_Reader_Elems.f elemsB
  rw [if_neg hw, elsB_app M _ hall, ByteArray.append_assoc]
  exact Ev.bind (Wide_ev a) (Ev.neg (by omega) (Ev.bind (Ev.const (Num_cmp (by omega) (by omega) hc _)) (Elems_cmp_l0 a M.length hL r M [] 0 (by omega) rfl hall)))
end Go.Proofs.Ythgiifakcgjlaaa.Br
