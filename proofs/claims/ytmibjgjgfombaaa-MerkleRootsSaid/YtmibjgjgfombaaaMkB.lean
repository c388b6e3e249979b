/- Paths among rows of digests (layer 12). Conditions: those that each theorem names. -/
import Derived.Test.YtmibjgjgfombaaaHRows
import Derived.Test.YtmibjgjgfombaaaMkFew
import Derived.Test.YtmibjgjgfombaaaPx5
import Derived.Test.YtmibjgjgfombaaaPx6
set_option linter.unusedVariables false
set_option linter.unusedSimpArgs false
namespace Go.Proofs.Ytmibjgjgfombaaa.Br
open Go.RowKit Go.Proofs.YtmibjgjgfombaaaX Go.Proofs.Ytmibjgjgfombaaa.P Go.Proofs.YtmibjgjgfombaaaW.PrintWords Go.Proofs.YtmibjgjgfombaaaW.PrintLast
theorem rd_at {L : List (List ByteArray)} {i : Nat} (h : i < L.length) : rd_L1 L (i : Int) = L[i] := by
  unfold rd_L1
  rw [Int.toNat_natCast, List.getD_eq_getElem?_getD, List.getElem?_eq_getElem h, Option.getD_some]
theorem getD_at {L : List ByteArray} {i : Nat} (h : i < L.length) : L.getD i ByteArray.empty = L[i] := by
  rw [List.getD_eq_getElem?_getD, List.getElem?_eq_getElem h, Option.getD_some]
theorem rdOf_getD (L : List ByteArray) (i : Nat) : rdOf ByteArray.empty L (i : Int) = L.getD i ByteArray.empty := by
  unfold rdOf
  rw [Int.toNat_natCast]
/-- The neighbour of a place. -/
def flipN (i : Nat) : Nat := if i % 2 = 0 then i + 1 else i - 1
theorem flip_xor (i : Nat) (hi : i < 8192) : Go.bits .xor .i64 (i : Int) 1 = (flipN i : Int) := by
  have hx : i ^^^ 1 = i / 2 * 2 + (1 - i % 2) := by
    apply Nat.eq_of_testBit_eq
    intro j
    rw [Nat.testBit_xor]
    cases j with
    | zero =>
      rw [Nat.testBit_zero, Nat.testBit_zero, Nat.testBit_zero]
      rcases Nat.mod_two_eq_zero_or_one i with h | h
      · rw [show (i / 2 * 2 + (1 - i % 2)) % 2 = 1 by omega, h]
        decide
      · rw [show (i / 2 * 2 + (1 - i % 2)) % 2 = 0 by omega, h]
        decide
    | succ j =>
      rw [Nat.testBit_succ, Nat.testBit_succ, Nat.testBit_succ, show (i / 2 * 2 + (1 - i % 2)) / 2 = i / 2 by omega, show 1 / 2 = 0 by rfl, Nat.zero_testBit, Bool.xor_false]
  show IntKind.i64.wrap (((BitVec.ofInt 64 (i : Int)) ^^^ (BitVec.ofInt 64 1)).toNat : Int) = _
  rw [BitVec.toNat_xor, bv_of i (by omega), show (BitVec.ofInt 64 1).toNat = 1 by rfl, hx]
  have e : i / 2 * 2 + (1 - i % 2) = flipN i := by unfold flipN; split <;> omega
  have hl : flipN i < 8192 + 1 := by unfold flipN; split <;> omega
  rw [e]
  simp [IntKind.wrap, IntKind.bits, IntKind.signed]
  omega
theorem flip_lt {i h : Nat} (hi : i < 2 ^ (h + 1)) : flipN i < 2 ^ (h + 1) := by
  have : 2 ^ (h + 1) = 2 * 2 ^ h := Nat.pow_succ'
  unfold flipN
  split <;> omega
theorem shl1 : ∀ j : Nat, j < 13 → shl .i64 1 (j : Int) = ((2 ^ j : Nat) : Int) := by decide +kernel
/-- The top of 2^h texts. -/
def topL : Nat → List ByteArray → ByteArray
  | 0, row => row.getD 0 ByteArray.empty
  | h + 1, row => topL h (upL row)
/-- The path of a place among 2^h texts. -/
def pathL : Nat → List ByteArray → Nat → List ByteArray
  | 0, _, _ => []
  | h + 1, row, i => row.getD (flipN i) ByteArray.empty :: pathL h (upL row) (i / 2)
/-- The path of a place in rows. -/
def pathD : List (List ByteArray) → Nat → List ByteArray
  | [], _ => []
  | row :: rows, i => row.getD (flipN i) ByteArray.empty :: pathD rows (i / 2)
theorem pathL_len : ∀ (h : Nat) (row : List ByteArray) (i : Nat), (pathL h row i).length = h
  | 0, _, _ => rfl
  | h + 1, row, i => by rw [pathL, List.length_cons, pathL_len h]
theorem pathD_len : ∀ (rows : List (List ByteArray)) (i : Nat), (pathD rows i).length = rows.length
  | [], _ => rfl
  | row :: rows, i => by rw [pathD, List.length_cons, pathD_len rows, List.length_cons]
theorem rowsL_ne (h : Nat) (row : List ByteArray) : rowsL h row ≠ [] := fun e => by
  have := rowsL_len h row
  rw [e] at this
  cases this
theorem pathD_rows : ∀ (h : Nat) (row : List ByteArray) (i : Nat), pathD ((rowsL h row).take ((rowsL h row).length - 1)) i = pathL h row i
  | 0, row, i => rfl
  | h + 1, row, i => by
    have hr := pathD_rows h (upL row) (i / 2)
    have hl := rowsL_len h (upL row)
    rw [rowsL_len] at hr ⊢
    rw [rowsL, Nat.add_sub_cancel, List.take_succ_cons, pathD, pathL]
    rw [Nat.add_sub_cancel] at hr
    rw [hr]
theorem pathL_32 : ∀ (h : Nat) (row : List ByteArray) (i : Nat), row.length = 2 ^ h → (∀ t ∈ row, t.size = 32) → i < 2 ^ h → ∀ t ∈ pathL h row i, t.size = 32
  | 0, row, i, _, _, _ => fun t ht => by cases ht
  | h + 1, row, i, hl, hz, hi => fun t ht => by
    have e : 2 ^ (h + 1) = 2 * 2 ^ h := Nat.pow_succ'
    rw [pathL, List.mem_cons] at ht
    rcases ht with rfl | ht
    · have hf := flip_lt hi
      rw [getD_at (by rw [hl]; exact hf)]
      exact hz _ (List.getElem_mem _)
    · exact pathL_32 h (upL row) (i / 2) (by rw [upL_len, hl]; omega) (upL_32 row) (by omega) t ht
/-- A shape that halves down to one. -/
def Shape (rows : List (List ByteArray)) : Prop := ∀ k, (h : k < rows.length) → rows[k].length = 2 ^ (rows.length - 1 - k)
theorem rowsL_shape : ∀ (h : Nat) (row : List ByteArray), row.length = 2 ^ h → Shape (rowsL h row)
  | 0, row, hl => fun k hk => by
    have : k = 0 := by
      have : (rowsL 0 row).length = 1 := rfl
      omega
    subst this
    exact hl
  | h + 1, row, hl => fun k hk => by
    have e : 2 ^ (h + 1) = 2 * 2 ^ h := Nat.pow_succ'
    have e2 : (rowsL (h + 1) row).length = h + 2 := rowsL_len (h + 1) row
    have e3 := rowsL_len h (upL row)
    cases k with
    | zero =>
      rw [e2]
      exact hl
    | succ k =>
      have ih := rowsL_shape h (upL row) (by rw [upL_len, hl]; omega) k (by omega)
      have e4 : (rowsL (h + 1) row).length - 1 - (k + 1) = (rowsL h (upL row)).length - 1 - k := by omega
      rw [e4]
      exact ih
theorem half_wrap (n : Nat) (h : n < 2 ^ 60) : wrap64 (Int.tdiv (n : Int) 2) = ((n / 2 : Nat) : Int) := by
  rw [Int.tdiv_eq_ediv_of_nonneg (by omega)]
  unfold wrap64
  omega
theorem Path_l1 (y : List (List ByteArray)) (hy : y.length ≤ 12) (hs : ∀ k, (h : k < y.length) → y[k].length = 2 ^ (y.length - k)) :
    ∀ d j x : Nat, ∀ acc : List ByteArray, j + d = y.length → x < 2 ^ d → acc.length ≤ j → Ev (fun k => merkle_Path.l1 k (x : Int) acc y (y.length : Int) (j : Int)) (acc ++ pathD (y.drop j) x, 0)
  | 0, j, x, acc, hj, hx, ha => by
    refine Ev.succ ?_
    simp only [merkle_Path.l1]
    refine Ev.neg (by omega) ?_
    rw [List.drop_of_length_le (by omega)]
    show Ev _ (acc ++ [], 0)
    rw [List.append_nil]
    exact Ev.now _
  | d + 1, j, x, acc, hj, hx, ha => by
    have hjl : j < y.length := by omega
    have hr := hs j hjl
    rw [show y.length - j = d + 1 by omega] at hr
    have hf := flip_lt hx
    have h2 : 2 ^ (d + 1) ≤ 2 ^ 12 := Nat.pow_le_pow_right (by decide) (by omega)
    have e2 : 2 ^ (d + 1) = 2 * 2 ^ d := Nat.pow_succ'
    have ih := Path_l1 y hy hs d (j + 1) (x / 2) (acc ++ [y[j].getD (flipN x) ByteArray.empty]) (by omega) (by omega) (by rw [List.length_append, List.length_singleton]; omega)
    refine Ev.succ ?_
    simp only [merkle_Path.l1]
    rw [rd_at hjl, flip_xor x (by omega), rdOf_getD, half_wrap x (by omega), wrap_succ j (by omega)]
    rw [List.drop_eq_getElem_cons hjl, pathD]
    rw [List.append_assoc] at ih
    exact Ev.pos (by omega) (Ev.pos (by omega) (Ev.pos (by omega) (Ev.pos (by omega) (Ev.pos (by omega) (Ev.pos (by omega) ih)))))
theorem path_w {n j : Nat} (hn : n < 1000) (hj : j < n) : wrap64 ((wrap64 ((n : Int) - 1)) - (j : Int)) = ((n - 1 - j : Nat) : Int) := by
  unfold wrap64
  omega
theorem Path_l0_ok (rows : List (List ByteArray)) (i : Nat) (h0 : 0 < rows.length) (hn : rows.length ≤ 13) (hs : Shape rows) (hi : i < 2 ^ (rows.length - 1)) :
    ∀ d j : Nat, j + d = rows.length → Ev (fun k => merkle_Path.l0 k rows (i : Int) rows (rows.length : Int) (j : Int)) (pathD (rows.take (rows.length - 1)) i, 0)
  | 0, j, hj => by
    have e1 : wrap64 ((rows.length : Int) - 1) = ((rows.length - 1 : Nat) : Int) := by unfold wrap64; omega
    have hl : (rows.take (rows.length - 1)).length = rows.length - 1 := by rw [List.length_take]; omega
    have h := Path_l1 (rows.take (rows.length - 1)) (by omega) (fun k hk => by
      rw [List.getElem_take, hs k (by omega), hl]) (rows.length - 1) 0 i [] (by omega) hi (Nat.le_refl _)
    rw [List.drop_zero, List.nil_append] at h
    refine Ev.succ ?_
    simp only [merkle_Path.l0]
    rw [e1, Int.toNat_natCast]
    exact Ev.neg (by omega) (Ev.pos (by omega) (Ev.pos (by omega) h))
  | d + 1, j, hj => by
    have hjl : j < rows.length := by omega
    have ih := Path_l0_ok rows i h0 hn hs hi d (j + 1) (by omega)
    refine Ev.succ ?_
    simp only [merkle_Path.l0]
    rw [rd_at hjl, path_w (by omega) hjl, shl1 _ (by omega), hs j hjl, wrap_succ j (by omega)]
    exact Ev.pos (by omega) (Ev.pos (by omega) (Ev.pos (by omega) (Ev.pos (by omega) (Ev.pos rfl ih))))
theorem Path_l0_bad (rows : List (List ByteArray)) (i : Int) (hn : rows.length ≤ 13) (m : Nat) (hm : m < rows.length) (hb : rows[m].length ≠ 2 ^ (rows.length - 1 - m)) :
    ∀ d j : Nat, j + d = m → Ev (fun k => merkle_Path.l0 k rows i rows (rows.length : Int) (j : Int)) ([], 6)
  | 0, j, hj => by
    obtain rfl : j = m := by omega
    refine Ev.succ ?_
    simp only [merkle_Path.l0]
    rw [rd_at hm, path_w (by omega) hm, shl1 _ (by omega)]
    exact Ev.pos (by omega) (Ev.pos (by omega) (Ev.pos (by omega) (Ev.pos (by omega) (Ev.neg (by omega) (Ev.now _)))))
  | d + 1, j, hj => by
    have hjl : j < rows.length := by omega
    have ih := Path_l0_bad rows i hn m hm hb d (j + 1) (by omega)
    refine Ev.succ ?_
    simp only [merkle_Path.l0]
    rw [rd_at hjl, path_w (by omega) hjl, shl1 _ (by omega), wrap_succ j (by omega)]
    by_cases c : rows[j].length = 2 ^ (rows.length - 1 - j)
    · exact Ev.pos (by omega) (Ev.pos (by omega) (Ev.pos (by omega) (Ev.pos (by omega) (Ev.pos (by omega) ih))))
    · exact Ev.pos (by omega) (Ev.pos (by omega) (Ev.pos (by omega) (Ev.pos (by omega) (Ev.neg (by omega) (Ev.now _)))))
theorem Path_none (rows : List (List ByteArray)) (i : Int) (h : rows.length = 0 ∨ i < 0 ∨ i ≥ ((rd_L1 rows 0).length : Int)) : Ev (fun k => merkle_Path.f k rows i) ([], 4) := by
  have hj : Ev (fun k => merkle_Path.j0 k rows i true) ([], 4) := by
    refine Ev.succ ?_
    simp only [merkle_Path.j0]
    exact Ev.pos trivial (Ev.now _)
  unfold merkle_Path.f
  by_cases c1 : rows.length = 0
  · exact Ev.pos (by omega) hj
  · refine Ev.neg (by omega) ?_
    by_cases c2 : i < 0
    · exact Ev.pos c2 hj
    · refine Ev.neg c2 (Ev.pos (by omega) ?_)
      have c3 : i ≥ ((rd_L1 rows 0).length : Int) := by omega
      rw [decide_eq_true c3]
      exact hj
theorem Path_some (rows : List (List ByteArray)) (i : Nat) {r : List ByteArray × Int} (h0 : 0 < rows.length) (hi : i < (rd_L1 rows 0).length) (h : Ev (fun k => merkle_Path.l0 k rows (i : Int) rows (rows.length : Int) ((0 : Nat) : Int)) r) : Ev (fun k => merkle_Path.f k rows (i : Int)) r := by
  unfold merkle_Path.f
  refine Ev.neg (by omega) (Ev.neg (by omega) (Ev.pos (by omega) ?_))
  rw [decide_eq_false (show ¬ (i : Int) ≥ ((rd_L1 rows 0).length : Int) by omega)]
  refine Ev.succ ?_
  simp only [merkle_Path.j0]
  exact Ev.neg (by decide) h
theorem Path_ok (rows : List (List ByteArray)) (i : Nat) (h0 : 0 < rows.length) (hn : rows.length ≤ 13) (hs : Shape rows) (hi : i < 2 ^ (rows.length - 1)) : Ev (fun k => merkle_Path.f k rows (i : Int)) (pathD (rows.take (rows.length - 1)) i, 0) :=
  Path_some rows i h0 (by have := rd_at h0; rw [show ((0 : Nat) : Int) = 0 from rfl] at this; rw [this, hs 0 h0]; exact hi) (Path_l0_ok rows i h0 hn hs hi rows.length 0 (by omega))
theorem Path_bad (rows : List (List ByteArray)) (i : Nat) (h0 : 0 < rows.length) (hn : rows.length ≤ 13) (hi : i < (rd_L1 rows 0).length) (m : Nat) (hm : m < rows.length) (hb : rows[m].length ≠ 2 ^ (rows.length - 1 - m)) : Ev (fun k => merkle_Path.f k rows (i : Int)) ([], 6) :=
  Path_some rows i h0 hi (Path_l0_bad rows (i : Int) hn m hm hb m 0 (by omega))
/-! Tops. -/
theorem rowsL_last : ∀ (h : Nat) (row : List ByteArray), row.length = 2 ^ h → (rowsL h row).getD h [] = [topL h row]
  | 0, row, hl => by
    match row, hl with
    | [t], _ => rfl
  | h + 1, row, hl => by
    have e : 2 ^ (h + 1) = 2 * 2 ^ h := Nat.pow_succ'
    have ih := rowsL_last h (upL row) (by rw [upL_len, hl]; omega)
    rw [rowsL, topL, ← ih]
    rfl
theorem Root_ok (k : Int) (l : List ByteArray) (h : Nat) (row : List ByteArray) (hl : row.length = 2 ^ h) (hh : h ≤ 12) (hr : merkle_Rows.f k l = some (rowsL h row, 0)) : merkle_Root.f k l = some (topL h row, 0) := by
  have e1 : wrap64 (((rowsL h row).length : Int) - 1) = (h : Int) := by rw [rowsL_len]; unfold wrap64; omega
  have e2 : rd_L1 (rowsL h row) (h : Int) = [topL h row] := by
    unfold rd_L1
    rw [Int.toNat_natCast]
    exact rowsL_last h row hl
  unfold merkle_Root.f
  rw [hr, Option.bind_some]
  simp only [e1, e2]
  rw [if_pos trivial, if_pos (by omega), if_pos (by rw [rowsL_len]; omega), if_pos (by rw [List.length_singleton]; omega)]
  rfl
theorem topL_32 : ∀ (h : Nat) (row : List ByteArray), row.length = 2 ^ h → (∀ t ∈ row, t.size = 32) → (topL h row).size = 32
  | 0, row, hl, hz => by
    match row, hl, hz with
    | [t], _, hz => exact hz t (List.mem_singleton.2 rfl)
  | h + 1, row, hl, hz => by
    have e : 2 ^ (h + 1) = 2 * 2 ^ h := Nat.pow_succ'
    exact topL_32 h (upL row) (by rw [upL_len, hl]; omega) (upL_32 row)
theorem upL_get (row : List ByteArray) (i : Nat) (h : i < (upL row).length) : (upL row)[i] = upAt row i := by
  have h2 : (upL row)[i]? = some (upAt row i) := by
    unfold upL
    rw [List.getElem?_map, List.getElem?_range (by rw [upL_len] at h; exact h)]
    rfl
  rw [List.getElem?_eq_getElem h] at h2
  exact Option.some.inj h2
theorem pow_le12 {n : Nat} (h : n ≤ 12) : 2 ^ n ≤ 4096 := Nat.pow_le_pow_right (by decide) h
/-! Heights. -/
def heightI (n : Nat) : Int := match heightN n with | none => -1 | some h => h
theorem Height_l0 (n : Nat) : ∀ d j : Nat, j + d = 13 → Ev (fun k => steepleref12_Height.l0 k (n : Int) ((2 ^ j : Nat) : Int) (j : Int)) (match ((List.range' j d).find? fun h => n == 2 ^ h) with | none => -1 | some h => (h : Int))
  | 0, j, hj => by
    refine Ev.succ ?_
    simp only [steepleref12_Height.l0]
    exact Ev.neg (by omega) (Ev.now _)
  | d + 1, j, hj => by
    have h12 := pow_le12 (n := j) (by omega)
    have e : 2 ^ (j + 1) = 2 * 2 ^ j := Nat.pow_succ'
    have ih := Height_l0 n d (j + 1) (by omega)
    have e1 : wrap64 (2 * ((2 ^ j : Nat) : Int)) = ((2 ^ (j + 1) : Nat) : Int) := by unfold wrap64; omega
    refine Ev.succ ?_
    simp only [steepleref12_Height.l0]
    rw [e1, wrap_succ j (by omega), List.range'_succ]
    by_cases c : n = 2 ^ j
    · rw [List.find?_cons_of_pos (by simp [c])]
      exact Ev.pos (by omega) (Ev.pos (by omega) (Ev.now _))
    · rw [List.find?_cons_of_neg (by simp [c])]
      exact Ev.pos (by omega) (Ev.neg (by omega) ih)
theorem Height_ev (n : Nat) : Ev (fun k => steepleref12_Height.f k (n : Int)) (heightI n) := by
  have h := Height_l0 n 13 0 rfl
  unfold steepleref12_Height.f heightI heightN
  rw [List.range_eq_range']
  exact h
theorem rows_f (t : Int) (l : List ByteArray) {h : Nat} (hn : heightN l.length = some h) (hz : ∀ s ∈ l, s.size ≤ 1000000) : merkle_Rows.f t l = some (rowsL h (l.map leafS), 0) := by
  unfold merkle_Rows.f
  rw [hn]
  have e : (l.all fun t => decide (t.size ≤ 1000000)) = true := List.all_eq_true.2 fun s hs => decide_eq_true (hz s hs)
  simp only [if_pos e]
theorem leafs_32 (l : List ByteArray) : ∀ t ∈ l.map leafS, t.size = 32 := by
  intro t ht
  obtain ⟨s, _, rfl⟩ := List.mem_map.1 ht
  exact leafS_size s
theorem leafs_get (l : List ByteArray) {i : Nat} (h : i < l.length) : (l.map leafS).getD i ByteArray.empty = leafS l[i] := by
  rw [getD_at (by rw [List.length_map]; exact h), List.getElem_map]
theorem place_eq {n : Nat} (h0 : 0 < n) (hn : n ≤ 4096) {a : Int} (ha : (Lit.int .i64 a).wf = true) : ∃ i : Nat, i < n ∧ Int.tmod (wrap64 (Int.tmod a (n : Int) + (n : Int))) (n : Int) = (i : Int) := by
  have h1 := Int.tmod_lt_of_pos a (show (0 : Int) < (n : Int) by omega)
  have h2 : -(n : Int) < Int.tmod a (n : Int) := by
    have h3 := Int.tmod_lt_of_pos (-a) (show (0 : Int) < (n : Int) by omega)
    rw [Int.neg_tmod] at h3
    omega
  obtain ⟨x, hx⟩ : ∃ x, x = Int.tmod a (n : Int) := ⟨_, rfl⟩
  rw [← hx] at h1 h2 ⊢
  have e : wrap64 (x + (n : Int)) = x + (n : Int) := by unfold wrap64; omega
  rw [e]
  obtain ⟨y, hy⟩ : ∃ y : Nat, x + (n : Int) = (y : Int) := ⟨(x + (n : Int)).toNat, by omega⟩
  refine ⟨y % n, Nat.mod_lt _ h0, ?_⟩
  rw [hy, Int.tmod_eq_emod_of_nonneg (by omega)]
  rfl
end Go.Proofs.Ytmibjgjgfombaaa.Br
