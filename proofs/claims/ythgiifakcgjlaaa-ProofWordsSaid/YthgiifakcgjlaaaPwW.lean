/- Words and columns of words, written and read (layer 29). Conditions: those that each theorem names. -/
import Derived.Test.YthgiifakcgjlaaaPwL
import Derived.Test.YthgiifakcgjlaaaPx10
import Derived.Test.YthgiifakcgjlaaaPx6
import Derived.Test.YthgiifakcgjlaaaPx8
import Derived.Test.YthgiifakcgjlaaaPx9
set_option linter.unusedVariables false
set_option linter.unusedSimpArgs false
namespace Go.Proofs.Ythgiifakcgjlaaa.Br
open Go.RowKit Go.Proofs.YthgiifakcgjlaaaT Go.Proofs.Ythgiifakcgjlaaa.P Go.Proofs.YthgiifakcgjlaaaW.PrintWords Go.Proofs.YthgiifakcgjlaaaW.PrintLast
/-- A word's bytes. -/
def wB (a : Int) : ByteArray := strOfNums (wList a)
def isW (a : Int) : Prop := 0 ≤ a ∧ a < 18446744073709551616
theorem wB_size (a : Int) : (wB a).size = 8 := by
  unfold wB wList
  rw [strOfNums_size, List.length_map, List.length_range]
theorem word_el {a : Int} (h : isW a) : ∃ x : T 7, hiW x = 0 ∧ loW x = a ∧ ofB 6 x = true := by
  obtain ⟨x, hx, hl⟩ := el_of (a := 0) (b := a) (u64_wf.2 ⟨by decide, by decide⟩) (u64_wf.2 h)
  refine ⟨x, hx.symm, hl.symm, ofB_iff.2 ⟨6, rfl, by decide, ?_⟩⟩
  have h0 : enc 6 x.1 = 0 := by
    have t : (0 : Int) = (enc 6 x.1 : Int) := hx
    omega
  show enc 7 x < 2 ^ 2 ^ 6
  rw [enc7, h0, Nat.zero_mul, Nat.zero_add]
  exact enc_lt 6 x.2
theorem bytL_word (x : T 7) : bytL x 8 = (List.range 8).map (wByte (loW x)) := by
  unfold bytL
  refine List.map_congr_left fun j hj => ?_
  have hj8 : j < 8 := List.mem_range.1 hj
  rw [← eByte_by x (show j < 16 by omega), eByte_lo (hiW x) (loW x) hj8]
  rfl
theorem wB_el {x : T 7} (h : ofB 6 x = true) : bytesE 6 x = wB (loW x) := by
  unfold bytesE wB wList
  rw [if_pos h, show wideN 6 = 8 by decide, bytL_word]
theorem el_word (x : T 7) : isW (loW x) := by
  have h := lt64 (Nat.le_refl 6) x.2
  refine ⟨?_, ?_⟩
  · show (0 : Int) ≤ (enc 6 x.2 : Int)
    omega
  · show ((enc 6 x.2 : Nat) : Int) < 18446744073709551616
    omega
theorem refWord_ev {a : Int} (h : isW a) : Ev (fun k => steepleref01_Bytes.f k 6 0 a) (wB a) := by
  obtain ⟨x, h0, h1, h2⟩ := word_el h
  have := refBytes_ev 6 x
  rw [h0, h1, wB_el h2, h1] at this
  exact this
theorem one_snd (b : ByteArray) (e : Int) : ∃ a r e', Ev (fun k => proof_ReadWords_1_1.f k b e) (a, r, e') ∧ (e' = 0 → e = 0 ∧ isW a ∧ b = wB a ++ r) := by
  obtain ⟨x, r, e', h, s⟩ := Elem_snd b e 6
  refine ⟨loW x, r, e', ?_, fun q => ?_⟩
  · unfold proof_ReadWords_1_1.f
    exact Ev.bind h (Ev.now _)
  · obtain ⟨q1, q2, q3⟩ := s q
    exact ⟨q1, el_word x, by rw [q3, wB_el q2]⟩
theorem one_cmp (a : Int) (r : ByteArray) (h : isW a) : Ev (fun k => proof_ReadWords_1_1.f k (wB a ++ r) 0) (a, r, 0) := by
  obtain ⟨x, h0, h1, h2⟩ := word_el h
  have hc := Elem_cmp h2 r
  rw [wB_el h2, h1] at hc
  unfold proof_ReadWords_1_1.f
  exact Ev.bind hc (Ev.now _)
theorem reads46 : Reads proof_ReadWords_1_1.f proof_lists_uint64_46.l0 := ⟨_, by decide, fun _ _ _ _ _ _ => rfl⟩
/-- A column's bytes; all columns' bytes. -/
def colB (l : List Int) : ByteArray := listsB wB l
def isC (l : List Int) : Prop := l.length ≤ 4096 ∧ ∀ a ∈ l, isW a
theorem col_snd (b : ByteArray) (e : Int) : ∃ l r e', Ev (fun k => proof_ReadWords_1.f k b e) (l, r, e') ∧ (e' = 0 → e = 0 ∧ isC l ∧ b = colB l ++ r) := by
  obtain ⟨L, r, e', h, s⟩ := lists_snd reads46 one_snd b e
  refine ⟨L, r, e', ?_, fun q => ?_⟩
  · unfold proof_ReadWords_1.f
    exact Ev.bind (show Ev (fun k => proof_lists_uint64_46.f k b e) (L, r, e') from h) (Ev.now _)
  · obtain ⟨q1, q2, q3, q4⟩ := s q
    exact ⟨q1, ⟨q2, q3⟩, q4⟩
theorem col_cmp (l : List Int) (r : ByteArray) (h : isC l) : Ev (fun k => proof_ReadWords_1.f k (colB l ++ r) 0) (l, r, 0) := by
  have hc := lists_cmp reads46 one_cmp h.1 h.2 r
  unfold proof_ReadWords_1.f
  exact Ev.bind (show Ev (fun k => proof_lists_uint64_46.f k (colB l ++ r) 0) (l, r, 0) from hc) (Ev.now _)
theorem reads44 : Reads proof_ReadWords_1.f proof_lists_uint64_44.l0 := ⟨_, by decide, fun _ _ _ _ _ _ => rfl⟩
def wordsB (L : List (List Int)) : ByteArray := listsB colB L
theorem colB_size (l : List Int) : (colB l).size ≤ 4 + l.length * 8 := by
  have h := foldB_few wB (m := 8) l (numB (l.length : Int)) (fun a _ => Nat.le_of_eq (wB_size a))
  have := numB_le (l.length : Int)
  unfold colB listsB
  omega
theorem wordsB_size {L : List (List Int)} {m : Nat} (h : ∀ l ∈ L, l.length ≤ m) : (wordsB L).size ≤ 4 + L.length * (4 + m * 8) := by
  have h1 := foldB_few colB (m := 4 + m * 8) L (numB (L.length : Int)) (fun l hl => Nat.le_trans (colB_size l) (by have := Nat.mul_le_mul_right 8 (h l hl); omega))
  have := numB_le (L.length : Int)
  unfold wordsB listsB
  omega
/-- The columns of bytes: those whose bytes they are, or none. -/
theorem ReadWords_snd (t : ByteArray) (ht : t.size ≤ 1048576) : ∃ L : List (List Int), ∃ e : Int, Ev (fun k => proof_ReadWords.f k t) (L, e) ∧ ((e = 0 ∧ L.length ≤ 4096 ∧ (∀ l ∈ L, isC l) ∧ t = wordsB L) ∨ (e = 3 ∧ L = [])) := by
  obtain ⟨L, r, e', h, s⟩ := lists_snd reads44 col_snd t 0
  have ha : proof_ask.f t = some 0 := by
    unfold proof_ask.f
    rw [if_neg (by omega)]
  have hl : Ev (fun k => proof_lists_uint64_44.f k t 0) (L, r, e') := h
  by_cases c : e' = 0 ∧ r.size = 0
  · obtain ⟨_, q2, q3, q4⟩ := s c.1
    refine ⟨L, 0, ?_, Or.inl ⟨rfl, q2, q3, ?_⟩⟩
    · unfold proof_ReadWords.f
      refine Ev.bind (Ev.const ha) (Ev.pos rfl (Ev.bind (Ev.const (show octet_Read.f t = some (t, 0) from rfl)) (Ev.bind hl (Ev.bind (Ev.const (End_f r e')) (Ev.pos ?_ (Ev.now _))))))
      show (if e' = 0 then (if (r.size : Int) > 0 then 3 else 0) else e') = (0 : Int)
      rw [if_pos c.1, if_neg (by omega)]
    · have hr : r = noB := ByteArray.ext_getElem c.2 (fun i hi => by omega)
      rw [q4, hr]
      exact ByteArray.append_empty
  · refine ⟨[], 3, ?_, Or.inr ⟨rfl, rfl⟩⟩
    unfold proof_ReadWords.f
    refine Ev.bind (Ev.const ha) (Ev.pos rfl (Ev.bind (Ev.const (show octet_Read.f t = some (t, 0) from rfl)) (Ev.bind hl (Ev.bind (Ev.const (End_f r e')) (Ev.neg ?_ (Ev.now _))))))
    show ¬ (if e' = 0 then (if (r.size : Int) > 0 then 3 else 0) else e') = (0 : Int)
    by_cases c1 : e' = 0
    · rw [if_pos c1, if_pos (by have : ¬ r.size = 0 := fun q => c ⟨c1, q⟩; omega)]
      decide
    · rw [if_neg c1]
      exact c1
theorem ReadWords_cmp {L : List (List Int)} (hL : L.length ≤ 4096) (h : ∀ l ∈ L, isC l) (hz : (wordsB L).size ≤ 1048576) : Ev (fun k => proof_ReadWords.f k (wordsB L)) (L, 0) := by
  have hc := lists_cmp reads44 col_cmp hL h noB
  rw [show listsB colB L ++ noB = wordsB L from ByteArray.append_empty] at hc
  have ha : proof_ask.f (wordsB L) = some 0 := by
    unfold proof_ask.f
    rw [if_neg (by omega)]
  unfold proof_ReadWords.f
  refine Ev.bind (Ev.const ha) (Ev.pos rfl (Ev.bind (Ev.const (show octet_Read.f (wordsB L) = some (wordsB L, 0) from rfl)) (Ev.bind (show Ev (fun k => proof_lists_uint64_44.f k (wordsB L) 0) (L, noB, 0) from hc) (Ev.bind (Ev.const (End_f noB 0)) (Ev.pos rfl (Ev.now _))))))
theorem Words_f {L : List (List Int)} (hL : L.length ≤ 4096) (h : ∀ l ∈ L, l.length ≤ 4096) : proof_Words.f L = some (wordsB L, 0) := by
  have hz := wordsB_size (L := L) (m := 4096) h
  have h1 : (L.any fun t => decide (t.length > 4096)) = false := by
    rw [List.any_eq_false]
    intro l hl
    have := h l hl
    simp only [decide_eq_true_eq]
    omega
  have hm : L.length * (4 + 4096 * 8) ≤ 4096 * (4 + 4096 * 8) := Nat.mul_le_mul_right _ hL
  unfold proof_Words.f
  rw [if_neg (by rw [h1]; simp; omega)]
  have hc : proof_each_col.f L = some (wordsB L) := each_f_eq L (by omega) (fun l hl => ?_) (show (wordsB L).size ≤ _ by omega)
  · rw [hc, Option.bind_some]
  · have hcs := colB_size l
    have hl4 := h l hl
    exact each_f_eq l (by omega) (fun a _ => rfl) (show (colB l).size ≤ _ by omega)
/-! The document's bytes. -/
theorem rdI {L : List Int} {i : Nat} (h : i < L.length) : rd L (i : Int) = L[i] := by
  unfold rd
  rw [Int.toNat_natCast, List.getD_eq_getElem?_getD, List.getElem?_eq_getElem h, Option.getD_some]
theorem rdC {L : List (List Int)} {i : Nat} (h : i < L.length) : rd_L6 L (i : Int) = L[i] := by
  unfold rd_L6
  rw [Int.toNat_natCast, List.getD_eq_getElem?_getD, List.getElem?_eq_getElem h, Option.getD_some]
theorem refWords_l1 (L : List (List Int)) (hL : L.length ≤ 4096) {j : Nat} (hj : j < L.length) (hc : isC L[j]) {r : ByteArray} : ∀ (d i : Nat) (s : ByteArray), i + d = L[j].length → s.size + 8 * d ≤ 140737488355328 →
    Ev (fun k => steepleref29_Words.l0 k L (foldB wB (L[j].drop i) s) ((j + 1 : Nat) : Int)) r → Ev (fun k => steepleref29_Words.l1 k L s (j : Int) (i : Int)) r
  | 0, i, s, h, hz, hr => by
    rw [List.drop_of_length_le (by omega)] at hr
    refine Ev.succ ?_
    simp only [steepleref29_Words.l1]
    rw [rdC hj, wrapS j (by omega)]
    exact Ev.pos (by omega) (Ev.pos (by omega) (Ev.neg (by omega) hr))
  | d + 1, i, s, h, hz, hr => by
    have hi : i < L[j].length := by omega
    have hw := wB_size L[j][i]
    rw [List.drop_eq_getElem_cons hi, foldB_cons] at hr
    have ih := refWords_l1 L hL hj hc d (i + 1) (s ++ wB L[j][i]) (by omega) (by rw [ByteArray.size_append]; omega) hr
    refine Ev.succ ?_
    simp only [steepleref29_Words.l1]
    rw [rdC hj, rdI hi, wrapS i (by have := hc.1; omega)]
    exact Ev.pos (by omega) (Ev.pos (by omega) (Ev.pos (by omega) (Ev.pos (by omega) (Ev.bind (refWord_ev (hc.2 _ (List.getElem_mem hi))) (Ev.pos (by omega) ih)))))
theorem refWords_l0 (L : List (List Int)) (hL : L.length ≤ 4096) (h : ∀ l ∈ L, isC l) : ∀ (d j : Nat) (s : ByteArray), j + d = L.length → s.size + 100000 * d ≤ 140737488355328 → Ev (fun k => steepleref29_Words.l0 k L s (j : Int)) (foldB colB (L.drop j) s)
  | 0, j, s, hj, hz => by
    rw [List.drop_of_length_le (by omega)]
    refine Ev.succ ?_
    simp only [steepleref29_Words.l0]
    exact Ev.neg (by omega) (Ev.now _)
  | d + 1, j, s, hj, hz => by
    have hjl : j < L.length := by omega
    have hc := h _ (List.getElem_mem hjl)
    have hn := numB_le ((L[j].length : Nat) : Int)
    have hcs := colB_size L[j]
    have hc1 := hc.1
    rw [List.drop_eq_getElem_cons hjl, foldB_cons]
    have ih := refWords_l0 L hL h d (j + 1) (s ++ colB L[j]) (by omega) (by rw [ByteArray.size_append]; omega)
    have e : foldB wB (L[j].drop 0) (s ++ numB ((L[j].length : Nat) : Int)) = s ++ colB L[j] := by
      unfold colB listsB
      rw [List.drop_zero, foldB_app, foldB_app wB L[j] (numB _), ByteArray.append_assoc]
    have ih2 : Ev (fun k => steepleref29_Words.l0 k L (foldB wB (L[j].drop 0) (s ++ numB ((L[j].length : Nat) : Int))) ((j + 1 : Nat) : Int)) (foldB colB (L.drop (j + 1)) (s ++ colB L[j])) := by
      rw [e]
      exact ih
    refine Ev.succ ?_
    simp only [steepleref29_Words.l0]
    rw [rdC hjl]
    exact Ev.pos (by omega) (Ev.pos (by omega) (Ev.bind (Ev.const (refNum_f _)) (Ev.pos (by omega) (refWords_l1 L hL hjl hc L[j].length 0 _ (by omega) (by rw [ByteArray.size_append]; omega) ih2))))
theorem refWords_ev {L : List (List Int)} (hL : L.length ≤ 4096) (h : ∀ l ∈ L, isC l) : Ev (fun k => steepleref29_Words.f k L) (wordsB L) := by
  have hn := numB_le ((L.length : Nat) : Int)
  unfold steepleref29_Words.f
  exact Ev.bind (Ev.const (refNum_f _)) (refWords_l0 L hL h L.length 0 _ (by omega) (by omega))
/-! The same columns. -/
theorem columns_l1 (L : List (List Int)) {j : Nat} (hj : j < L.length) (hL : L.length ≤ 4096) (hc : L[j].length ≤ 4096) (hr : Ev (fun k => steeplelaw29_columns.l0 k L L ((j + 1 : Nat) : Int)) true) : ∀ d i : Nat, i + d = L[j].length → Ev (fun k => steeplelaw29_columns.l1 k L L (j : Int) (i : Int)) true
  | 0, i, h => by
    refine Ev.succ ?_
    simp only [steeplelaw29_columns.l1]
    rw [rdC hj, wrapS j (by omega)]
    exact Ev.pos (by omega) (Ev.pos (by omega) (Ev.neg (by omega) hr))
  | d + 1, i, h => by
    have ih := columns_l1 L hj hL hc hr d (i + 1) (by omega)
    refine Ev.succ ?_
    simp only [steeplelaw29_columns.l1]
    rw [rdC hj, wrapS i (by omega)]
    exact Ev.pos (by omega) (Ev.pos (by omega) (Ev.pos (by omega) (Ev.pos (by omega) (Ev.pos (by omega) (Ev.pos (by omega) (Ev.pos (by trivial) ih))))))
theorem columns_l0 (L : List (List Int)) (hL : L.length ≤ 4096) (h : ∀ l ∈ L, l.length ≤ 4096) : ∀ d j : Nat, j + d = L.length → Ev (fun k => steeplelaw29_columns.l0 k L L (j : Int)) true
  | 0, j, hj => by
    refine Ev.succ ?_
    simp only [steeplelaw29_columns.l0]
    exact Ev.neg (by omega) (Ev.now _)
  | d + 1, j, hj => by
    have hjl : j < L.length := by omega
    have hl := columns_l1 L hjl hL (h _ (List.getElem_mem hjl)) (columns_l0 L hL h d (j + 1) (by omega)) L[j].length 0 (by omega)
    refine Ev.succ ?_
    simp only [steeplelaw29_columns.l0]
    exact Ev.pos (by omega) (Ev.pos (by omega) (Ev.pos (by omega) (Ev.pos (by trivial) hl)))
theorem columns_ev {L : List (List Int)} (hL : L.length ≤ 4096) (h : ∀ l ∈ L, l.length ≤ 4096) : Ev (fun k => steeplelaw29_columns.f k L L) true := by
  unfold steeplelaw29_columns.f
  exact Ev.pos rfl (columns_l0 L hL h L.length 0 (by omega))
end Go.Proofs.Ythgiifakcgjlaaa.Br
