/- The document's roots and paths are the code's (layer 12). Conditions: those that each theorem names. -/
import Derived.Test.YtmibjgjgfombaaaMkB
import Derived.Test.YtmibjgjgfombaaaMkRL
import Derived.Test.YtmibjgjgfombaaaPx13
import Derived.Test.YtmibjgjgfombaaaPx14
set_option linter.unusedVariables false
set_option linter.unusedSimpArgs false
namespace Go.Proofs.Ytmibjgjgfombaaa.Br
open Go.RowKit Go.Proofs.YtmibjgjgfombaaaT Go.Proofs.YtmibjgjgfombaaaX Go.Proofs.Ytmibjgjgfombaaa.P Go.Proofs.YtmibjgjgfombaaaW.PrintWords Go.Proofs.YtmibjgjgfombaaaW.PrintLast
theorem node_size2 (a b : ByteArray) : (((⟨#[1]⟩ : ByteArray) ++ a) ++ b).size = 1 + a.size + b.size := by
  rw [ByteArray.size_append, ByteArray.size_append]
  rfl
theorem refNode_ev (a b : ByteArray) (ha : a.size = 32) (hb : b.size = 32) : Ev (fun k => steepleref12_Node.f k bl tl a b) (nodeS a b) := by
  have e1 : ((⟨#[1]⟩ : ByteArray) ++ a).size = 1 + a.size := ByteArray.size_append
  have e2 := node_size2 a b
  unfold steepleref12_Node.f
  exact Ev.pos (by omega) (Ev.pos (by omega) (Ev.bind (Sum_ev _ (by omega)) (Ev.now _)))
/-! Halves. -/
theorem getD_l (a b : List ByteArray) {i : Nat} (h : i < a.length) : (a ++ b).getD i ByteArray.empty = a.getD i ByteArray.empty := by
  rw [List.getD_eq_getElem?_getD, List.getElem?_append_left h, ← List.getD_eq_getElem?_getD]
theorem getD_r (a b : List ByteArray) {i : Nat} (h : a.length ≤ i) : (a ++ b).getD i ByteArray.empty = b.getD (i - a.length) ByteArray.empty := by
  rw [List.getD_eq_getElem?_getD, List.getElem?_append_right h, ← List.getD_eq_getElem?_getD]
theorem upL_two (x y : ByteArray) : upL [x, y] = [nodeS x y] := by
  unfold upL
  rw [show [x, y].length / 2 = 1 by simp, show List.range 1 = [0] from rfl]
  rfl
theorem upAt_l (a b : List ByteArray) {i : Nat} (h : 2 * i + 1 < a.length) : upAt (a ++ b) i = upAt a i := by
  unfold upAt
  rw [getD_l _ _ (by omega), getD_l _ _ h]
theorem upAt_r (a b : List ByteArray) {i m : Nat} (hm : a.length = 2 * m) (h : m ≤ i) : upAt (a ++ b) i = upAt b (i - m) := by
  unfold upAt
  rw [getD_r _ _ (by omega), getD_r _ _ (by omega), hm, show 2 * i - 2 * m = 2 * (i - m) by omega, show 2 * i + 1 - 2 * m = 2 * (i - m) + 1 by omega]
theorem upL_append (a b : List ByteArray) {m : Nat} (hm : a.length = 2 * m) : upL (a ++ b) = upL a ++ upL b := by
  have l0 := upL_len (a ++ b)
  have l1 := upL_len a
  have l2 := upL_len b
  have lab : (a ++ b).length = a.length + b.length := List.length_append
  apply List.ext_getElem
  · rw [List.length_append]
    omega
  · intro i h1 h2
    rw [upL_get]
    by_cases c : i < m
    · rw [List.getElem_append_left (by omega), upL_get, upAt_l a b (by omega)]
    · rw [List.getElem_append_right (by omega), upL_get, upAt_r a b hm (by omega)]
      congr 1
      omega
theorem topL_append : ∀ (h : Nat) (a b : List ByteArray), a.length = 2 ^ h → b.length = 2 ^ h → topL (h + 1) (a ++ b) = nodeS (topL h a) (topL h b)
  | 0, a, b, ha, hb => by
    match a, ha, b, hb with
    | [x], _, [y], _ =>
      show (upL [x, y]).getD 0 ByteArray.empty = nodeS x y
      rw [upL_two]
      rfl
  | h + 1, a, b, ha, hb => by
    have e : 2 ^ (h + 1) = 2 * 2 ^ h := Nat.pow_succ'
    have ih := topL_append h (upL a) (upL b) (by rw [upL_len]; omega) (by rw [upL_len]; omega)
    rw [topL, upL_append a b (m := 2 ^ h) (by omega), ih]
    rfl
theorem pathL_left : ∀ (h : Nat) (a b : List ByteArray) (i : Nat), a.length = 2 ^ h → b.length = 2 ^ h → i < 2 ^ h → pathL (h + 1) (a ++ b) i = pathL h a i ++ [topL h b]
  | 0, a, b, i, ha, hb, hi => by
    obtain rfl : i = 0 := by
      have : 2 ^ 0 = 1 := rfl
      omega
    match a, ha, b, hb with
    | [x], _, [y], _ => rfl
  | h + 1, a, b, i, ha, hb, hi => by
    have e : 2 ^ (h + 1) = 2 * 2 ^ h := Nat.pow_succ'
    have hf := flip_lt hi
    have ih := pathL_left h (upL a) (upL b) (i / 2) (by rw [upL_len]; omega) (by rw [upL_len]; omega) (by omega)
    rw [pathL, upL_append a b (m := 2 ^ h) (by omega), ih, getD_l _ _ (by omega)]
    rfl
theorem flip_add {i m : Nat} : flipN (2 * m + i) = 2 * m + flipN i := by
  unfold flipN
  by_cases c : i % 2 = 0
  · rw [if_pos c, if_pos (by omega)]
    omega
  · rw [if_neg c, if_neg (by omega)]
    omega
theorem pathL_right : ∀ (h : Nat) (a b : List ByteArray) (i : Nat), a.length = 2 ^ h → b.length = 2 ^ h → i < 2 ^ h → pathL (h + 1) (a ++ b) (2 ^ h + i) = pathL h b i ++ [topL h a]
  | 0, a, b, i, ha, hb, hi => by
    obtain rfl : i = 0 := by
      have : 2 ^ 0 = 1 := rfl
      omega
    match a, ha, b, hb with
    | [x], _, [y], _ => rfl
  | h + 1, a, b, i, ha, hb, hi => by
    have e : 2 ^ (h + 1) = 2 * 2 ^ h := Nat.pow_succ'
    have ih := pathL_right h (upL a) (upL b) (i / 2) (by rw [upL_len]; omega) (by rw [upL_len]; omega) (by omega)
    have e2 : (2 ^ (h + 1) + i) / 2 = 2 ^ h + i / 2 := by omega
    have e3 : flipN (2 ^ (h + 1) + i) = a.length + flipN i := by rw [e, flip_add, ha, e]
    have e4 : a.length + flipN i - a.length = flipN i := by omega
    rw [pathL, upL_append a b (m := 2 ^ h) (by omega), e2, ih, e3, getD_r _ _ (Nat.le_add_right _ _), e4]
    rfl
theorem half_len (n : Nat) (h : n < 2 ^ 60) : wrap64 ((n : Int) / 2) = ((n / 2 : Nat) : Int) := by
  unfold wrap64
  omega
theorem take_len {l : List ByteArray} {h : Nat} (hl : l.length = 2 ^ (h + 1)) : (l.take (2 ^ h)).length = 2 ^ h ∧ (l.drop (2 ^ h)).length = 2 ^ h := by
  have e : 2 ^ (h + 1) = 2 * 2 ^ h := Nat.pow_succ'
  rw [List.length_take, List.length_drop]
  omega
theorem map_halves (l : List ByteArray) (n : Nat) : l.map leafS = (l.take n).map leafS ++ (l.drop n).map leafS := by rw [← List.map_append, List.take_append_drop]
theorem refRoot_ev : ∀ (h : Nat) (l : List ByteArray), l.length = 2 ^ h → h ≤ 12 → (∀ t ∈ l, t.size ≤ 1000000) → Ev (fun k => steepleref12_Root.f k bl tl l) (topL h (l.map leafS))
  | 0, l, hl, hh, hz => by
    match l, hl, hz with
    | [t], _, hz =>
      refine Ev.succ ?_
      simp only [steepleref12_Root.f]
      refine Ev.pos rfl (Ev.pos (by rw [List.length_singleton]; omega) (Ev.bind (refLeaf_ev _ ?_) (Ev.now _)))
      exact hz t (List.mem_singleton.2 rfl)
  | h + 1, l, hl, hh, hz => by
    have h12 := pow_le12 hh
    have e : 2 ^ (h + 1) = 2 * 2 ^ h := Nat.pow_succ'
    have hp := Nat.two_pow_pos h
    obtain ⟨ht, hd⟩ := take_len hl
    have i1 := refRoot_ev h (l.take (2 ^ h)) ht (by omega) (fun t m => hz t (List.mem_of_mem_take m))
    have i2 := refRoot_ev h (l.drop (2 ^ h)) hd (by omega) (fun t m => hz t (List.mem_of_mem_drop m))
    have e2 : l.length / 2 = 2 ^ h := by omega
    rw [map_halves l (2 ^ h), topL_append h _ _ (by rw [List.length_map, ht]) (by rw [List.length_map, hd])]
    refine Ev.succ ?_
    simp only [steepleref12_Root.f]
    rw [half_len _ (by omega), e2, Int.toNat_natCast]
    refine Ev.neg (by omega) (Ev.pos (by omega) (Ev.pos (by omega) (Ev.bind i1 (Ev.bind i2 (Ev.bind (refNode_ev _ _ ?_ ?_) (Ev.now _))))))
    · exact topL_32 h _ (by rw [List.length_map, ht]) (leafs_32 _)
    · exact topL_32 h _ (by rw [List.length_map, hd]) (leafs_32 _)
theorem refPath_ev : ∀ (h : Nat) (l : List ByteArray) (i : Nat), l.length = 2 ^ h → h ≤ 12 → i < 2 ^ h → (∀ t ∈ l, t.size ≤ 1000000) → Ev (fun k => steepleref12_Path.f k bl tl l (i : Int)) (pathL h (l.map leafS) i)
  | 0, l, i, hl, hh, hi, hz => by
    have hl1 : l.length = 1 := hl
    refine Ev.succ ?_
    simp only [steepleref12_Path.f]
    exact Ev.pos (by omega) (Ev.now _)
  | h + 1, l, i, hl, hh, hi, hz => by
    have h12 := pow_le12 hh
    have e : 2 ^ (h + 1) = 2 * 2 ^ h := Nat.pow_succ'
    have hp := Nat.two_pow_pos h
    obtain ⟨ht, hd⟩ := take_len hl
    have z1 := fun t (m : t ∈ l.take (2 ^ h)) => hz t (List.mem_of_mem_take m)
    have z2 := fun t (m : t ∈ l.drop (2 ^ h)) => hz t (List.mem_of_mem_drop m)
    have r1 := refRoot_ev h (l.take (2 ^ h)) ht (by omega) z1
    have r2 := refRoot_ev h (l.drop (2 ^ h)) hd (by omega) z2
    have m1 : ((l.take (2 ^ h)).map leafS).length = 2 ^ h := by rw [List.length_map, ht]
    have m2 : ((l.drop (2 ^ h)).map leafS).length = 2 ^ h := by rw [List.length_map, hd]
    have e2 : l.length / 2 = 2 ^ h := by omega
    rw [map_halves l (2 ^ h)]
    refine Ev.succ ?_
    simp only [steepleref12_Path.f]
    rw [half_len _ (by omega), e2, Int.toNat_natCast]
    refine Ev.neg (by omega) ?_
    by_cases c : i < 2 ^ h
    · rw [pathL_left h _ _ i m1 m2 c]
      exact Ev.pos (by omega) (Ev.pos (by omega) (Ev.pos (by omega) (Ev.bind (refPath_ev h _ i ht (by omega) c z1) (Ev.bind r2 (Ev.pos (by rw [pathL_len]; omega) (Ev.now _))))))
    · obtain ⟨j, rfl⟩ : ∃ j, i = 2 ^ h + j := ⟨i - 2 ^ h, by omega⟩
      have e3 : wrap64 (((2 ^ h + j : Nat) : Int) - ((2 ^ h : Nat) : Int)) = (j : Int) := by unfold wrap64; omega
      rw [pathL_right h _ _ j m1 m2 (by omega), e3]
      exact Ev.neg (by omega) (Ev.pos (by omega) (Ev.pos (by omega) (Ev.bind (refPath_ev h _ j hd (by omega) (by omega) z2) (Ev.bind r1 (Ev.pos (by rw [pathL_len]; omega) (Ev.now _))))))
end Go.Proofs.Ytmibjgjgfombaaa.Br
