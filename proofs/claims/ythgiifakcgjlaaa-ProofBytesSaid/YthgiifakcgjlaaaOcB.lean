/- The bytes of numbers, texts and lists of texts: what octet and the reference come to. Conditions: those that each theorem names. -/
import Derived.Test.YthgiifakcgjlaaaBrBits
import Derived.Test.YthgiifakcgjlaaaHList
import Derived.Laws.Strings
import Derived.Lib.Bytes
import Derived.Test.YthgiifakcgjlaaaPx12
import Derived.Test.YthgiifakcgjlaaaPx14
import Derived.Test.YthgiifakcgjlaaaPx15
import Derived.Test.YthgiifakcgjlaaaPx4
set_option linter.unusedVariables false
set_option linter.unusedSimpArgs false
namespace Go.Proofs.Ythgiifakcgjlaaa.Br
open Go.RowKit Go.Proofs.YthgiifakcgjlaaaT Go.Proofs.Ythgiifakcgjlaaa.P Go.Proofs.YthgiifakcgjlaaaW.PrintWords Go.Proofs.YthgiifakcgjlaaaW.PrintLast
def noB : ByteArray := ⟨#[]⟩
def numB (a : Int) : ByteArray := if a < 0 then noB else if a > 2147483647 then noB else strOfNums [a / 16777216 % 256, a / 65536 % 256, a / 256 % 256, a % 256]
theorem Num_f (a : Int) : octet_Num.f a = some (numB a) := by
  unfold octet_Num.f octet_join.f numB
  split
  · rfl
  · split
    · rfl
    · rfl
theorem refNum_f (a : Int) : steepleref01_Num.f a = some (numB a) := by
  unfold steepleref01_Num.f numB
  by_cases h0 : a < 0
  · rw [if_pos h0, if_pos h0]
    rfl
  · rw [if_neg h0, if_neg h0]
    by_cases h1 : a > 2147483647
    · rw [if_pos h1, if_pos h1]
      rfl
    · rw [if_neg h1, if_neg h1]
      have t1 : ∀ m : Int, Int.tdiv a m = a / m := fun m => Int.tdiv_eq_ediv_of_nonneg (by omega)
      have t2 : ∀ b : Int, 0 ≤ b → Int.tmod b 256 = b % 256 := fun b hb => Int.tmod_eq_emod_of_nonneg hb
      have w1 : wrap64 (a / 16777216) = a / 16777216 := by unfold wrap64; omega
      have w2 : wrap64 (a / 65536) = a / 65536 := by unfold wrap64; omega
      have w3 : wrap64 (a / 256) = a / 256 := by unfold wrap64; omega
      rw [t1, t1, t1, w1, w2, w3, t2 _ (by omega), t2 _ (by omega), t2 _ (by omega), Int.emod_emod_of_dvd _ (Int.dvd_refl 256), Int.emod_emod_of_dvd _ (Int.dvd_refl 256), Int.emod_emod_of_dvd _ (Int.dvd_refl 256)]
theorem numB_le (a : Int) : (numB a).size ≤ 4 := by
  unfold numB
  split
  · decide
  · split
    · decide
    · rw [strOfNums_size]
      exact Nat.le_refl 4
theorem numB_size {a : Int} (h0 : 0 ≤ a) (h1 : a ≤ 2147483647) : (numB a).size = 4 := by
  unfold numB
  rw [if_neg (by omega), if_neg (by omega), strOfNums_size]
  rfl
def textB (s : ByteArray) : ByteArray := numB (s.size : Int) ++ s
theorem textB_size (s : ByteArray) : (textB s).size = (numB (s.size : Int)).size + s.size := ByteArray.size_append
theorem Text_f {s : ByteArray} (h : s.size ≤ 1152921504606846976) : octet_Text.f s = some (textB s) := by
  have := numB_le (s.size : Int)
  unfold octet_Text.f
  rw [Num_f, Option.bind_some, if_pos (by omega)]
  rfl
theorem refText_f {s : ByteArray} (h : s.size ≤ 1152921504606846976) : steepleref01_Text.f s = some (textB s) := by
  have := numB_le (s.size : Int)
  unfold steepleref01_Text.f
  rw [refNum_f, Option.bind_some, if_pos (by omega)]
  rfl
/-! Lists of texts. -/
def lstB (L : List ByteArray) (s : ByteArray) : ByteArray := L.foldl (fun s t => s ++ textB t) s
theorem lstB_nil (s : ByteArray) : lstB [] s = s := rfl
theorem lstB_cons (t : ByteArray) (L : List ByteArray) (s : ByteArray) : lstB (t :: L) s = lstB L (s ++ textB t) := rfl
theorem lstB_size : ∀ (L : List ByteArray) (s : ByteArray), s.size ≤ (lstB L s).size
  | [], s => Nat.le_refl _
  | t :: L, s => by
    rw [lstB_cons]
    have := lstB_size L (s ++ textB t)
    rw [ByteArray.size_append] at this
    omega
theorem lstB_app : ∀ (L : List ByteArray) (s : ByteArray), lstB L s = s ++ lstB L noB
  | [], s => (ByteArray.append_empty (b := s)).symm
  | t :: L, s => by
    rw [lstB_cons, lstB_cons, lstB_app L (s ++ textB t), lstB_app L (noB ++ textB t), ByteArray.append_assoc, show noB ++ textB t = textB t from ByteArray.empty_append]
def listB (L : List ByteArray) : ByteArray := lstB L (numB (L.length : Int))
theorem rdOf_at {L : List ByteArray} {i : Nat} (h : i < L.length) : rdOf ByteArray.empty L (i : Int) = L[i] := by
  unfold rdOf
  rw [Int.toNat_natCast, List.getD_eq_getElem?_getD, List.getElem?_eq_getElem h, Option.getD_some]
theorem lstB_drop {L : List ByteArray} {i : Nat} (h : i < L.length) (s : ByteArray) : lstB (L.drop i) s = lstB (L.drop (i + 1)) (s ++ textB L[i]) := by
  rw [List.drop_eq_getElem_cons h, lstB_cons]
theorem List_l0 (L : List ByteArray) (hL : L.length < 2 ^ 40) : ∀ (d i : Nat) (s : ByteArray), i + d = L.length → (lstB (L.drop i) s).size ≤ 140737488355328 → Ev (fun k => octet_List.l0 k L s (i : Int)) (lstB (L.drop i) s)
  | 0, i, s, h, _ => by
    refine Ev.succ ?_
    simp only [octet_List.l0]
    refine Ev.neg (by omega) ?_
    rw [List.drop_of_length_le (by omega), lstB_nil]
    exact Ev.now _
  | d + 1, i, s, h, hz => by
    have hi : i < L.length := by omega
    have hs := lstB_size (L.drop (i + 1)) (s ++ textB L[i])
    rw [← lstB_drop hi, ByteArray.size_append, textB_size] at hs
    refine Ev.succ ?_
    simp only [octet_List.l0]
    refine Ev.pos (by omega) (Ev.pos (by omega) ?_)
    rw [rdOf_at hi]
    refine Ev.bind (Ev.const (Text_f (by omega))) (Ev.pos (by rw [textB_size]; omega) ?_)
    rw [wrap_succ i (by omega), lstB_drop hi]
    exact List_l0 L hL d (i + 1) _ (by omega) (by rw [← lstB_drop hi]; exact hz)
theorem List_ev {L : List ByteArray} (hL : L.length < 2 ^ 40) (hz : (listB L).size ≤ 140737488355328) : Ev (fun k => octet_List.f k L) (listB L) := by
  unfold octet_List.f
  have := numB_le (L.length : Int)
  refine Ev.bind (Ev.const (Num_f _)) (Ev.pos (by omega) ?_)
  exact List_l0 L hL L.length 0 _ (by omega) hz
theorem refList_l0 (L : List ByteArray) (hL : L.length < 2 ^ 40) : ∀ (d i : Nat) (s : ByteArray), i + d = L.length → (lstB (L.drop i) s).size ≤ 140737488355328 → Ev (fun k => steepleref01_List.l0 k L s (i : Int)) (lstB (L.drop i) s)
  | 0, i, s, h, _ => by
    refine Ev.succ ?_
    simp only [steepleref01_List.l0]
    refine Ev.neg (by omega) ?_
    rw [List.drop_of_length_le (by omega), lstB_nil]
    exact Ev.now _
  | d + 1, i, s, h, hz => by
    have hi : i < L.length := by omega
    have hs := lstB_size (L.drop (i + 1)) (s ++ textB L[i])
    rw [← lstB_drop hi, ByteArray.size_append, textB_size] at hs
    refine Ev.succ ?_
    simp only [steepleref01_List.l0]
    refine Ev.pos (by omega) (Ev.pos (by omega) ?_)
    rw [rdOf_at hi]
    refine Ev.bind (Ev.const (refText_f (by omega))) (Ev.pos (by rw [textB_size]; omega) ?_)
    rw [wrap_succ i (by omega), lstB_drop hi]
    exact refList_l0 L hL d (i + 1) _ (by omega) (by rw [← lstB_drop hi]; exact hz)
theorem refList_ev {L : List ByteArray} (hL : L.length < 2 ^ 40) (hz : (listB L).size ≤ 140737488355328) : Ev (fun k => steepleref01_List.f k L) (listB L) := by
  unfold steepleref01_List.f
  refine Ev.bind (Ev.const (refNum_f _)) ?_
  exact refList_l0 L hL L.length 0 _ (by omega) hz
end Go.Proofs.Ythgiifakcgjlaaa.Br
