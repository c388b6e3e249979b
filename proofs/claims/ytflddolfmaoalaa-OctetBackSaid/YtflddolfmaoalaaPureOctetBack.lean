/- What was made is read off again. Conditions: none but the arguments' kinds. -/
import Derived.Test.YtflddolfmaoalaaOcRE
import Derived.Test.YtflddolfmaoalaaOcAw
import Derived.Test.YtflddolfmaoalaaPx10
import Derived.Test.YtflddolfmaoalaaPx7
set_option linter.unusedVariables false
set_option linter.unusedSimpArgs false
namespace Go.Proofs.Ytflddolfmaoalaa.Pure
open Go.RowKit Go.Proofs.YtflddolfmaoalaaT Go.Proofs.Ytflddolfmaoalaa.P Go.Proofs.Ytflddolfmaoalaa.Br Go.Proofs.YtflddolfmaoalaaW.PrintWords Go.Proofs.YtflddolfmaoalaaW.PrintLast
theorem Texts_l0 (L : List ByteArray) (hL : L.length < 2 ^ 60) : ∀ d i : Nat, i + d = L.length → Ev (fun k => steeplelaw01_Texts.l0 k L L (i : Int)) true
  | 0, i, h => by
    refine Ev.succ ?_
    simp only [steeplelaw01_Texts.l0]
    exact Ev.neg (by omega) (Ev.now _)
  | d + 1, i, h => by
    refine Ev.succ ?_
    simp only [steeplelaw01_Texts.l0]
    refine Ev.pos (by omega) (Ev.pos (by omega) (Ev.pos (by omega) (Ev.pos trivial ?_)))
    rw [wrap_succ i (by omega)]
    exact Texts_l0 L hL d (i + 1) (by omega)
theorem Texts_ev (L : List ByteArray) (hL : L.length < 2 ^ 60) : Ev (fun k => steeplelaw01_Texts.f k L L) true := by
  unfold steeplelaw01_Texts.f
  exact Ev.pos rfl (Texts_l0 L hL L.length 0 (by omega))
theorem Same_l0 (m : List (T 7)) (hm : m.length < 2 ^ 60) : ∀ d i : Nat, i + d = m.length → Ev (fun k => steeplelaw01_Same.l0 k (m.map elS) (m.map elR) (i : Int)) true
  | 0, i, h => by
    refine Ev.succ ?_
    simp only [steeplelaw01_Same.l0]
    exact Ev.neg (by rw [List.length_map]; omega) (Ev.now _)
  | d + 1, i, h => by
    have hi : i < m.length := by omega
    refine Ev.succ ?_
    simp only [steeplelaw01_Same.l0]
    refine Ev.pos (by rw [List.length_map]; omega) (Ev.pos (by omega) (Ev.pos (by rw [List.length_map]; omega) ?_))
    rw [rd_elS hi, rd_elR hi, elS_f0, elS_f1, elR_f0, elR_f1, beq_self_eq_true, beq_self_eq_true, wrap_succ i (by omega)]
    exact Ev.neg (by decide) (Same_l0 m hm d (i + 1) (by omega))
theorem Same_ev (m : List (T 7)) (hm : m.length < 2 ^ 60) : Ev (fun k => steeplelaw01_Same.f k (m.map elS) (m.map elR)) true := by
  unfold steeplelaw01_Same.f
  exact Ev.pos (by rw [List.length_map, List.length_map]) (Same_l0 m hm m.length 0 (by omega))
theorem toList_nil {s : ByteArray} : s.toList = ([] : List UInt8) ↔ s = noB := by
  rw [ByteArray.toList_eq]
  constructor
  · intro h
    have : s.data = #[] := by
      rw [← Array.toList_eq_nil_iff]
      exact h
    show s = ⟨#[]⟩
    rw [← this]
  · rintro rfl
    rfl
def endB : ByteArray := ⟨#[101, 110, 100]⟩
theorem OctetBack_j0 (a : Int) (L : List ByteArray) (l : Int) (m : List (T 7)) (h0 : 0 ≤ a) (h1 : a ≤ 2147483647) (hf : fewB L 20 300 = true) (hm : m.length ≤ 50) (he : elemsB l m ≠ noB) : Ev (fun k => steeplelaw01_OctetBack.j0 k a L false l (m.map elS)) true := by
  obtain ⟨hl, hs⟩ := fewB_iff hf
  have hz := few_size hf
  have hn := numB_le a
  have hE : (elemsB l m).size ≤ 10000 := by
    have h4 := numB_le (m.length : Int)
    obtain ⟨hw, hall⟩ := elemsB_ok he
    have : ∀ (M : List (T 7)) (s : ByteArray), (∀ x ∈ M, ofB l x = true) → (elsB l M s).size ≤ s.size + 16 * M.length := by
      intro M
      induction M with
      | nil => intro s _; exact Nat.le_refl _
      | cons x M ih =>
        intro s hx
        have e : elsB l (x :: M) s = if ofB l x = true then elsB l M (s ++ bytesE l x) else noB := rfl
        have hb := bytesE_le l x
        have := ih (s ++ bytesE l x) (fun y hy => hx y (List.mem_cons_of_mem _ hy))
        rw [e, if_pos (hx x List.mem_cons_self), List.length_cons]
        rw [ByteArray.size_append] at this
        omega
    have h5 := this m (numB (m.length : Int)) hall
    unfold elemsB
    rw [if_neg hw]
    omega
  have hT : octet_Text.f (⟨#[101, 110, 100]⟩ : ByteArray) = some (textB endB) := Text_f (by decide)
  have hTz : (textB endB).size = 7 := by
    rw [textB_size]
    have : endB.size = 3 := rfl
    rw [this, numB_size (by decide) (by decide)]
  refine Ev.succ ?_
  simp only [steeplelaw01_OctetBack.j0]
  refine Ev.neg (by decide) (Ev.bind (Ev.const (Num_f a)) (Ev.bind (List_ev (by omega) hz) (Ev.pos (by omega) (Ev.bind (Elems_ev l (by omega)) (Ev.pos (by rw [ByteArray.size_append]; omega) (Ev.bind (Ev.const hT) (Ev.pos (by rw [ByteArray.size_append, ByteArray.size_append]; omega) (Ev.bind (Ev.now _) ?_))))))))
  rw [ByteArray.append_assoc, ByteArray.append_assoc]
  refine Ev.bind (Ev.const (Num_cmp h0 h1 (Int.le_refl a) _)) (Ev.bind (List_cmp (by omega) (by omega) (fun t ht => ⟨by have := hs t ht; omega, by have := hs t ht; omega⟩) _) (Ev.bind (Elems_cmp he (by omega) (by rw [List.length_map]; omega) _) ?_))
  have hx := Text_cmp (t := endB) (a := 3) (by decide) (by decide) noB
  rw [show textB endB ++ noB = textB endB from ByteArray.append_empty] at hx
  refine Ev.bind (Ev.const hx) (Ev.bind awake_ev (Ev.pos rfl (Ev.pos rfl (Ev.bind (Texts_ev L (by omega)) (Ev.pos rfl (Ev.bind (Ref_ev m (by omega)) (Ev.bind (Same_ev m (by omega)) (Ev.pos rfl (Ev.pos ?_ ?_)))))))))
  · show endB.toList = _
    rw [ByteArray.toList_eq]
    rfl
  · exact Ev.const (by decide)
theorem OctetBack_true (a : Int) (L : List ByteArray) (l : Int) (e : List S33) : Ev (fun k => steeplelaw01_OctetBack.j0 k a L true l e) true := by
  refine Ev.succ ?_
  simp only [steeplelaw01_OctetBack.j0]
  exact Ev.pos trivial (Ev.bind awake_ev (Ev.now _))
theorem OctetBack : steeplelaw01_OctetBack.Pure := by
  intro a L x ha hL hx
  obtain ⟨l, e⟩ := x
  obtain ⟨m, rfl⟩ : ∃ m : List (T 7), e = m.map elS := elS_of hx.2.2.2
  refine Ev.rounds ?_
  show Ev (fun k => steeplelaw01_OctetBack.f k a L l (m.map elS)) true
  unfold steeplelaw01_OctetBack.f
  have hl : L.length < 2 ^ 60 := by have := hL.2.1; omega
  have hfew := Few_ev L hl 20 300
  cases hf : fewB L 20 300 with
  | false =>
    rw [hf] at hfew
    exact Ev.bind hfew (Ev.neg (by decide) (OctetBack_true a L l _))
  | true =>
    rw [hf] at hfew
    refine Ev.bind hfew (Ev.pos rfl ?_)
    rw [List.length_map]
    by_cases hm : (m.length : Int) > 50
    · exact Ev.pos hm (OctetBack_true a L l _)
    · refine Ev.neg hm (Ev.bind (Ev.const (Num_f a)) ?_)
      by_cases hn : (numB a).toList = ([] : List UInt8)
      · exact Ev.pos hn (OctetBack_true a L l _)
      · have h01 : 0 ≤ a ∧ a ≤ 2147483647 := by
          rw [toList_nil] at hn
          unfold numB at hn
          by_cases c0 : a < 0
          · rw [if_pos c0] at hn
            exact absurd rfl hn
          · by_cases c1 : a > 2147483647
            · rw [if_neg c0, if_pos c1] at hn
              exact absurd rfl hn
            · omega
        refine Ev.neg hn (Ev.bind (Elems_ev l (by omega)) ?_)
        by_cases he : (elemsB l m).toList = ([] : List UInt8)
        · rw [he, beq_self_eq_true]
          exact OctetBack_true a L l _
        · rw [beq_eq_false_iff_ne.2 he]
          exact OctetBack_j0 a L l m h01.1 h01.2 hf (by omega) (fun h => he (toList_nil.2 h))
end Go.Proofs.Ytflddolfmaoalaa.Pure
