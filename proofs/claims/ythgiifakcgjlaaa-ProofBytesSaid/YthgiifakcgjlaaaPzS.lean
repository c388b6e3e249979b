/- Which proofs are of a level's shape: the code's answer (proof.shaped) and the document's (steepleref29.Shaped) are one. Conditions: those that each theorem names. -/
import Derived.Test.YthgiifakcgjlaaaOcRE
import Derived.Test.YthgiifakcgjlaaaPwLe
import Derived.Test.YthgiifakcgjlaaaPx10
import Derived.Test.YthgiifakcgjlaaaPx7
import Derived.Test.YthgiifakcgjlaaaPx8
import Derived.Test.YthgiifakcgjlaaaPx9
set_option linter.unusedVariables false
set_option linter.unusedSimpArgs false
namespace Go.Proofs.Ythgiifakcgjlaaa.Br
open Go.RowKit Go.Proofs.YthgiifakcgjlaaaT Go.Proofs.Ythgiifakcgjlaaa.P Go.Proofs.YthgiifakcgjlaaaW.PrintWords Go.Proofs.YthgiifakcgjlaaaW.PrintLast
theorem wrI (i : Nat) (h : i < 4294967296) : wrap64 ((i : Int) + 1) = ((i + 1 : Nat) : Int) := by unfold wrap64; omega
def okE (a : Int) (M : List (T 7)) : Bool := decide (M.length ≤ 4096) && M.all (ofB a)
def okLs (a : Int) (Z : List (List (T 7))) : Bool := decide (Z.length ≤ 4096) && Z.all (okE a)
def okR (L : List ByteArray) : Bool := L.all fun s => decide (s.size = 32)
def mE (M : List (T 7)) : List S61 := M.map elS
def mR (M : List (T 7)) : List S70 := M.map elR
/-! The index of the first that is not. -/
theorem str_l0 (L : List ByteArray) (hL : L.length < 4294967296) : ∀ (d i : Nat), i + d = L.length → ∃ v : Int, Ev (fun k => slices_IndexFunc_string_string.l0 k L (L.length : Int) (i : Int)) v ∧ decide (v ≥ 0) = !(okR (L.drop i))
  | 0, i, h => by
    refine ⟨-1, Ev.succ ?_, ?_⟩
    · simp only [slices_IndexFunc_string_string.l0]
      exact Ev.neg (by omega) (Ev.now _)
    · rw [List.drop_of_length_le (by omega)]
      rfl
  | d + 1, i, h => by
    have hi : i < L.length := by omega
    obtain ⟨v, hv, hd⟩ := str_l0 L hL d (i + 1) (by omega)
    have hb : okR (L.drop i) = (decide (L[i].size = 32) && okR (L.drop (i + 1))) := by rw [List.drop_eq_getElem_cons hi]; rfl
    have h1 : proof_shaped_1.f L[i] = some ((L[i].size : Int) != 32) := rfl
    by_cases c : L[i].size = 32
    · refine ⟨v, Ev.succ ?_, ?_⟩
      · simp only [slices_IndexFunc_string_string.l0]
        rw [rdOf_at hi, wrI i (by omega)]
        refine Ev.pos (by omega) (Ev.pos (by omega) (Ev.pos (by omega) (Ev.bind (Ev.const h1) (Ev.neg ?_ hv))))
        rw [c]
        decide
      · rw [hb, decide_eq_true c, Bool.true_and]
        exact hd
    · refine ⟨(i : Int), Ev.succ ?_, ?_⟩
      · simp only [slices_IndexFunc_string_string.l0]
        rw [rdOf_at hi]
        refine Ev.pos (by omega) (Ev.pos (by omega) (Ev.pos (by omega) (Ev.bind (Ev.const h1) (Ev.pos ?_ (Ev.now _)))))
        simp
        omega
      · rw [hb, decide_eq_false c, decide_eq_true (by omega)]
        rfl
theorem str_ev (L : List ByteArray) (hL : L.length < 4294967296) : Ev (fun k => slices_ContainsFunc_string_string.f k L) (!(okR L)) := by
  obtain ⟨v, hv, hd⟩ := str_l0 L hL L.length 0 (by omega)
  rw [List.drop_zero] at hd
  unfold slices_ContainsFunc_string_string.f
  rw [← hd]
  exact Ev.bind (show Ev (fun k => slices_IndexFunc_string_string.f k L) v from hv) (Ev.now _)
theorem el_l0 (a : Int) (M : List (T 7)) (hM : M.length < 4294967296) : ∀ (d i : Nat), i + d = M.length → ∃ v : Int, Ev (fun k => api_Elem_111.l0 k (mE M) a (M.length : Int) (i : Int)) v ∧ decide (v ≥ 0) = !((M.drop i).all (ofB a))
  | 0, i, h => by
    refine ⟨-1, Ev.succ ?_, ?_⟩
    · simp only [api_Elem_111.l0]
      exact Ev.neg (by omega) (Ev.now _)
    · rw [List.drop_of_length_le (by omega)]
      rfl
  | d + 1, i, h => by
    have hi : i < M.length := by omega
    have hlen : (mE M).length = M.length := List.length_map ..
    obtain ⟨v, hv, hd⟩ := el_l0 a M hM d (i + 1) (by omega)
    have hb : (M.drop i).all (ofB a) = (ofB a M[i] && (M.drop (i + 1)).all (ofB a)) := by rw [List.drop_eq_getElem_cons hi]; rfl
    have h1 : Ev (fun k => proof_shaped_2_1.f k (hiW M[i]) (loW M[i]) a) (!ofB a M[i]) := by
      unfold proof_shaped_2_1.f
      exact Ev.bind (Of_ev a M[i]) (Ev.now _)
    cases c : ofB a M[i] with
    | true =>
      rw [c] at h1
      refine ⟨v, Ev.succ ?_, ?_⟩
      · simp only [api_Elem_111.l0]
        rw [show rd_T61 (mE M) (i : Int) = elS M[i] from rd_elS hi, elS_f0, elS_f1, wrI i (by omega)]
        exact Ev.pos (by omega) (Ev.pos (by omega) (Ev.pos (by omega) (Ev.bind h1 (Ev.neg (by decide) hv))))
      · rw [hb, c, Bool.true_and]
        exact hd
    | false =>
      rw [c] at h1
      refine ⟨(i : Int), Ev.succ ?_, ?_⟩
      · simp only [api_Elem_111.l0]
        rw [show rd_T61 (mE M) (i : Int) = elS M[i] from rd_elS hi, elS_f0, elS_f1]
        exact Ev.pos (by omega) (Ev.pos (by omega) (Ev.pos (by omega) (Ev.bind h1 (Ev.pos rfl (Ev.now _)))))
      · rw [hb, c, decide_eq_true (by omega)]
        rfl
theorem bad_ev (a : Int) (M : List (T 7)) (hM : M.length < 4294967296) : Ev (fun k => proof_shaped_2.f k (mE M) a) (!(okE a M)) := by
  have hlen : (mE M).length = M.length := List.length_map ..
  obtain ⟨v, hv, hd⟩ := el_l0 a M hM M.length 0 (by omega)
  rw [List.drop_zero] at hd
  have hc : Ev (fun k => api_Elem_102.f k (mE M) a) (decide (v ≥ 0)) := by
    unfold api_Elem_102.f
    refine Ev.bind (show Ev (fun k => api_Elem_111.f k (mE M) a) v from ?_) (Ev.now _)
    unfold api_Elem_111.f
    rw [hlen]
    exact hv
  unfold proof_shaped_2.f okE
  rw [hlen]
  by_cases c : (M.length : Int) > 4096
  · rw [decide_eq_false (by omega)]
    exact Ev.pos c (Ev.now _)
  · rw [decide_eq_true (by omega), Bool.true_and, ← hd]
    exact Ev.neg c (Ev.bind hc (Ev.now _))
def mEE (Z : List (List (T 7))) : List (List S61) := Z.map mE
def mRR (Z : List (List (T 7))) : List (List S70) := Z.map mR
theorem rdEE {Z : List (List (T 7))} {i : Nat} (h : i < Z.length) : rd_L6 (mEE Z) (i : Int) = mE Z[i] := by
  unfold rd_L6 mEE
  rw [Int.toNat_natCast, List.getD_eq_getElem?_getD, List.getElem?_eq_getElem (by rw [List.length_map]; exact h), Option.getD_some, List.getElem_map]
theorem rdRR {Z : List (List (T 7))} {i : Nat} (h : i < Z.length) : rd_L7 (mRR Z) (i : Int) = mR Z[i] := by
  unfold rd_L7 mRR
  rw [Int.toNat_natCast, List.getD_eq_getElem?_getD, List.getElem?_eq_getElem (by rw [List.length_map]; exact h), Option.getD_some, List.getElem_map]
theorem ls_l0 (a : Int) (Z : List (List (T 7))) (hZ : Z.length < 4294967296) (hl : ∀ M ∈ Z, M.length < 4294967296) : ∀ (d i : Nat), i + d = Z.length → ∃ v : Int, Ev (fun k => api_Elem_112.l0 k (mEE Z) a (Z.length : Int) (i : Int)) v ∧ decide (v ≥ 0) = !((Z.drop i).all (okE a))
  | 0, i, h => by
    refine ⟨-1, Ev.succ ?_, ?_⟩
    · simp only [api_Elem_112.l0]
      exact Ev.neg (by omega) (Ev.now _)
    · rw [List.drop_of_length_le (by omega)]
      rfl
  | d + 1, i, h => by
    have hi : i < Z.length := by omega
    have hlen : (mEE Z).length = Z.length := List.length_map ..
    obtain ⟨v, hv, hd⟩ := ls_l0 a Z hZ hl d (i + 1) (by omega)
    have hb : (Z.drop i).all (okE a) = (okE a Z[i] && (Z.drop (i + 1)).all (okE a)) := by rw [List.drop_eq_getElem_cons hi]; rfl
    have h1 := bad_ev a Z[i] (hl _ (List.getElem_mem hi))
    cases c : okE a Z[i] with
    | true =>
      rw [c] at h1
      refine ⟨v, Ev.succ ?_, ?_⟩
      · simp only [api_Elem_112.l0]
        rw [rdEE hi, wrI i (by omega)]
        exact Ev.pos (by omega) (Ev.pos (by omega) (Ev.pos (by omega) (Ev.bind h1 (Ev.neg (by decide) hv))))
      · rw [hb, c, Bool.true_and]
        exact hd
    | false =>
      rw [c] at h1
      refine ⟨(i : Int), Ev.succ ?_, ?_⟩
      · simp only [api_Elem_112.l0]
        rw [rdEE hi]
        exact Ev.pos (by omega) (Ev.pos (by omega) (Ev.pos (by omega) (Ev.bind h1 (Ev.pos rfl (Ev.now _)))))
      · rw [hb, c, decide_eq_true (by omega)]
        rfl
theorem bads_ev (a : Int) (Z : List (List (T 7))) (hZ : Z.length < 4294967296) (hl : ∀ M ∈ Z, M.length < 4294967296) : Ev (fun k => api_Elem_104.f k (mEE Z) a) (!(Z.all (okE a))) := by
  have hlen : (mEE Z).length = Z.length := List.length_map ..
  obtain ⟨v, hv, hd⟩ := ls_l0 a Z hZ hl Z.length 0 (by omega)
  rw [List.drop_zero] at hd
  unfold api_Elem_104.f
  rw [← hd]
  refine Ev.bind (show Ev (fun k => api_Elem_112.f k (mEE Z) a) v from ?_) (Ev.now _)
  unfold api_Elem_112.f
  rw [hlen]
  exact hv
/-! The whole proof. -/
section
variable (a : Int) (root : ByteArray) (z : List (List (T 7))) (wi : List (T 7)) (c : List (List (T 7))) (v : T 7) (pa : List (T 7)) (g : List (List (T 7))) (p : T 7) (ro : List (T 7)) (o : List (List (T 7))) (pr : List ByteArray)
def shB : Bool := decide (0 ≤ a ∧ a ≤ 7) && decide (root.size = 32) && decide (pr.length ≤ 4096) && (okR pr && ((okE a wi && (okE a pa && (okE a ro && okE a [v, p]))) && (okLs a z && (okLs a c && (okLs a g && okLs a o)))))
/-- No list is longer than a machine's. -/
def smallB : Prop := pr.length < 4294967296 ∧ wi.length < 4294967296 ∧ pa.length < 4294967296 ∧ ro.length < 4294967296 ∧ (∀ Z ∈ [z, c, g, o], Z.length < 4294967296 ∧ ∀ M ∈ Z, M.length < 4294967296)
end
theorem rd9 {Y : List (List (List (T 7)))} {i : Nat} (h : i < Y.length) : rd_L9 (Y.map mEE) (i : Int) = mEE Y[i] := by
  unfold rd_L9
  rw [Int.toNat_natCast, List.getD_eq_getElem?_getD, List.getElem?_eq_getElem (by rw [List.length_map]; exact h), Option.getD_some, List.getElem_map]
theorem sh_l1 (a : Int) (Y : List (List (List (T 7)))) (hY : Y.length < 4294967296) (hl : ∀ Z ∈ Y, Z.length < 4294967296 ∧ ∀ M ∈ Z, M.length < 4294967296) : ∀ (d i : Nat), i + d = Y.length → Ev (fun k => proof_shaped.l1 k a (Y.map mEE) (Y.length : Int) (i : Int)) ((Y.drop i).all (okLs a))
  | 0, i, h => by
    refine Ev.succ ?_
    simp only [proof_shaped.l1]
    rw [List.drop_of_length_le (by omega)]
    exact Ev.neg (by omega) (Ev.now _)
  | d + 1, i, h => by
    have hi : i < Y.length := by omega
    have hlen : (Y.map mEE).length = Y.length := List.length_map ..
    have hz : (mEE Y[i]).length = Y[i].length := List.length_map ..
    have ih := sh_l1 a Y hY hl d (i + 1) (by omega)
    have hb : (Y.drop i).all (okLs a) = (okLs a Y[i] && (Y.drop (i + 1)).all (okLs a)) := by rw [List.drop_eq_getElem_cons hi]; rfl
    have h2 := hl _ (List.getElem_mem hi)
    have h1 := bads_ev a Y[i] h2.1 h2.2
    refine Ev.succ ?_
    simp only [proof_shaped.l1]
    rw [rd9 hi, hb, hz, wrI i (by omega)]
    refine Ev.pos (by omega) (Ev.pos (by omega) (Ev.pos (by omega) ?_))
    unfold okLs at hb ⊢
    by_cases q : (Y[i].length : Int) > 4096
    · rw [decide_eq_false (by omega)]
      exact Ev.pos q (Ev.now _)
    · rw [decide_eq_true (by omega), Bool.true_and]
      refine Ev.neg q (Ev.bind h1 ?_)
      cases t : Y[i].all (okE a) with
      | true => exact Ev.neg (by decide) ih
      | false => exact Ev.pos rfl (Ev.now _)
theorem sh_l0 {a : Int} {x0 : ByteArray} {x1 x3 x7 x11 : List (List S61)} {x2 x6 x10 : List S61} {x4 x5 x8 x9 : Int} {x12 : List ByteArray} {rest : Bool} (hr : Ev (fun k => proof_shaped.l1 k a [x1, x3, x7, x11] (4 : Int) (0 : Int)) rest) (Y : List (List (T 7))) (hY : Y.length < 4294967296) (hl : ∀ M ∈ Y, M.length < 4294967296) :
    ∀ (d i : Nat), i + d = Y.length → Ev (fun k => proof_shaped.l0 k a (mEE Y) (Y.length : Int) (i : Int) x0 x1 x2 x3 x4 x5 x6 x7 x8 x9 x10 x11 x12) ((Y.drop i).all (okE a) && rest)
  | 0, i, h => by
    refine Ev.succ ?_
    simp only [proof_shaped.l0]
    rw [List.drop_of_length_le (by omega)]
    exact Ev.neg (by omega) hr
  | d + 1, i, h => by
    have hi : i < Y.length := by omega
    have hlen : (mEE Y).length = Y.length := List.length_map ..
    have ih := sh_l0 (x0 := x0) (x2 := x2) (x4 := x4) (x5 := x5) (x6 := x6) (x8 := x8) (x9 := x9) (x10 := x10) (x12 := x12) hr Y hY hl d (i + 1) (by omega)
    have hb : (Y.drop i).all (okE a) = (okE a Y[i] && (Y.drop (i + 1)).all (okE a)) := by rw [List.drop_eq_getElem_cons hi]; rfl
    have h1 := bad_ev a Y[i] (hl _ (List.getElem_mem hi))
    refine Ev.succ ?_
    simp only [proof_shaped.l0]
    rw [rdEE hi, hb, wrI i (by omega)]
    refine Ev.pos (by omega) (Ev.pos (by omega) (Ev.pos (by omega) (Ev.bind h1 ?_)))
    cases t : okE a Y[i] with
    | true => exact Ev.neg (by decide) ih
    | false => exact Ev.pos rfl (Ev.now _)
theorem wide0 {a : Int} : wideN a = 0 ↔ ¬ (0 ≤ a ∧ a ≤ 7) := by
  constructor
  · intro h h2
    exact wideN_pos h2 h
  · intro h
    unfold wideN
    rw [if_neg h]
theorem sh_j0t (a : Int) (x0 : ByteArray) (x1 : List (List S61)) (x2 : List S61) (x3 : List (List S61)) (x4 x5 : Int) (x6 : List S61) (x7 : List (List S61)) (x8 x9 : Int) (x10 : List S61) (x11 : List (List S61)) (x12 : List ByteArray) : Ev (fun k => proof_shaped.j0 k a true x0 x1 x2 x3 x4 x5 x6 x7 x8 x9 x10 x11 x12) false := by
  refine Ev.succ ?_
  simp only [proof_shaped.j0]
  exact Ev.pos trivial (Ev.now _)
theorem shaped_ev (a : Int) (root : ByteArray) (z : List (List (T 7))) (wi : List (T 7)) (c : List (List (T 7))) (v : T 7) (pa : List (T 7)) (g : List (List (T 7))) (p : T 7) (ro : List (T 7)) (o : List (List (T 7))) (pr : List ByteArray) (hs : smallB z wi c pa g ro o pr) :
    Ev (fun k => proof_shaped.f k a root (mEE z) (mE wi) (mEE c) (hiW v) (loW v) (mE pa) (mEE g) (hiW p) (loW p) (mE ro) (mEE o) pr) (shB a root z wi c v pa g p ro o pr) := by
  obtain ⟨s1, s2, s3, s4, s5⟩ := hs
  unfold proof_shaped.f shB
  refine Ev.bind (Wide_ev a) ?_
  by_cases h0 : 0 ≤ a ∧ a ≤ 7
  · rw [decide_eq_true h0, Bool.true_and]
    refine Ev.neg (by have := wideN_pos h0; omega) ?_
    by_cases h1 : root.size = 32
    · rw [decide_eq_true h1, Bool.true_and]
      refine Ev.pos (by omega) ?_
      by_cases h2 : pr.length ≤ 4096
      · rw [decide_eq_true h2, Bool.true_and, decide_eq_false (by omega)]
        refine Ev.succ ?_
        simp only [proof_shaped.j0]
        refine Ev.neg (by decide) (Ev.bind (str_ev pr s1) ?_)
        cases h3 : okR pr with
        | false => exact Ev.pos rfl (Ev.now _)
        | true =>
          refine Ev.neg (by decide) ?_
          have e1 := sh_l1 a [z, c, g, o] (by show 4 < 4294967296; decide) s5 4 0 rfl
          have e2 := sh_l0 (x0 := root) (x2 := mE wi) (x4 := hiW v) (x5 := loW v) (x6 := mE pa) (x8 := hiW p) (x9 := loW p) (x10 := mE ro) (x12 := pr) (show Ev (fun k => proof_shaped.l1 k a [mEE z, mEE c, mEE g, mEE o] (4 : Int) (0 : Int)) _ from e1) [wi, pa, ro, [v, p]] (by show 4 < 4294967296; decide) (fun M hM => by
            rcases List.mem_cons.1 hM with rfl | hM
            · exact s2
            rcases List.mem_cons.1 hM with rfl | hM
            · exact s3
            rcases List.mem_cons.1 hM with rfl | hM
            · exact s4
            rcases List.mem_cons.1 hM with rfl | hM
            · show 2 < 4294967296; decide
            · cases hM) 4 0 rfl
          have e3 : (([wi, pa, ro, [v, p]].drop 0).all (okE a) && ([z, c, g, o].drop 0).all (okLs a)) = (true && ((okE a wi && (okE a pa && (okE a ro && okE a [v, p]))) && (okLs a z && (okLs a c && (okLs a g && okLs a o))))) := by
            simp only [List.drop_zero, List.all_cons, List.all_nil, Bool.and_true, Bool.true_and]
          rw [← e3]
          exact Ev.bind (Ev.now _) e2
      · rw [decide_eq_false h2, Bool.false_and, decide_eq_true (by omega)]
        exact sh_j0t ..
    · rw [decide_eq_false h1]
      exact Ev.neg (by omega) (sh_j0t ..)
  · rw [decide_eq_false h0]
    exact Ev.pos (by rw [wide0.2 h0]; rfl) (sh_j0t ..)
/-! The document's. -/
theorem all_l0 (a : Int) (M : List (T 7)) (hM : M.length < 4294967296) : ∀ (d i : Nat), i + d = M.length → Ev (fun k => steepleref06_All.l0 k a (mR M) (i : Int)) ((M.drop i).all (ofB a))
  | 0, i, h => by
    have hlen : (mR M).length = M.length := List.length_map ..
    refine Ev.succ ?_
    simp only [steepleref06_All.l0]
    rw [List.drop_of_length_le (by omega)]
    exact Ev.neg (by omega) (Ev.now _)
  | d + 1, i, h => by
    have hi : i < M.length := by omega
    have hlen : (mR M).length = M.length := List.length_map ..
    have ih := all_l0 a M hM d (i + 1) (by omega)
    have hb : (M.drop i).all (ofB a) = (ofB a M[i] && (M.drop (i + 1)).all (ofB a)) := by rw [List.drop_eq_getElem_cons hi]; rfl
    refine Ev.succ ?_
    simp only [steepleref06_All.l0]
    rw [show rd_T70 (mR M) (i : Int) = elR M[i] from rd_elR hi, elR_f0, elR_f1, hb, wrI i (by omega)]
    refine Ev.pos (by omega) (Ev.pos (by omega) (Ev.bind (refOf_ev a M[i]) ?_))
    cases c : ofB a M[i] with
    | true => exact Ev.pos rfl ih
    | false => exact Ev.neg (by decide) (Ev.now _)
theorem rlists_l0 (a : Int) (Z : List (List (T 7))) (hZ : Z.length < 4294967296) (hl : ∀ M ∈ Z, M.length < 4294967296) : ∀ (d i : Nat), i + d = Z.length → Ev (fun k => steepleref29_lists.l0 k a (mRR Z) (i : Int)) ((Z.drop i).all (okE a) && decide (Z.length ≤ 4096))
  | 0, i, h => by
    have hlen : (mRR Z).length = Z.length := List.length_map ..
    refine Ev.succ ?_
    simp only [steepleref29_lists.l0]
    rw [List.drop_of_length_le (by omega)]
    refine Ev.neg (by omega) ?_
    have e : decide (((mRR Z).length : Int) ≤ 4096) = decide (Z.length ≤ 4096) := by
      rw [decide_eq_decide]
      omega
    rw [e]
    exact Ev.now _
  | d + 1, i, h => by
    have hi : i < Z.length := by omega
    have hlen : (mRR Z).length = Z.length := List.length_map ..
    have hz : (mR Z[i]).length = Z[i].length := List.length_map ..
    have ih := rlists_l0 a Z hZ hl d (i + 1) (by omega)
    have hb : (Z.drop i).all (okE a) = (okE a Z[i] && (Z.drop (i + 1)).all (okE a)) := by rw [List.drop_eq_getElem_cons hi]; rfl
    have h1 := all_l0 a Z[i] (hl _ (List.getElem_mem hi)) Z[i].length 0 (by omega)
    rw [List.drop_zero] at h1
    refine Ev.succ ?_
    simp only [steepleref29_lists.l0]
    rw [rdRR hi, hb, hz, wrI i (by omega)]
    refine Ev.pos (by omega) (Ev.pos (by omega) ?_)
    unfold okE at hb ⊢
    by_cases q : (Z[i].length : Int) > 4096
    · rw [decide_eq_false (by omega)]
      exact Ev.pos q (Ev.now _)
    · rw [decide_eq_true (by omega), Bool.true_and]
      refine Ev.neg q (Ev.bind (show Ev (fun k => steepleref06_All.f k a (mR Z[i])) _ from h1) ?_)
      cases t : Z[i].all (ofB a) with
      | true => exact Ev.pos rfl ih
      | false => exact Ev.neg (by decide) (Ev.now _)
theorem rlists_ev (a : Int) (Z : List (List (T 7))) (hZ : Z.length < 4294967296) (hl : ∀ M ∈ Z, M.length < 4294967296) : Ev (fun k => steepleref29_lists.f k a (mRR Z)) (okLs a Z) := by
  have h := rlists_l0 a Z hZ hl Z.length 0 (by omega)
  rw [List.drop_zero, Bool.and_comm] at h
  exact h
theorem rsh_j0t (a : Int) (x0 : ByteArray) (x1 : List (List S70)) (x2 : List S70) (x3 : List (List S70)) (x4 x5 : Int) (x6 : List S70) (x7 : List (List S70)) (x8 x9 : Int) (x10 : List S70) (x11 : List (List S70)) (x12 : List ByteArray) : Ev (fun k => steepleref29_Shaped.j0 k a true x0 x1 x2 x3 x4 x5 x6 x7 x8 x9 x10 x11 x12) false := by
  refine Ev.succ ?_
  simp only [steepleref29_Shaped.j0]
  exact Ev.pos trivial (Ev.now _)
theorem rsh_l0 {a : Int} {x0 : ByteArray} {x1 x3 x7 x11 : List (List S70)} {x2 x6 x10 : List S70} {x4 x5 x8 x9 : Int} (pr : List ByteArray) (hL : pr.length < 4294967296) {rest : Bool} (hr : Ev (fun k => (steepleref29_lists.f k a [x2, x6, x10, [⟨x4, x5⟩, ⟨x8, x9⟩]]).bind fun t223 => (if t223 = true then ((steepleref29_lists.f k a x1).bind fun t224 => (if t224 = true then ((steepleref29_lists.f k a x3).bind fun t225 => (if t225 = true then ((steepleref29_lists.f k a x7).bind fun t226 => (if t226 = true then ((steepleref29_lists.f k a x11).bind fun t227 => (some t227)) else (some false))) else (some false))) else (some false))) else (some false))) rest) :
    ∀ (d i : Nat), i + d = pr.length → Ev (fun k => steepleref29_Shaped.l0 k a (i : Int) x0 x1 x2 x3 x4 x5 x6 x7 x8 x9 x10 x11 pr) (okR (pr.drop i) && rest)
  | 0, i, h => by
    refine Ev.succ ?_
    simp only [steepleref29_Shaped.l0]
    rw [List.drop_of_length_le (by omega)]
    exact Ev.neg (by omega) hr
  | d + 1, i, h => by
    have hi : i < pr.length := by omega
    have ih := rsh_l0 (x0 := x0) pr hL hr d (i + 1) (by omega)
    have hb : okR (pr.drop i) = (decide (pr[i].size = 32) && okR (pr.drop (i + 1))) := by rw [List.drop_eq_getElem_cons hi]; rfl
    refine Ev.succ ?_
    simp only [steepleref29_Shaped.l0]
    rw [rdOf_at hi, hb, wrI i (by omega)]
    refine Ev.pos (by omega) (Ev.pos (by omega) ?_)
    by_cases q : pr[i].size = 32
    · rw [decide_eq_true q, Bool.true_and]
      exact Ev.pos (by omega) ih
    · rw [decide_eq_false q]
      exact Ev.neg (by omega) (Ev.now _)
theorem refShaped_ev (a : Int) (root : ByteArray) (z : List (List (T 7))) (wi : List (T 7)) (c : List (List (T 7))) (v : T 7) (pa : List (T 7)) (g : List (List (T 7))) (p : T 7) (ro : List (T 7)) (o : List (List (T 7))) (pr : List ByteArray) (hs : smallB z wi c pa g ro o pr) :
    Ev (fun k => steepleref29_Shaped.f k a root (mRR z) (mR wi) (mRR c) (hiW v) (loW v) (mR pa) (mRR g) (hiW p) (loW p) (mR ro) (mRR o) pr) (shB a root z wi c v pa g p ro o pr) := by
  obtain ⟨s1, s2, s3, s4, s5⟩ := hs
  have l4 : ∀ Z ∈ [z, c, g, o], Ev (fun k => steepleref29_lists.f k a (mRR Z)) (okLs a Z) := fun Z hZ => rlists_ev a Z (s5 Z hZ).1 (s5 Z hZ).2
  have lz := l4 z (by simp)
  have lc := l4 c (by simp)
  have lg := l4 g (by simp)
  have lo := l4 o (by simp)
  have l1 : Ev (fun k => steepleref29_lists.f k a [mR wi, mR pa, mR ro, [⟨hiW v, loW v⟩, ⟨hiW p, loW p⟩]]) (okLs a [wi, pa, ro, [v, p]]) := rlists_ev a [wi, pa, ro, [v, p]] (by show 4 < 4294967296; decide) (fun M hM => by
            rcases List.mem_cons.1 hM with rfl | hM
            · exact s2
            rcases List.mem_cons.1 hM with rfl | hM
            · exact s3
            rcases List.mem_cons.1 hM with rfl | hM
            · exact s4
            rcases List.mem_cons.1 hM with rfl | hM
            · show 2 < 4294967296; decide
            · cases hM)
  have e1 : okLs a [wi, pa, ro, [v, p]] = (okE a wi && (okE a pa && (okE a ro && okE a [v, p]))) := by
    unfold okLs
    rw [decide_eq_true (by show 4 ≤ 4096; decide), Bool.true_and]
    simp only [List.all_cons, List.all_nil, Bool.and_true]
  rw [e1] at l1
  have hall : Ev (fun k => (steepleref29_lists.f k a [mR wi, mR pa, mR ro, [⟨hiW v, loW v⟩, ⟨hiW p, loW p⟩]]).bind fun t223 => (if t223 = true then ((steepleref29_lists.f k a (mRR z)).bind fun t224 => (if t224 = true then ((steepleref29_lists.f k a (mRR c)).bind fun t225 => (if t225 = true then ((steepleref29_lists.f k a (mRR g)).bind fun t226 => (if t226 = true then ((steepleref29_lists.f k a (mRR o)).bind fun t227 => (some t227)) else (some false))) else (some false))) else (some false))) else (some false))) ((okE a wi && (okE a pa && (okE a ro && okE a [v, p]))) && (okLs a z && (okLs a c && (okLs a g && okLs a o)))) := by
    refine Ev.bind l1 ?_
    cases okE a wi && (okE a pa && (okE a ro && okE a [v, p])) with
    | false => exact Ev.neg (by decide) (Ev.now _)
    | true =>
      refine Ev.pos rfl (Ev.bind lz ?_)
      cases okLs a z with
      | false => exact Ev.neg (by decide) (Ev.now _)
      | true =>
        refine Ev.pos rfl (Ev.bind lc ?_)
        cases okLs a c with
        | false => exact Ev.neg (by decide) (Ev.now _)
        | true =>
          refine Ev.pos rfl (Ev.bind lg ?_)
          cases okLs a g with
          | false => exact Ev.neg (by decide) (Ev.now _)
          | true => exact Ev.pos rfl (Ev.bind lo (Ev.now _))
  unfold steepleref29_Shaped.f shB
  by_cases h0 : a < 0
  · rw [decide_eq_false (show ¬ (0 ≤ a ∧ a ≤ 7) by omega)]
    exact Ev.pos h0 (rsh_j0t ..)
  refine Ev.neg h0 ?_
  by_cases h1 : a > 7
  · rw [decide_eq_false (show ¬ (0 ≤ a ∧ a ≤ 7) by omega)]
    exact Ev.pos h1 (rsh_j0t ..)
  refine Ev.neg h1 ?_
  rw [decide_eq_true (show 0 ≤ a ∧ a ≤ 7 by omega), Bool.true_and]
  by_cases h2 : root.size = 32
  · rw [decide_eq_true h2, Bool.true_and]
    refine Ev.pos (by omega) ?_
    by_cases h3 : pr.length ≤ 4096
    · rw [decide_eq_true h3, Bool.true_and, decide_eq_false (by omega)]
      have hl := rsh_l0 (x0 := root) pr s1 hall pr.length 0 (by omega)
      rw [List.drop_zero] at hl
      refine Ev.succ ?_
      simp only [steepleref29_Shaped.j0]
      exact Ev.neg (by decide) hl
    · rw [decide_eq_false h3, decide_eq_true (by omega)]
      exact rsh_j0t ..
  · rw [decide_eq_false h2]
    exact Ev.neg (by omega) (rsh_j0t ..)
end Go.Proofs.Ythgiifakcgjlaaa.Br
