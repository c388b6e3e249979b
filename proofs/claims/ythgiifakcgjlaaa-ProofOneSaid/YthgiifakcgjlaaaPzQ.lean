/- Texts of this session, merged: PzB PzR. Conditions: those that each theorem names. -/
import Derived.Test.YthgiifakcgjlaaaPzS
import Derived.Test.YthgiifakcgjlaaaPwA
import Derived.Test.YthgiifakcgjlaaaHProof
import Derived.Test.YthgiifakcgjlaaaPx11
import Derived.Test.YthgiifakcgjlaaaPx12
import Derived.Test.YthgiifakcgjlaaaPx13
import Derived.Test.YthgiifakcgjlaaaPx14a
import Derived.Test.YthgiifakcgjlaaaPx14b
import Derived.Test.YthgiifakcgjlaaaPx15
import Derived.Test.YthgiifakcgjlaaaPx16
import Derived.Test.YthgiifakcgjlaaaPx5
import Derived.Test.YthgiifakcgjlaaaPx6
import Derived.Test.YthgiifakcgjlaaaPx6a
section
/- A proof's bytes: written by the code and by the document; read (layer 29). Conditions: those that each theorem names. -/
set_option linter.unusedVariables false
set_option linter.unusedSimpArgs false
namespace Go.Proofs.Ythgiifakcgjlaaa.Br
open Go.RowKit Go.Proofs.YthgiifakcgjlaaaT Go.Proofs.Ythgiifakcgjlaaa.P Go.Proofs.YthgiifakcgjlaaaW.PrintWords Go.Proofs.YthgiifakcgjlaaaW.PrintLast
/-! Lists of elements, written. -/
def lsB (a : Int) (Z : List (List (T 7))) : ByteArray := listsB (elemsB a) Z
theorem one_ev (a : Int) {M : List (T 7)} (hM : M.length < 4294967296) : Ev (fun k => proof_Proof_1.f k (mE M) a) (elemsB a M) := by
  unfold proof_Proof_1.f
  exact Ev.bind (Elems_ev a (L := M) (by omega)) (Ev.now _)
theorem eachE_go (a : Int) : ∀ (Z : List (List (T 7))) (s : ByteArray), (∀ M ∈ Z, M.length < 4294967296) → (foldB (elemsB a) Z s).size ≤ 140737488355328 → Ev (fun k => each_go (listOne k a) (mEE Z) s) (foldB (elemsB a) Z s)
  | [], s, _, _ => Ev.now _
  | M :: Z, s, h, hz => by
    have h2 := foldB_size (elemsB a) Z (s ++ elemsB a M)
    rw [foldB_cons] at hz
    rw [ByteArray.size_append] at h2
    exact Ev.bind (one_ev a (h M (List.mem_cons_self ..))) (Ev.pos (by omega) (eachE_go a Z _ (fun x hx => h x (List.mem_cons_of_mem _ hx)) hz))
theorem lists_ev (a : Int) {Z : List (List (T 7))} (hZ : Z.length < 1000000000) (h : ∀ M ∈ Z, M.length < 4294967296) (hz : (lsB a Z).size ≤ 140737488355328) : Ev (fun k => proof_Proof_2.f k (mEE Z) a) (lsB a Z) := by
  have hn := numB_le (Z.length : Int)
  have hlen : (mEE Z).length = Z.length := List.length_map ..
  unfold proof_Proof_2.f
  refine Ev.bind (show Ev (fun k => each_f (listOne k a) (mEE Z)) (lsB a Z) from ?_) (Ev.now _)
  unfold each_f
  rw [hlen]
  exact Ev.pos hZ (Ev.bind (Ev.const (Num_f _)) (Ev.pos (by omega) (eachE_go a Z _ h hz)))
/-! All pieces. -/
def catB (L : List ByteArray) (s : ByteArray) : ByteArray := L.foldl (fun s t => s ++ t) s
theorem catB_size : ∀ (L : List ByteArray) (s : ByteArray), s.size ≤ (catB L s).size
  | [], s => Nat.le_refl _
  | t :: L, s => by
    have h := catB_size L (s ++ t)
    rw [ByteArray.size_append] at h
    show s.size ≤ (catB L (s ++ t)).size
    omega
theorem joinS_eq : ∀ (L : List ByteArray) (s : ByteArray), (catB L s).size ≤ 140737488355328 → joinS L s = some (catB L s)
  | [], s, _ => rfl
  | t :: L, s, h => by
    have h2 := catB_size L (s ++ t)
    have h3 : (catB L (s ++ t)).size ≤ 140737488355328 := h
    rw [ByteArray.size_append] at h2
    unfold joinS
    rw [if_pos (by omega)]
    exact joinS_eq L _ h3
section
variable (a : Int) (root : ByteArray) (z : List (List (T 7))) (wi : List (T 7)) (c : List (List (T 7))) (v : T 7) (pa : List (T 7)) (g : List (List (T 7))) (p : T 7) (ro : List (T 7)) (o : List (List (T 7))) (pr : List ByteArray)
def pieces : List ByteArray := [numB a, textB root, lsB a z, elemsB a wi, lsB a c, elemsB a [v], elemsB a pa, lsB a g, elemsB a [p], elemsB a ro, lsB a o, listB pr]
def proofB : ByteArray := catB (pieces a root z wi c v pa g p ro o pr) noB
/-- None of a proof's pieces is longer than a text may be. -/
def fewB : Prop := (∀ t ∈ pieces a root z wi c v pa g p ro o pr, t.size ≤ 2097152) ∧ root.size ≤ 2097152 ∧ pr.length ≤ 2097152 ∧ wi.length ≤ 2147483647 ∧ pa.length ≤ 2147483647 ∧ ro.length ≤ 2147483647 ∧ (∀ Z ∈ [z, c, g, o], Z.length ≤ 4096 ∧ ∀ M ∈ Z, M.length ≤ 2147483647)
end
section
variable {a : Int} {root : ByteArray} {z : List (List (T 7))} {wi : List (T 7)} {c : List (List (T 7))} {v : T 7} {pa : List (T 7)} {g : List (List (T 7))} {p : T 7} {ro : List (T 7)} {o : List (List (T 7))} {pr : List ByteArray}
theorem fewB_small (h : fewB a root z wi c v pa g p ro o pr) : smallB z wi c pa g ro o pr := by
  obtain ⟨_, _, h1, h2, h3, h4, h5⟩ := h
  exact ⟨by omega, by omega, by omega, by omega, fun Z hZ => ⟨by have := (h5 Z hZ).1; omega, fun M hM => by have := (h5 Z hZ).2 M hM; omega⟩⟩
theorem cat_le {L : List ByteArray} {m : Nat} : ∀ (L : List ByteArray) (s : ByteArray), (∀ t ∈ L, t.size ≤ m) → (catB L s).size ≤ s.size + L.length * m
  | [], s, _ => by
    show s.size ≤ _
    omega
  | t :: L, s, h => by
    have h1 := cat_le (L := L) L (s ++ t) (fun x hx => h x (List.mem_cons_of_mem _ hx))
    have h2 := h t (List.mem_cons_self ..)
    rw [ByteArray.size_append] at h1
    show (catB L (s ++ t)).size ≤ _
    rw [List.length_cons, Nat.succ_mul]
    omega
theorem proof_size (h : fewB a root z wi c v pa g p ro o pr) : (proofB a root z wi c v pa g p ro o pr).size ≤ 25165824 := by
  have := cat_le (L := []) (pieces a root z wi c v pa g p ro o pr) noB h.1
  have e : (pieces a root z wi c v pa g p ro o pr).length = 12 := rfl
  have e2 : noB.size = 0 := rfl
  unfold proofB
  omega
/-- What the code writes. -/
theorem Proof_ev (h : fewB a root z wi c v pa g p ro o pr) : Ev (fun k => proof_Proof.f k a root (mEE z) (mE wi) (mEE c) (hiW v) (loW v) (mE pa) (mEE g) (hiW p) (loW p) (mE ro) (mEE o) pr) (if shB a root z wi c v pa g p ro o pr = true then (proofB a root z wi c v pa g p ro o pr, 0) else (noB, 1)) := by
  have hs := shaped_ev a root z wi c v pa g p ro o pr (fewB_small h)
  have hz := proof_size h
  obtain ⟨h0, h1, h2, h3, h4, h5, h6⟩ := h
  have L := fun Z (hZ : Z ∈ [z, c, g, o]) (hp : lsB a Z ∈ pieces a root z wi c v pa g p ro o pr) => lists_ev a (Z := Z) (by have := (h6 Z hZ).1; omega) (fun M hM => by have := (h6 Z hZ).2 M hM; omega) (by have := h0 _ hp; omega)
  have hlist := List_ev (L := pr) (by omega) (by have := h0 (listB pr) (by unfold pieces; simp); omega)
  unfold proof_Proof.f
  refine Ev.bind hs ?_
  by_cases hc : shB a root z wi c v pa g p ro o pr = true
  · rw [if_pos hc]
    have hj : joinS (pieces a root z wi c v pa g p ro o pr) (⟨#[]⟩ : ByteArray) = some (proofB a root z wi c v pa g p ro o pr) := joinS_eq _ _ (by have : (catB (pieces a root z wi c v pa g p ro o pr) noB).size ≤ 25165824 := hz; show (catB (pieces a root z wi c v pa g p ro o pr) noB).size ≤ _; omega)
    exact Ev.pos hc (Ev.bind (Ev.const (Num_f a)) (Ev.bind (Ev.const (Text_f (by omega))) (Ev.bind (L z (by simp) (by unfold pieces; simp)) (Ev.bind (one_ev a (by omega)) (Ev.bind (L c (by simp) (by unfold pieces; simp)) (Ev.bind (one_ev a (M := [v]) (by show 1 < 4294967296; decide)) (Ev.bind (one_ev a (by omega)) (Ev.bind (L g (by simp) (by unfold pieces; simp)) (Ev.bind (one_ev a (M := [p]) (by show 1 < 4294967296; decide)) (Ev.bind (one_ev a (by omega)) (Ev.bind (L o (by simp) (by unfold pieces; simp)) (Ev.bind hlist (Ev.bind (Ev.const hj) (Ev.now _))))))))))))))
  · rw [if_neg hc]
    exact Ev.neg hc (Ev.now _)
/-! What the document writes. -/
theorem put_l0 (a : Int) (Z : List (List (T 7))) (hZ : Z.length < 4294967296) (h : ∀ M ∈ Z, M.length < 4294967296) : ∀ (d i : Nat) (s : ByteArray), i + d = Z.length → (foldB (elemsB a) (Z.drop i) s).size ≤ 140737488355328 → Ev (fun k => steepleref29_put.l0 k a (mRR Z) s (i : Int)) (foldB (elemsB a) (Z.drop i) s)
  | 0, i, s, hi, _ => by
    have hlen : (mRR Z).length = Z.length := List.length_map ..
    refine Ev.succ ?_
    simp only [steepleref29_put.l0]
    rw [List.drop_of_length_le (by omega)]
    exact Ev.neg (by omega) (Ev.now _)
  | d + 1, i, s, hi, hz => by
    have hil : i < Z.length := by omega
    have hlen : (mRR Z).length = Z.length := List.length_map ..
    rw [List.drop_eq_getElem_cons hil, foldB_cons] at hz ⊢
    have h2 := foldB_size (elemsB a) (Z.drop (i + 1)) (s ++ elemsB a Z[i])
    rw [ByteArray.size_append] at h2
    have ih := put_l0 a Z hZ h d (i + 1) (s ++ elemsB a Z[i]) (by omega) hz
    refine Ev.succ ?_
    simp only [steepleref29_put.l0]
    rw [rdRR hil, wrI i (by omega)]
    exact Ev.pos (by omega) (Ev.pos (by omega) (Ev.bind (refElems_ev a (L := Z[i]) (by have := h _ (List.getElem_mem hil); omega)) (Ev.pos (by omega) ih)))
theorem put_ev (a : Int) {Z : List (List (T 7))} (hZ : Z.length < 4294967296) (h : ∀ M ∈ Z, M.length < 4294967296) (hz : (lsB a Z).size ≤ 140737488355328) : Ev (fun k => steepleref29_put.f k a (mRR Z)) (lsB a Z) := by
  have hlen : (mRR Z).length = Z.length := List.length_map ..
  have hl := put_l0 a Z hZ h Z.length 0 (numB (Z.length : Int)) (by omega) hz
  unfold steepleref29_put.f
  rw [hlen]
  exact Ev.bind (Ev.const (refNum_f _)) hl
theorem refBytes_ev2 (h : fewB a root z wi c v pa g p ro o pr) : Ev (fun k => steepleref29_Bytes.f k a root (mRR z) (mR wi) (mRR c) (hiW v) (loW v) (mR pa) (mRR g) (hiW p) (loW p) (mR ro) (mRR o) pr) (proofB a root z wi c v pa g p ro o pr) := by
  obtain ⟨h0, h1, h2, h3, h4, h5, h6⟩ := h
  have L := fun Z (hZ : Z ∈ [z, c, g, o]) (hp : lsB a Z ∈ pieces a root z wi c v pa g p ro o pr) => put_ev a (Z := Z) (by have := (h6 Z hZ).1; omega) (fun M hM => by have := (h6 Z hZ).2 M hM; omega) (by have := h0 _ hp; omega)
  have hlist := refList_ev (L := pr) (by omega) (by have := h0 (listB pr) (by unfold pieces; simp); omega)
  have b1 := h0 (numB a) (by unfold pieces; simp)
  have b2 := h0 (textB root) (by unfold pieces; simp)
  have b3 := h0 (lsB a z) (by unfold pieces; simp)
  have b4 := h0 (elemsB a wi) (by unfold pieces; simp)
  have b5 := h0 (lsB a c) (by unfold pieces; simp)
  have b6 := h0 (elemsB a [v]) (by unfold pieces; simp)
  have b7 := h0 (elemsB a pa) (by unfold pieces; simp)
  have b8 := h0 (lsB a g) (by unfold pieces; simp)
  have b9 := h0 (elemsB a [p]) (by unfold pieces; simp)
  have b10 := h0 (elemsB a ro) (by unfold pieces; simp)
  have b11 := h0 (lsB a o) (by unfold pieces; simp)
  have b12 := h0 (listB pr) (by unfold pieces; simp)
  have e : proofB a root z wi c v pa g p ro o pr = numB a ++ textB root ++ lsB a z ++ elemsB a wi ++ lsB a c ++ elemsB a [v] ++ elemsB a pa ++ lsB a g ++ elemsB a [p] ++ elemsB a ro ++ lsB a o ++ listB pr := by
    unfold proofB pieces catB
    simp only [List.foldl_cons, List.foldl_nil]
    rw [show noB ++ numB a = numB a from ByteArray.empty_append]
  rw [e]
  unfold steepleref29_Bytes.f
  exact Ev.bind (Ev.const (refNum_f a)) (Ev.bind (Ev.const (refText_f (by omega))) (Ev.pos (by omega) (Ev.bind (L z (by simp) (by unfold pieces; simp)) (Ev.pos (by simp only [ByteArray.size_append]; omega) (Ev.bind (refElems_ev a (L := wi) (by omega)) (Ev.pos (by simp only [ByteArray.size_append]; omega) (Ev.bind (L c (by simp) (by unfold pieces; simp)) (Ev.pos (by simp only [ByteArray.size_append]; omega) (Ev.bind (refElems_ev a (L := [v]) (by show 1 < 2 ^ 40; decide)) (Ev.pos (by simp only [ByteArray.size_append]; omega) (Ev.bind (refElems_ev a (L := pa) (by omega)) (Ev.pos (by simp only [ByteArray.size_append]; omega) (Ev.bind (L g (by simp) (by unfold pieces; simp)) (Ev.pos (by simp only [ByteArray.size_append]; omega) (Ev.bind (refElems_ev a (L := [p]) (by show 1 < 2 ^ 40; decide)) (Ev.pos (by simp only [ByteArray.size_append]; omega) (Ev.bind (refElems_ev a (L := ro) (by omega)) (Ev.pos (by simp only [ByteArray.size_append]; omega) (Ev.bind (L o (by simp) (by unfold pieces; simp)) (Ev.pos (by simp only [ByteArray.size_append]; omega) (Ev.bind hlist (Ev.pos (by simp only [ByteArray.size_append]; omega) (Ev.now _)))))))))))))))))))))))
end
/-! The lists as the document has them. -/
theorem refE_l0 (M : List (T 7)) (hM : M.length < 4294967296) : ∀ (d i : Nat) (acc : List S70), i + d = M.length → acc.length = i → Ev (fun k => steeplelaw01_Ref.l0 k (mE M) acc (i : Int)) (acc ++ mR (M.drop i))
  | 0, i, acc, h, ha => by
    have hlen : (mE M).length = M.length := List.length_map ..
    refine Ev.succ ?_
    simp only [steeplelaw01_Ref.l0]
    rw [List.drop_of_length_le (by omega), show acc ++ mR [] = acc from List.append_nil _]
    exact Ev.neg (by omega) (Ev.now _)
  | d + 1, i, acc, h, ha => by
    have hi : i < M.length := by omega
    have hlen : (mE M).length = M.length := List.length_map ..
    have ih := refE_l0 M hM d (i + 1) (acc ++ [elR M[i]]) (by omega) (by rw [List.length_append, List.length_singleton, ha])
    rw [List.append_assoc] at ih
    refine Ev.succ ?_
    simp only [steeplelaw01_Ref.l0]
    rw [show rd_T61 (mE M) (i : Int) = elS M[i] from rd_elS hi, elS_f0, elS_f1, wrI i (by omega), List.drop_eq_getElem_cons hi]
    exact Ev.pos (by omega) (Ev.pos (by omega) (Ev.pos (by omega) ih))
theorem refE_ev {M : List (T 7)} (hM : M.length < 4294967296) : Ev (fun k => steeplelaw01_Ref.f k (mE M)) (mR M) := by
  have h := refE_l0 M hM M.length 0 [] (by omega) rfl
  rw [List.drop_zero, List.nil_append] at h
  exact h
theorem refEE_l0 (Z : List (List (T 7))) (hZ : Z.length < 4294967296) (hl : ∀ M ∈ Z, M.length < 4294967296) : ∀ (d i : Nat) (acc : List (List S70)), i + d = Z.length → acc.length = i → Ev (fun k => steeplelaw09_Refs.l0 k (mEE Z) acc (i : Int)) (acc ++ mRR (Z.drop i))
  | 0, i, acc, h, ha => by
    have hlen : (mEE Z).length = Z.length := List.length_map ..
    refine Ev.succ ?_
    simp only [steeplelaw09_Refs.l0]
    rw [List.drop_of_length_le (by omega), show acc ++ mRR [] = acc from List.append_nil _]
    exact Ev.neg (by omega) (Ev.now _)
  | d + 1, i, acc, h, ha => by
    have hi : i < Z.length := by omega
    have hlen : (mEE Z).length = Z.length := List.length_map ..
    have ih := refEE_l0 Z hZ hl d (i + 1) (acc ++ [mR Z[i]]) (by omega) (by rw [List.length_append, List.length_singleton, ha])
    rw [List.append_assoc] at ih
    refine Ev.succ ?_
    simp only [steeplelaw09_Refs.l0]
    rw [rdEE hi, wrI i (by omega), List.drop_eq_getElem_cons hi]
    exact Ev.pos (by omega) (Ev.pos (by omega) (Ev.bind (refE_ev (hl _ (List.getElem_mem hi))) (Ev.pos (by omega) ih)))
theorem refEE_ev {Z : List (List (T 7))} (hZ : Z.length < 4294967296) (hl : ∀ M ∈ Z, M.length < 4294967296) : Ev (fun k => steeplelaw09_Refs.f k (mEE Z)) (mRR Z) := by
  have h := refEE_l0 Z hZ hl Z.length 0 [] (by omega) rfl
  rw [List.drop_zero, List.nil_append] at h
  exact h
theorem Ref29_ev (root : ByteArray) {z : List (List (T 7))} {wi : List (T 7)} {c : List (List (T 7))} (v0 v1 : Int) {pa : List (T 7)} {g : List (List (T 7))} (p0 p1 : Int) {ro : List (T 7)} {o : List (List (T 7))} {pr : List ByteArray} (hs : smallB z wi c pa g ro o pr) :
    Ev (fun k => steeplelaw29_Ref.f k root (mEE z) (mE wi) (mEE c) v0 v1 (mE pa) (mEE g) p0 p1 (mE ro) (mEE o) pr) (root, mRR z, mR wi, mRR c, v0, v1, mR pa, mRR g, p0, p1, mR ro, mRR o, pr) := by
  obtain ⟨s1, s2, s3, s4, s5⟩ := hs
  have L := fun Z (hZ : Z ∈ [z, c, g, o]) => refEE_ev (s5 Z hZ).1 (s5 Z hZ).2
  have h24 : Ev (fun k => steeplelaw24_Ref.f k (mE ro) (mEE o) pr) (mR ro, mRR o, pr) := by
    unfold steeplelaw24_Ref.f
    exact Ev.bind (refE_ev s4) (Ev.bind (L o (by simp)) (Ev.now _))
  unfold steeplelaw29_Ref.f
  exact Ev.bind (L z (by simp)) (Ev.bind (refE_ev s2) (Ev.bind (L c (by simp)) (Ev.bind (refE_ev s3) (Ev.bind (L g (by simp)) (Ev.bind h24 (Ev.now _))))))
/-! Reading. -/
def toT (s : S61) : T 7 := ((dec 6 s.f0.toNat, dec 6 s.f1.toNat) : T 6 × T 6)
theorem toT_elS (x : T 7) : toT (elS x) = x := by
  have h : toT (elS x) = ((dec 6 (enc 6 x.1), dec 6 (enc 6 x.2)) : T 6 × T 6) := rfl
  rw [h, dec_enc, dec_enc]
  rfl
def lB (a : Int) (l : List S61) : ByteArray := elemsB a (l.map toT)
theorem mE_toT (M : List (T 7)) : (mE M).map toT = M := by
  unfold mE
  rw [List.map_map]
  have : (toT ∘ elS) = id := funext fun x => toT_elS x
  rw [this, List.map_id]
theorem lB_mE (a : Int) (M : List (T 7)) : lB a (mE M) = elemsB a M := by unfold lB; rw [mE_toT]
def isL (l : List S61) : Prop := ∃ M : List (T 7), l = mE M ∧ M.length ≤ 2147483647
theorem elems_snd (a : Int) (b : ByteArray) (e : Int) : ∃ l r e', Ev (fun k => proof_ReadProof_1.f k b e a) (l, r, e') ∧ (e' = 0 → e = 0 ∧ isL l ∧ b = lB a l ++ r) := by
  obtain ⟨L, r, e', h, s⟩ := Elems_snd b e a 4096
  refine ⟨L, r, e', ?_, fun q => ?_⟩
  · unfold proof_ReadProof_1.f
    exact Ev.bind h (Ev.now _)
  · obtain ⟨q0, M, rfl, hM, hb⟩ := s q
    exact ⟨q0, ⟨M, rfl, hM⟩, by rw [show M.map elS = mE M from rfl, lB_mE]; exact hb⟩
theorem reads77 (a : Int) : Reads (fun k b e => proof_ReadProof_1.f k b e a) (fun k acc n i b e => api_Elem_77.l0 k a acc n i b e) := ⟨_, by decide, fun _ _ _ _ _ _ => rfl⟩
theorem isLL : ∀ (L : List (List S61)), (∀ l ∈ L, isL l) → ∃ Z : List (List (T 7)), L = mEE Z ∧ ∀ M ∈ Z, M.length ≤ 2147483647
  | [], _ => ⟨[], rfl, fun _ h => by cases h⟩
  | l :: L, h => by
    obtain ⟨M, rfl, hM⟩ := h l (List.mem_cons_self ..)
    obtain ⟨Z, rfl, hZ⟩ := isLL L (fun x hx => h x (List.mem_cons_of_mem _ hx))
    refine ⟨M :: Z, rfl, fun x hx => ?_⟩
    rcases List.mem_cons.1 hx with rfl | hx
    · exact hM
    · exact hZ x hx
theorem foldB_mEE (a : Int) : ∀ (Z : List (List (T 7))) (s : ByteArray), foldB (lB a) (mEE Z) s = foldB (elemsB a) Z s
  | [], _ => rfl
  | M :: Z, s => by
    show foldB (lB a) (mEE Z) (s ++ lB a (mE M)) = foldB (elemsB a) Z (s ++ elemsB a M)
    rw [lB_mE]
    exact foldB_mEE a Z _
theorem lists77_snd (a : Int) (b : ByteArray) (e : Int) : ∃ L r e', Ev (fun k => api_Elem_77.f k b e a) (L, r, e') ∧ (e' = 0 → e = 0 ∧ ∃ Z : List (List (T 7)), L = mEE Z ∧ Z.length ≤ 4096 ∧ (∀ M ∈ Z, M.length ≤ 2147483647) ∧ b = lsB a Z ++ r) := by
  obtain ⟨L, r, e', h, s⟩ := lists_snd (reads77 a) (elems_snd a) b e
  refine ⟨L, r, e', h, fun q => ?_⟩
  obtain ⟨q0, hl, hL, hb⟩ := s q
  obtain ⟨Z, rfl, hZ⟩ := isLL L hL
  have hlen : (mEE Z).length = Z.length := List.length_map ..
  refine ⟨q0, Z, rfl, by omega, hZ, ?_⟩
  rw [hb]
  unfold lsB listsB
  rw [foldB_mEE, hlen]
theorem zero_el : ∃ x : T 7, hiW x = 0 ∧ loW x = 0 := by
  obtain ⟨x, h1, h2⟩ := el_of (a := 0) (b := 0) (u64_wf.2 ⟨by decide, by decide⟩) (u64_wf.2 ⟨by decide, by decide⟩)
  exact ⟨x, h1.symm, h2.symm⟩
theorem single_snd (a : Int) (b : ByteArray) (e : Int) : ∃ v0 v1 r e', Ev (fun k => proof_ReadProof_2.f k b e a) (v0, v1, r, e') ∧ (e' = 0 → e = 0 ∧ r.size ≤ b.size ∧ ∃ x : T 7, v0 = hiW x ∧ v1 = loW x) := by
  obtain ⟨L, r, e', h, s⟩ := Elems_snd b e a 1
  by_cases c : (L.length : Int) = 1
  · refine ⟨(rd_T61 L 0).f0, (rd_T61 L 0).f1, r, e', ?_, fun q => ?_⟩
    · have c0 : (0 : Int) < (L.length : Int) := by omega
      unfold proof_ReadProof_2.f
      exact Ev.bind h (Ev.pos c (Ev.pos c0 (Ev.now _)))
    · obtain ⟨q0, M, rfl, hM, hb⟩ := s q
      have hlen : (M.map elS).length = M.length := List.length_map ..
      have hi : 0 < M.length := by omega
      refine ⟨q0, by rw [hb, ByteArray.size_append]; omega, M[0], ?_, ?_⟩
      · rw [show rd_T61 (M.map elS) 0 = elS M[0] from rd_elS hi, elS_f0]
      · rw [show rd_T61 (M.map elS) 0 = elS M[0] from rd_elS hi, elS_f1]
  · obtain ⟨x, x0, x1⟩ := zero_el
    refine ⟨0, 0, r, e', ?_, fun q => ?_⟩
    · unfold proof_ReadProof_2.f
      exact Ev.bind h (Ev.neg c (Ev.now _))
    · obtain ⟨q0, M, rfl, hM, hb⟩ := s q
      exact ⟨q0, by rw [hb, ByteArray.size_append]; omega, x, x0.symm, x1.symm⟩
theorem elems_one (a : Int) (x : T 7) : (elemsB a [x]).size ≤ 20 := by
  have h1 := numB_le (([x] : List (T 7)).length : Int)
  have h2 := bytesE_le a x
  unfold elemsB
  split
  · show 0 ≤ 20
    decide
  · show (if ofB a x = true then elsB a [] (numB (([x] : List (T 7)).length : Int) ++ bytesE a x) else noB).size ≤ 20
    split
    · show (numB (([x] : List (T 7)).length : Int) ++ bytesE a x).size ≤ 20
      rw [ByteArray.size_append]
      omega
    · show 0 ≤ 20
      decide
theorem lst_len : ∀ (L : List ByteArray) (s : ByteArray), (∀ t ∈ L, t.size ≤ 2147483647) → s.size + 4 * L.length ≤ (lstB L s).size
  | [], s, _ => by
    show s.size + 0 ≤ s.size
    omega
  | t :: L, s, h => by
    have ih := lst_len L (s ++ textB t) (fun x hx => h x (List.mem_cons_of_mem _ hx))
    have h1 : (numB (t.size : Int)).size = 4 := numB_size (by omega) (by have := h t (List.mem_cons_self ..); omega)
    rw [ByteArray.size_append, textB_size] at ih
    rw [lstB_cons, List.length_cons]
    omega
end Go.Proofs.Ythgiifakcgjlaaa.Br
end

section
/- Which proof any bytes are (proof.ReadProof). Conditions: those that each theorem names. -/
set_option linter.unusedVariables false
set_option linter.unusedSimpArgs false
namespace Go.Proofs.Ythgiifakcgjlaaa.Br
open Go.RowKit Go.Proofs.YthgiifakcgjlaaaT Go.Proofs.Ythgiifakcgjlaaa.P Go.Proofs.YthgiifakcgjlaaaW.PrintWords Go.Proofs.YthgiifakcgjlaaaW.PrintLast
/-- What no bytes of a proof are read as. -/
def noProof (e : Int) : Int × ByteArray × List (List S61) × List S61 × List (List S61) × Int × Int × List S61 × List (List S61) × Int × Int × List S61 × List (List S61) × List ByteArray × Int := (0, noB, [], [], [], 0, 0, [], [], 0, 0, [], [], [], e)
theorem toList_inj {s t : ByteArray} (h : s.toList = t.toList) : s = t := by
  rw [ByteArray.toList_eq, ByteArray.toList_eq] at h
  exact ByteArray.ext (Array.toList_inj.1 h)
theorem listB_len {L : List ByteArray} (h : ∀ t ∈ L, t.size ≤ 2147483647) : 4 * L.length ≤ (listB L).size := by
  have := lst_len L (numB (L.length : Int)) h
  unfold listB
  omega
theorem lstB_mem {t : ByteArray} : ∀ {L : List ByteArray}, t ∈ L → ∀ s : ByteArray, t.size ≤ (lstB L s).size
  | u :: L, h, s => by
    rw [lstB_cons]
    rcases List.mem_cons.1 h with rfl | h
    · have h1 := lstB_size L (s ++ textB t)
      rw [ByteArray.size_append, textB_size] at h1
      omega
    · exact lstB_mem h _
theorem ReadProof_snd (t : ByteArray) (ht : t.size ≤ 1048576) : ∃ x, Ev (fun k => proof_ReadProof.f k t) x ∧ (x = noProof 3 ∨
    ∃ (a : Int) (root : ByteArray) (z : List (List (T 7))) (wi : List (T 7)) (c : List (List (T 7))) (v : T 7) (pa : List (T 7)) (g : List (List (T 7))) (p : T 7) (ro : List (T 7)) (o : List (List (T 7))) (pr : List ByteArray),
      x = (a, root, mEE z, mE wi, mEE c, hiW v, loW v, mE pa, mEE g, hiW p, loW p, mE ro, mEE o, pr, 0) ∧ fewB a root z wi c v pa g p ro o pr ∧ shB a root z wi c v pa g p ro o pr = true ∧ proofB a root z wi c v pa g p ro o pr = t) := by
  obtain ⟨n, r1, e1, h1, _, _, s1⟩ := Num_snd t 0 7
  obtain ⟨root, r2, e2, h2, s2⟩ := Text_snd r1 e1 32
  obtain ⟨Z0, r3, e3, h3, s3⟩ := lists77_snd (n : Int) r2 e2
  obtain ⟨W0, r4, e4, h4, s4⟩ := elems_snd (n : Int) r3 e3
  obtain ⟨C0, r5, e5, h5, s5⟩ := lists77_snd (n : Int) r4 e4
  obtain ⟨v0, v1, r6, e6, h6, s6⟩ := single_snd (n : Int) r5 e5
  obtain ⟨P0, r7, e7, h7, s7⟩ := elems_snd (n : Int) r6 e6
  obtain ⟨G0, r8, e8, h8, s8⟩ := lists77_snd (n : Int) r7 e7
  obtain ⟨p0, p1, r9, e9, h9, s9⟩ := single_snd (n : Int) r8 e8
  obtain ⟨R0, r10, e10, h10, s10⟩ := elems_snd (n : Int) r9 e9
  obtain ⟨O0, r11, e11, h11, s11⟩ := lists77_snd (n : Int) r10 e10
  obtain ⟨pr, r12, e12, h12, s12⟩ := List_snd r11 e11 4096 32
  have ha : proof_ask.f t = some 0 := by
    unfold proof_ask.f
    rw [if_neg (by omega)]
  by_cases cE : e12 = 0 ∧ r12.size = 0
  · obtain ⟨q11, hl12, x12⟩ := s12 cE.1
    obtain ⟨q10, o, rfl, ho1, ho2, x11⟩ := s11 q11
    obtain ⟨q9, ⟨ro, rfl, hro⟩, x10⟩ := s10 q10
    obtain ⟨q8, x9, p, rfl, rfl⟩ := s9 q9
    obtain ⟨q7, g, rfl, hg1, hg2, x8⟩ := s8 q8
    obtain ⟨q6, ⟨pa, rfl, hpa⟩, x7⟩ := s7 q7
    obtain ⟨q5, x6, v, rfl, rfl⟩ := s6 q6
    obtain ⟨q4, c, rfl, hc1, hc2, x5⟩ := s5 q5
    obtain ⟨q3, ⟨wi, rfl, hwi⟩, x4⟩ := s4 q4
    obtain ⟨q2, z, rfl, hz1, hz2, x3⟩ := s3 q3
    obtain ⟨q1, hr1, hr2, x2⟩ := s2 q2
    obtain ⟨_, hn7, x1⟩ := s1 q1
    rw [lB_mE] at x4 x7 x10
    have z1 := congrArg ByteArray.size x1
    have z2 := congrArg ByteArray.size x2
    have z3 := congrArg ByteArray.size x3
    have z4 := congrArg ByteArray.size x4
    have z5 := congrArg ByteArray.size x5
    have z7 := congrArg ByteArray.size x7
    have z8 := congrArg ByteArray.size x8
    have z10 := congrArg ByteArray.size x10
    have z11 := congrArg ByteArray.size x11
    have z12 := congrArg ByteArray.size x12
    rw [ByteArray.size_append] at z1 z2 z3 z4 z5 z7 z8 z10 z11 z12
    have zr := textB_size root
    have y1 := elems_one (n : Int) v
    have y2 := elems_one (n : Int) p
    have hn4 := numB_le (n : Int)
    have hpl : pr.length ≤ 2097152 := by
      by_cases q : ∀ s ∈ pr, s.size ≤ 2147483647
      · have := listB_len q
        omega
      · exfalso
        refine q (fun s hs => ?_)
        have := lstB_mem hs (numB (pr.length : Int))
        unfold listB at z12
        omega
    have hfew : fewB (n : Int) root z wi c v pa g p ro o pr := by
      refine ⟨fun s hs => ?_, by omega, hpl, hwi, hpa, hro, fun Z hZ => ?_⟩
      · unfold pieces at hs
        simp only [List.mem_cons, List.not_mem_nil, or_false] at hs
        rcases hs with rfl | rfl | rfl | rfl | rfl | rfl | rfl | rfl | rfl | rfl | rfl | rfl
        all_goals omega
      · simp only [List.mem_cons, List.not_mem_nil, or_false] at hZ
        rcases hZ with rfl | rfl | rfl | rfl
        · exact ⟨hz1, hz2⟩
        · exact ⟨hc1, hc2⟩
        · exact ⟨hg1, hg2⟩
        · exact ⟨ho1, ho2⟩
    have hP := Proof_ev hfew
    have hEnd : (if e12 = 0 then (if (r12.size : Int) > 0 then (3 : Int) else 0) else e12) = 0 := by rw [if_pos cE.1, if_neg (by omega)]
    have pre : ∀ {out}, Ev (fun k => ((proof_Proof.f k (n : Int) root (mEE z) (mE wi) (mEE c) (hiW v) (loW v) (mE pa) (mEE g) (hiW p) (loW p) (mE ro) (mEE o) pr).bind fun bt380 => (if bt380.2 = 0 then (if bt380.1.toList = t.toList then (some ((n : Int), root, mEE z, mE wi, mEE c, hiW v, loW v, mE pa, mEE g, hiW p, loW p, mE ro, mEE o, pr, (0 : Int))) else (some (noProof 3))) else (some (noProof 3))))) out → Ev (fun k => proof_ReadProof.f k t) out := by
      intro out hout
      unfold proof_ReadProof.f
      exact Ev.bind (Ev.const ha) (Ev.pos rfl (Ev.bind (Ev.const (show octet_Read.f t = some (t, 0) from rfl)) (Ev.bind (Ev.const h1) (Ev.bind (Ev.const h2) (Ev.bind h3 (Ev.bind h4 (Ev.bind h5 (Ev.bind h6 (Ev.bind h7 (Ev.bind h8 (Ev.bind h9 (Ev.bind h10 (Ev.bind h11 (Ev.bind h12 (Ev.bind (Ev.const (End_f r12 e12)) (Ev.pos hEnd hout))))))))))))))))
    by_cases hc : shB (n : Int) root z wi c v pa g p ro o pr = true
    · rw [if_pos hc] at hP
      by_cases ht2 : (proofB (n : Int) root z wi c v pa g p ro o pr).toList = t.toList
      · exact ⟨_, pre (Ev.bind hP (Ev.pos rfl (Ev.pos ht2 (Ev.now _)))), Or.inr ⟨_, root, z, wi, c, v, pa, g, p, ro, o, pr, rfl, hfew, hc, toList_inj ht2⟩⟩
      · exact ⟨_, pre (Ev.bind hP (Ev.pos rfl (Ev.neg ht2 (Ev.now _)))), Or.inl rfl⟩
    · rw [if_neg hc] at hP
      exact ⟨_, pre (Ev.bind hP (Ev.neg (by decide) (Ev.now _))), Or.inl rfl⟩
  · refine ⟨noProof 3, ?_, Or.inl rfl⟩
    have hEnd : ¬ (if e12 = 0 then (if (r12.size : Int) > 0 then (3 : Int) else 0) else e12) = 0 := by
      by_cases c1 : e12 = 0
      · rw [if_pos c1, if_pos (by have : ¬ r12.size = 0 := fun q => cE ⟨c1, q⟩; omega)]
        decide
      · rw [if_neg c1]
        exact c1
    unfold proof_ReadProof.f
    exact Ev.bind (Ev.const ha) (Ev.pos rfl (Ev.bind (Ev.const (show octet_Read.f t = some (t, 0) from rfl)) (Ev.bind (Ev.const h1) (Ev.bind (Ev.const h2) (Ev.bind h3 (Ev.bind h4 (Ev.bind h5 (Ev.bind h6 (Ev.bind h7 (Ev.bind h8 (Ev.bind h9 (Ev.bind h10 (Ev.bind h11 (Ev.bind h12 (Ev.bind (Ev.const (End_f r12 e12)) (Ev.neg hEnd (Ev.now _)))))))))))))))))
end Go.Proofs.Ythgiifakcgjlaaa.Br
end
