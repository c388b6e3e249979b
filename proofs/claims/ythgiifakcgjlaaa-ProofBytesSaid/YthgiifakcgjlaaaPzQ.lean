/- Texts of this session, merged: PzB PzR PzC PzG. Conditions: those that each theorem names. -/
import Derived.Test.YthgiifakcgjlaaaPzS
import Derived.Test.YthgiifakcgjlaaaPwA
import Derived.Test.YthgiifakcgjlaaaHProof
import Derived.Test.YthgiifakcgjlaaaPx11
import Derived.Test.YthgiifakcgjlaaaPx12
import Derived.Test.YthgiifakcgjlaaaPx13
import Derived.Test.YthgiifakcgjlaaaPx14a
import Derived.Test.YthgiifakcgjlaaaPx14b
import Derived.Test.YthgiifakcgjlaaaPx15
import Derived.Test.YthgiifakcgjlaaaPx16
import Derived.Test.YthgiifakcgjlaaaPx5
import Derived.Test.YthgiifakcgjlaaaPx17
import Derived.Test.YthgiifakcgjlaaaPx18
import Derived.Test.YthgiifakcgjlaaaHRefs
section
/- A proof's bytes: written by the code and by the document; read (layer 29). Conditions: those that each theorem names. -/
set_option linter.unusedVariables false
set_option linter.unusedSimpArgs false
namespace Go.Proofs.Ythgiifakcgjlaaa.Br
open Go.RowKit Go.Proofs.YthgiifakcgjlaaaT Go.Proofs.Ythgiifakcgjlaaa.P Go.Proofs.YthgiifakcgjlaaaW.PrintWords Go.Proofs.YthgiifakcgjlaaaW.PrintLast
/-! Lists of elements, written. -/
def lsB (a : Int) (Z : List (List (T 7))) : ByteArray := listsB (elemsB a) Z
theorem one_ev (a : Int) {M : List (T 7)} (hM : M.length < 4294967296) : Ev (fun k => proof_Proof_1.f k (mE M) a) (elemsB a M) := by
  unfold proof_Proof_1.f
  exact Ev.bind (Elems_ev a (L := M) (by omega)) (Ev.now _)
theorem eachE_go (a : Int) : ∀ (Z : List (List (T 7))) (s : ByteArray), (∀ M ∈ Z, M.length < 4294967296) → (foldB (elemsB a) Z s).size ≤ 140737488355328 → Ev (fun k => each_go (listOne k a) (mEE Z) s) (foldB (elemsB a) Z s)
  | [], s, _, _ => Ev.now _
  | M :: Z, s, h, hz => by
    have h2 := foldB_size (elemsB a) Z (s ++ elemsB a M)
    rw [foldB_cons] at hz
    rw [ByteArray.size_append] at h2
    exact Ev.bind (one_ev a (h M (List.mem_cons_self ..))) (Ev.pos (by omega) (eachE_go a Z _ (fun x hx => h x (List.mem_cons_of_mem _ hx)) hz))
theorem lists_ev (a : Int) {Z : List (List (T 7))} (hZ : Z.length < 1000000000) (h : ∀ M ∈ Z, M.length < 4294967296) (hz : (lsB a Z).size ≤ 140737488355328) : Ev (fun k => proof_Proof_2.f k (mEE Z) a) (lsB a Z) := by
  have hn := numB_le (Z.length : Int)
  have hlen : (mEE Z).length = Z.length := List.length_map ..
  unfold proof_Proof_2.f
  refine Ev.bind (show Ev (fun k => each_f (listOne k a) (mEE Z)) (lsB a Z) from ?_) (Ev.now _)
  unfold each_f
  rw [hlen]
  exact Ev.pos hZ (Ev.bind (Ev.const (Num_f _)) (Ev.pos (by omega) (eachE_go a Z _ h hz)))
/-! All pieces. -/
def catB (L : List ByteArray) (s : ByteArray) : ByteArray := L.foldl (fun s t => s ++ t) s
theorem catB_size : ∀ (L : List ByteArray) (s : ByteArray), s.size ≤ (catB L s).size
  | [], s => Nat.le_refl _
  | t :: L, s => by
    have h := catB_size L (s ++ t)
    rw [ByteArray.size_append] at h
    show s.size ≤ (catB L (s ++ t)).size
    omega
theorem joinS_eq : ∀ (L : List ByteArray) (s : ByteArray), (catB L s).size ≤ 140737488355328 → joinS L s = some (catB L s)
  | [], s, _ => rfl
  | t :: L, s, h => by
    have h2 := catB_size L (s ++ t)
    have h3 : (catB L (s ++ t)).size ≤ 140737488355328 := h
    rw [ByteArray.size_append] at h2
    unfold joinS
    rw [if_pos (by omega)]
    exact joinS_eq L _ h3
section
variable (a : Int) (root : ByteArray) (z : List (List (T 7))) (wi : List (T 7)) (c : List (List (T 7))) (v : T 7) (pa : List (T 7)) (g : List (List (T 7))) (p : T 7) (ro : List (T 7)) (o : List (List (T 7))) (pr : List ByteArray)
def pieces : List ByteArray := [numB a, textB root, lsB a z, elemsB a wi, lsB a c, elemsB a [v], elemsB a pa, lsB a g, elemsB a [p], elemsB a ro, lsB a o, listB pr]
def proofB : ByteArray := catB (pieces a root z wi c v pa g p ro o pr) noB
/-- None of a proof's pieces is longer than a text may be. -/
def fewB : Prop := (∀ t ∈ pieces a root z wi c v pa g p ro o pr, t.size ≤ 2097152) ∧ root.size ≤ 2097152 ∧ pr.length ≤ 2097152 ∧ wi.length ≤ 2147483647 ∧ pa.length ≤ 2147483647 ∧ ro.length ≤ 2147483647 ∧ (∀ Z ∈ [z, c, g, o], Z.length ≤ 4096 ∧ ∀ M ∈ Z, M.length ≤ 2147483647)
end
section
variable {a : Int} {root : ByteArray} {z : List (List (T 7))} {wi : List (T 7)} {c : List (List (T 7))} {v : T 7} {pa : List (T 7)} {g : List (List (T 7))} {p : T 7} {ro : List (T 7)} {o : List (List (T 7))} {pr : List ByteArray}
theorem fewB_small (h : fewB a root z wi c v pa g p ro o pr) : smallB z wi c pa g ro o pr := by
  obtain ⟨_, _, h1, h2, h3, h4, h5⟩ := h
  exact ⟨by omega, by omega, by omega, by omega, fun Z hZ => ⟨by have := (h5 Z hZ).1; omega, fun M hM => by have := (h5 Z hZ).2 M hM; omega⟩⟩
theorem cat_le {L : List ByteArray} {m : Nat} : ∀ (L : List ByteArray) (s : ByteArray), (∀ t ∈ L, t.size ≤ m) → (catB L s).size ≤ s.size + L.length * m
  | [], s, _ => by
    show s.size ≤ _
    omega
  | t :: L, s, h => by
    have h1 := cat_le (L := L) L (s ++ t) (fun x hx => h x (List.mem_cons_of_mem _ hx))
    have h2 := h t (List.mem_cons_self ..)
    rw [ByteArray.size_append] at h1
    show (catB L (s ++ t)).size ≤ _
    rw [List.length_cons, Nat.succ_mul]
    omega
theorem proof_size (h : fewB a root z wi c v pa g p ro o pr) : (proofB a root z wi c v pa g p ro o pr).size ≤ 25165824 := by
  have := cat_le (L := []) (pieces a root z wi c v pa g p ro o pr) noB h.1
  have e : (pieces a root z wi c v pa g p ro o pr).length = 12 := rfl
  have e2 : noB.size = 0 := rfl
  unfold proofB
  omega
/-- What the code writes. -/
theorem Proof_ev (h : fewB a root z wi c v pa g p ro o pr) : Ev (fun k => proof_Proof.f k a root (mEE z) (mE wi) (mEE c) (hiW v) (loW v) (mE pa) (mEE g) (hiW p) (loW p) (mE ro) (mEE o) pr) (if shB a root z wi c v pa g p ro o pr = true then (proofB a root z wi c v pa g p ro o pr, 0) else (noB, 1)) := by
  have hs := shaped_ev a root z wi c v pa g p ro o pr (fewB_small h)
  have hz := proof_size h
  obtain ⟨h0, h1, h2, h3, h4, h5, h6⟩ := h
  have L := fun Z (hZ : Z ∈ [z, c, g, o]) (hp : lsB a Z ∈ pieces a root z wi c v pa g p ro o pr) => lists_ev a (Z := Z) (by have := (h6 Z hZ).1; omega) (fun M hM => by have := (h6 Z hZ).2 M hM; omega) (by have := h0 _ hp; omega)
  have hlist := List_ev (L := pr) (by omega) (by have := h0 (listB pr) (by unfold pieces; simp); omega)
  unfold proof_Proof.f
  refine Ev.bind hs ?_
  by_cases hc : shB a root z wi c v pa g p ro o pr = true
  · rw [if_pos hc]
    have hj : joinS (pieces a root z wi c v pa g p ro o pr) (⟨#[]⟩ : ByteArray) = some (proofB a root z wi c v pa g p ro o pr) := joinS_eq _ _ (by have : (catB (pieces a root z wi c v pa g p ro o pr) noB).size ≤ 25165824 := hz; show (catB (pieces a root z wi c v pa g p ro o pr) noB).size ≤ _; omega)
    exact Ev.pos hc (Ev.bind (Ev.const (Num_f a)) (Ev.bind (Ev.const (Text_f (by omega))) (Ev.bind (L z (by simp) (by unfold pieces; simp)) (Ev.bind (one_ev a (by omega)) (Ev.bind (L c (by simp) (by unfold pieces; simp)) (Ev.bind (one_ev a (M := [v]) (by show 1 < 4294967296; decide)) (Ev.bind (one_ev a (by omega)) (Ev.bind (L g (by simp) (by unfold pieces; simp)) (Ev.bind (one_ev a (M := [p]) (by show 1 < 4294967296; decide)) (Ev.bind (one_ev a (by omega)) (Ev.bind (L o (by simp) (by unfold pieces; simp)) (Ev.bind hlist (Ev.bind (Ev.const hj) (Ev.now _))))))))))))))
  · rw [if_neg hc]
    exact Ev.neg hc (Ev.now _)
/-! What the document writes. -/
theorem put_l0 (a : Int) (Z : List (List (T 7))) (hZ : Z.length < 4294967296) (h : ∀ M ∈ Z, M.length < 4294967296) : ∀ (d i : Nat) (s : ByteArray), i + d = Z.length → (foldB (elemsB a) (Z.drop i) s).size ≤ 140737488355328 → Ev (fun k => steepleref29_put.l0 k a (mRR Z) s (i : Int)) (foldB (elemsB a) (Z.drop i) s)
  | 0, i, s, hi, _ => by
    have hlen : (mRR Z).length = Z.length := List.length_map ..
    refine Ev.succ ?_
    simp only [steepleref29_put.l0]
    rw [List.drop_of_length_le (by omega)]
    exact Ev.neg (by omega) (Ev.now _)
  | d + 1, i, s, hi, hz => by
    have hil : i < Z.length := by omega
    have hlen : (mRR Z).length = Z.length := List.length_map ..
    rw [List.drop_eq_getElem_cons hil, foldB_cons] at hz ⊢
    have h2 := foldB_size (elemsB a) (Z.drop (i + 1)) (s ++ elemsB a Z[i])
    rw [ByteArray.size_append] at h2
    have ih := put_l0 a Z hZ h d (i + 1) (s ++ elemsB a Z[i]) (by omega) hz
    refine Ev.succ ?_
    simp only [steepleref29_put.l0]
    rw [rdRR hil, wrI i (by omega)]
    exact Ev.pos (by omega) (Ev.pos (by omega) (Ev.bind (refElems_ev a (L := Z[i]) (by have := h _ (List.getElem_mem hil); omega)) (Ev.pos (by omega) ih)))
theorem put_ev (a : Int) {Z : List (List (T 7))} (hZ : Z.length < 4294967296) (h : ∀ M ∈ Z, M.length < 4294967296) (hz : (lsB a Z).size ≤ 140737488355328) : Ev (fun k => steepleref29_put.f k a (mRR Z)) (lsB a Z) := by
  have hlen : (mRR Z).length = Z.length := List.length_map ..
  have hl := put_l0 a Z hZ h Z.length 0 (numB (Z.length : Int)) (by omega) hz
  unfold steepleref29_put.f
  rw [hlen]
  exact Ev.bind (Ev.const (refNum_f _)) hl
theorem refBytes_ev2 (h : fewB a root z wi c v pa g p ro o pr) : Ev (fun k => steepleref29_Bytes.f k a root (mRR z) (mR wi) (mRR c) (hiW v) (loW v) (mR pa) (mRR g) (hiW p) (loW p) (mR ro) (mRR o) pr) (proofB a root z wi c v pa g p ro o pr) := by
  obtain ⟨h0, h1, h2, h3, h4, h5, h6⟩ := h
  have L := fun Z (hZ : Z ∈ [z, c, g, o]) (hp : lsB a Z ∈ pieces a root z wi c v pa g p ro o pr) => put_ev a (Z := Z) (by have := (h6 Z hZ).1; omega) (fun M hM => by have := (h6 Z hZ).2 M hM; omega) (by have := h0 _ hp; omega)
  have hlist := refList_ev (L := pr) (by omega) (by have := h0 (listB pr) (by unfold pieces; simp); omega)
  have b1 := h0 (numB a) (by unfold pieces; simp)
  have b2 := h0 (textB root) (by unfold pieces; simp)
  have b3 := h0 (lsB a z) (by unfold pieces; simp)
  have b4 := h0 (elemsB a wi) (by unfold pieces; simp)
  have b5 := h0 (lsB a c) (by unfold pieces; simp)
  have b6 := h0 (elemsB a [v]) (by unfold pieces; simp)
  have b7 := h0 (elemsB a pa) (by unfold pieces; simp)
  have b8 := h0 (lsB a g) (by unfold pieces; simp)
  have b9 := h0 (elemsB a [p]) (by unfold pieces; simp)
  have b10 := h0 (elemsB a ro) (by unfold pieces; simp)
  have b11 := h0 (lsB a o) (by unfold pieces; simp)
  have b12 := h0 (listB pr) (by unfold pieces; simp)
  have e : proofB a root z wi c v pa g p ro o pr = numB a ++ textB root ++ lsB a z ++ elemsB a wi ++ lsB a c ++ elemsB a [v] ++ elemsB a pa ++ lsB a g ++ elemsB a [p] ++ elemsB a ro ++ lsB a o ++ listB pr := by
    unfold proofB pieces catB
    simp only [List.foldl_cons, List.foldl_nil]
    rw [show noB ++ numB a = numB a from ByteArray.empty_append]
  rw [e]
  unfold steepleref29_Bytes.f
  exact Ev.bind (Ev.const (refNum_f a)) (Ev.bind (Ev.const (refText_f (by omega))) (Ev.pos (by omega) (Ev.bind (L z (by simp) (by unfold pieces; simp)) (Ev.pos (by simp only [ByteArray.size_append]; omega) (Ev.bind (refElems_ev a (L := wi) (by omega)) (Ev.pos (by simp only [ByteArray.size_append]; omega) (Ev.bind (L c (by simp) (by unfold pieces; simp)) (Ev.pos (by simp only [ByteArray.size_append]; omega) (Ev.bind (refElems_ev a (L := [v]) (by show 1 < 2 ^ 40; decide)) (Ev.pos (by simp only [ByteArray.size_append]; omega) (Ev.bind (refElems_ev a (L := pa) (by omega)) (Ev.pos (by simp only [ByteArray.size_append]; omega) (Ev.bind (L g (by simp) (by unfold pieces; simp)) (Ev.pos (by simp only [ByteArray.size_append]; omega) (Ev.bind (refElems_ev a (L := [p]) (by show 1 < 2 ^ 40; decide)) (Ev.pos (by simp only [ByteArray.size_append]; omega) (Ev.bind (refElems_ev a (L := ro) (by omega)) (Ev.pos (by simp only [ByteArray.size_append]; omega) (Ev.bind (L o (by simp) (by unfold pieces; simp)) (Ev.pos (by simp only [ByteArray.size_append]; omega) (Ev.bind hlist (Ev.pos (by simp only [ByteArray.size_append]; omega) (Ev.now _)))))))))))))))))))))))
end
/-! The lists as the document has them. -/
theorem refE_l0 (M : List (T 7)) (hM : M.length < 4294967296) : ∀ (d i : Nat) (acc : List S70), i + d = M.length → acc.length = i → Ev (fun k => steeplelaw01_Ref.l0 k (mE M) acc (i : Int)) (acc ++ mR (M.drop i))
  | 0, i, acc, h, ha => by
    have hlen : (mE M).length = M.length := List.length_map ..
    refine Ev.succ ?_
    simp only [steeplelaw01_Ref.l0]
    rw [List.drop_of_length_le (by omega), show acc ++ mR [] = acc from List.append_nil _]
    exact Ev.neg (by omega) (Ev.now _)
  | d + 1, i, acc, h, ha => by
    have hi : i < M.length := by omega
    have hlen : (mE M).length = M.length := List.length_map ..
    have ih := refE_l0 M hM d (i + 1) (acc ++ [elR M[i]]) (by omega) (by rw [List.length_append, List.length_singleton, ha])
    rw [List.append_assoc] at ih
    refine Ev.succ ?_
    simp only [steeplelaw01_Ref.l0]
    rw [show rd_T61 (mE M) (i : Int) = elS M[i] from rd_elS hi, elS_f0, elS_f1, wrI i (by omega), List.drop_eq_getElem_cons hi]
    exact Ev.pos (by omega) (Ev.pos (by omega) (Ev.pos (by omega) ih))
theorem refE_ev {M : List (T 7)} (hM : M.length < 4294967296) : Ev (fun k => steeplelaw01_Ref.f k (mE M)) (mR M) := by
  have h := refE_l0 M hM M.length 0 [] (by omega) rfl
  rw [List.drop_zero, List.nil_append] at h
  exact h
theorem refEE_l0 (Z : List (List (T 7))) (hZ : Z.length < 4294967296) (hl : ∀ M ∈ Z, M.length < 4294967296) : ∀ (d i : Nat) (acc : List (List S70)), i + d = Z.length → acc.length = i → Ev (fun k => steeplelaw09_Refs.l0 k (mEE Z) acc (i : Int)) (acc ++ mRR (Z.drop i))
  | 0, i, acc, h, ha => by
    have hlen : (mEE Z).length = Z.length := List.length_map ..
    refine Ev.succ ?_
    simp only [steeplelaw09_Refs.l0]
    rw [List.drop_of_length_le (by omega), show acc ++ mRR [] = acc from List.append_nil _]
    exact Ev.neg (by omega) (Ev.now _)
  | d + 1, i, acc, h, ha => by
    have hi : i < Z.length := by omega
    have hlen : (mEE Z).length = Z.length := List.length_map ..
    have ih := refEE_l0 Z hZ hl d (i + 1) (acc ++ [mR Z[i]]) (by omega) (by rw [List.length_append, List.length_singleton, ha])
    rw [List.append_assoc] at ih
    refine Ev.succ ?_
    simp only [steeplelaw09_Refs.l0]
    rw [rdEE hi, wrI i (by omega), List.drop_eq_getElem_cons hi]
    exact Ev.pos (by omega) (Ev.pos (by omega) (Ev.bind (refE_ev (hl _ (List.getElem_mem hi))) (Ev.pos (by omega) ih)))
theorem refEE_ev {Z : List (List (T 7))} (hZ : Z.length < 4294967296) (hl : ∀ M ∈ Z, M.length < 4294967296) : Ev (fun k => steeplelaw09_Refs.f k (mEE Z)) (mRR Z) := by
  have h := refEE_l0 Z hZ hl Z.length 0 [] (by omega) rfl
  rw [List.drop_zero, List.nil_append] at h
  exact h
/-! Reading. -/
def toT (s : S61) : T 7 := ((dec 6 s.f0.toNat, dec 6 s.f1.toNat) : T 6 × T 6)
theorem toT_elS (x : T 7) : toT (elS x) = x := by
  have h : toT (elS x) = ((dec 6 (enc 6 x.1), dec 6 (enc 6 x.2)) : T 6 × T 6) := rfl
  rw [h, dec_enc, dec_enc]
  rfl
def lB (a : Int) (l : List S61) : ByteArray := elemsB a (l.map toT)
theorem mE_toT (M : List (T 7)) : (mE M).map toT = M := by
  unfold mE
  rw [List.map_map]
  have : (toT ∘ elS) = id := funext fun x => toT_elS x
  rw [this, List.map_id]
theorem lB_mE (a : Int) (M : List (T 7)) : lB a (mE M) = elemsB a M := by unfold lB; rw [mE_toT]
theorem reads77 (a : Int) : Reads (fun k b e => proof_ReadProof_1.f k b e a) (fun k acc n i b e => api_Elem_77.l0 k a acc n i b e) := ⟨_, by decide, fun _ _ _ _ _ _ => rfl⟩
theorem foldB_mEE (a : Int) : ∀ (Z : List (List (T 7))) (s : ByteArray), foldB (lB a) (mEE Z) s = foldB (elemsB a) Z s
  | [], _ => rfl
  | M :: Z, s => by
    show foldB (lB a) (mEE Z) (s ++ lB a (mE M)) = foldB (elemsB a) Z (s ++ elemsB a M)
    rw [lB_mE]
    exact foldB_mEE a Z _
end Go.Proofs.Ythgiifakcgjlaaa.Br
end

section
/- Which proof any bytes are (proof.ReadProof). Conditions: those that each theorem names. -/
set_option linter.unusedVariables false
set_option linter.unusedSimpArgs false
namespace Go.Proofs.Ythgiifakcgjlaaa.Br
open Go.RowKit Go.Proofs.YthgiifakcgjlaaaT Go.Proofs.Ythgiifakcgjlaaa.P Go.Proofs.YthgiifakcgjlaaaW.PrintWords Go.Proofs.YthgiifakcgjlaaaW.PrintLast
theorem toList_inj {s t : ByteArray} (h : s.toList = t.toList) : s = t := by
  rw [ByteArray.toList_eq, ByteArray.toList_eq] at h
  exact ByteArray.ext (Array.toList_inj.1 h)
end Go.Proofs.Ythgiifakcgjlaaa.Br
end

section
/- A proof that is written is read as it was. Conditions: those that each theorem names. -/
set_option linter.unusedVariables false
set_option linter.unusedSimpArgs false
namespace Go.Proofs.Ythgiifakcgjlaaa.Br
open Go.RowKit Go.Proofs.YthgiifakcgjlaaaT Go.Proofs.Ythgiifakcgjlaaa.P Go.Proofs.YthgiifakcgjlaaaW.PrintWords Go.Proofs.YthgiifakcgjlaaaW.PrintLast
theorem wide_ne {a : Int} (h : 0 ≤ a ∧ a ≤ 7) : wideN a ≠ 0 := fun q => wide0.1 q h
theorem elemsB_ne {a : Int} {M : List (T 7)} (ha : 0 ≤ a ∧ a ≤ 7) (hM : M.length ≤ 2147483647) (h : M.all (ofB a) = true) : elemsB a M ≠ noB := by
  intro q
  have z := congrArg ByteArray.size q
  unfold elemsB at z
  rw [if_neg (wide_ne ha), elsB_app M _ (fun x hx => List.all_eq_true.1 h x hx), ByteArray.size_append, numB_size (by omega) (by omega)] at z
  have : noB.size = 0 := rfl
  omega
theorem okE_all {a : Int} {M : List (T 7)} (h : okE a M = true) : M.length ≤ 4096 ∧ M.all (ofB a) = true := by
  unfold okE at h
  rw [Bool.and_eq_true, decide_eq_true_eq] at h
  exact h
theorem okLs_all {a : Int} {Z : List (List (T 7))} (h : okLs a Z = true) : Z.length ≤ 4096 ∧ ∀ M ∈ Z, okE a M = true := by
  unfold okLs at h
  rw [Bool.and_eq_true, decide_eq_true_eq] at h
  exact ⟨h.1, fun M hM => List.all_eq_true.1 h.2 M hM⟩
theorem row_cmp {a : Int} {M : List (T 7)} (ha : 0 ≤ a ∧ a ≤ 7) (h : okE a M = true) (r : ByteArray) : Ev (fun k => proof_ReadProof_1.f k (elemsB a M ++ r) 0 a) (mE M, r, 0) := by
  obtain ⟨h1, h2⟩ := okE_all h
  unfold proof_ReadProof_1.f
  exact Ev.bind (Elems_cmp (elemsB_ne ha (by omega) h2) (by omega) (by omega) r) (Ev.now _)
theorem single_cmp {a : Int} {x : T 7} (ha : 0 ≤ a ∧ a ≤ 7) (h : ofB a x = true) (r : ByteArray) : Ev (fun k => proof_ReadProof_2.f k (elemsB a [x] ++ r) 0 a) (hiW x, loW x, r, 0) := by
  have hall : ([x] : List (T 7)).all (ofB a) = true := by
    rw [List.all_cons, h]
    rfl
  have hi : 0 < ([x] : List (T 7)).length := Nat.one_pos
  unfold proof_ReadProof_2.f
  refine Ev.bind (Elems_cmp (M := [x]) (elemsB_ne ha (show 1 ≤ 2147483647 by decide) hall) (show 1 ≤ 2147483647 by decide) (show ((1 : Nat) : Int) ≤ 1 by decide) r) (Ev.pos rfl (Ev.pos (show (0 : Int) < 1 by decide) ?_))
  have e : rd_T61 (([x] : List (T 7)).map elS) 0 = elS x := rd_elS hi
  show Ev (fun _ => some ((rd_T61 (([x] : List (T 7)).map elS) 0).f0, (rd_T61 (([x] : List (T 7)).map elS) 0).f1, r, (0 : Int))) (hiW x, loW x, r, 0)
  rw [e, elS_f0, elS_f1]
  exact Ev.now _
theorem lists77_cmp {a : Int} {Z : List (List (T 7))} (ha : 0 ≤ a ∧ a ≤ 7) (h : okLs a Z = true) (r : ByteArray) : Ev (fun k => api_Elem_77.f k (lsB a Z ++ r) 0 a) (mEE Z, r, 0) := by
  obtain ⟨h1, h2⟩ := okLs_all h
  have hl : (mEE Z).length = Z.length := List.length_map ..
  have hc := lists_cmp (B := lB a) (P := fun l => ∃ M, l = mE M ∧ okE a M = true) (reads77 a)
    (fun l r hp => by
      obtain ⟨M, rfl, hM⟩ := hp
      show Ev (fun k => proof_ReadProof_1.f k (lB a (mE M) ++ r) 0 a) (mE M, r, 0)
      rw [lB_mE]
      exact row_cmp ha hM r) (L := mEE Z) (by omega)
    (fun l hl => by
      obtain ⟨M, hM, rfl⟩ := List.mem_map.1 hl
      exact ⟨M, rfl, h2 M hM⟩) r
  have e : listsB (lB a) (mEE Z) = lsB a Z := by
    unfold lsB listsB
    rw [hl, foldB_mEE]
  rw [e] at hc
  unfold api_Elem_77.f
  exact hc
section
variable {a : Int} {root : ByteArray} {z : List (List (T 7))} {wi : List (T 7)} {c : List (List (T 7))} {v : T 7} {pa : List (T 7)} {g : List (List (T 7))} {p : T 7} {ro : List (T 7)} {o : List (List (T 7))} {pr : List ByteArray}
theorem proofB_eq : proofB a root z wi c v pa g p ro o pr = numB a ++ (textB root ++ (lsB a z ++ (elemsB a wi ++ (lsB a c ++ (elemsB a [v] ++ (elemsB a pa ++ (lsB a g ++ (elemsB a [p] ++ (elemsB a ro ++ (lsB a o ++ (listB pr ++ noB))))))))))) := by
  have e : noB ++ numB a = numB a := ByteArray.empty_append
  have e2 : listB pr ++ noB = listB pr := ByteArray.append_empty
  unfold proofB pieces catB
  simp only [List.foldl_cons, List.foldl_nil]
  rw [e, e2]
  simp only [ByteArray.append_assoc]
theorem okR_all (h : okR pr = true) : ∀ t ∈ pr, t.size = 32 := fun t ht => of_decide_eq_true (List.all_eq_true.1 h t ht)
theorem ReadProof_cmp (hf : fewB a root z wi c v pa g p ro o pr) (hs : shB a root z wi c v pa g p ro o pr = true) (hz : (proofB a root z wi c v pa g p ro o pr).size ≤ 1048576) :
    Ev (fun k => proof_ReadProof.f k (proofB a root z wi c v pa g p ro o pr)) (a, root, mEE z, mE wi, mEE c, hiW v, loW v, mE pa, mEE g, hiW p, loW p, mE ro, mEE o, pr, 0) := by
  have hP := Proof_ev hf
  rw [if_pos hs] at hP
  have ha0 : proof_ask.f (proofB a root z wi c v pa g p ro o pr) = some 0 := by
    unfold proof_ask.f
    rw [if_neg (by omega)]
  unfold shB at hs
  simp only [Bool.and_eq_true, decide_eq_true_eq] at hs
  obtain ⟨⟨⟨ha, hr⟩, hp⟩, hpr, ⟨hwi, hpa, hro, hvp⟩, hzz, hc, hg, ho⟩ := hs
  have h32 := okR_all hpr
  obtain ⟨_, hvp2⟩ := okE_all hvp
  have hv : ofB a v = true := List.all_eq_true.1 hvp2 v (by simp)
  have hpp : ofB a p = true := List.all_eq_true.1 hvp2 p (by simp)
  have hN := fun r => Num_cmp (n := a) (a := 7) ha.1 (by omega) ha.2 r
  have hT := fun r => Text_cmp (t := root) (a := 32) (by omega) (by omega) r
  have hL := fun r => List_cmp (L := pr) (a := 4096) (c := 32) (by omega) (by omega) (fun t ht => ⟨by rw [h32 t ht]; decide, by rw [h32 t ht]; decide⟩) r
  have hE : (if (0 : Int) = 0 then (if (noB.size : Int) > 0 then (3 : Int) else 0) else 0) = 0 := rfl
  refine (?_ : ∀ t, t = proofB a root z wi c v pa g p ro o pr → Ev (fun k => proof_ReadProof.f k t) (a, root, mEE z, mE wi, mEE c, hiW v, loW v, mE pa, mEE g, hiW p, loW p, mE ro, mEE o, pr, 0)) _ rfl
  intro t ht
  have h1 : octet_Reader_Num.f t 0 7 = some (a, textB root ++ (lsB a z ++ (elemsB a wi ++ (lsB a c ++ (elemsB a [v] ++ (elemsB a pa ++ (lsB a g ++ (elemsB a [p] ++ (elemsB a ro ++ (lsB a o ++ (listB pr ++ noB)))))))))), 0) := by
    rw [ht, proofB_eq]
    exact hN _
  unfold proof_ReadProof.f
  rw [← ht] at ha0 hP
  refine Ev.bind (Ev.const ha0) (Ev.pos rfl (Ev.bind (Ev.const (show octet_Read.f t = some (t, 0) from rfl)) (Ev.bind (Ev.const h1) (Ev.bind (Ev.const (hT _)) ?_))))
  refine Ev.bind (lists77_cmp ha hzz _) (Ev.bind (row_cmp ha hwi _) (Ev.bind (lists77_cmp ha hc _) (Ev.bind (single_cmp ha hv _) (Ev.bind (row_cmp ha hpa _) (Ev.bind (lists77_cmp ha hg _) (Ev.bind (single_cmp ha hpp _) (Ev.bind (row_cmp ha hro _) (Ev.bind (lists77_cmp ha ho _) (Ev.bind (hL noB) ?_)))))))))
  exact Ev.bind (Ev.const (End_f noB 0)) (Ev.pos hE (Ev.bind hP (Ev.pos rfl (Ev.pos rfl (Ev.now _)))))
end
theorem SameE_l0 (L : List (T 7)) (hL : L.length < 2 ^ 31) : ∀ d i : Nat, i + d = L.length → Ev (fun k => steeplelaw01_Same.l0 k (mE L) (mR L) (i : Int)) true
  | 0, i, h => by
    refine Ev.succ ?_
    simp only [steeplelaw01_Same.l0]
    exact Ev.neg (by unfold mE; rw [List.length_map]; omega) (Ev.now _)
  | d + 1, i, h => by
    have hi : i < L.length := by omega
    have e1 : rd_T61 (mE L) (i : Int) = elS L[i] := rd_elS hi
    have e2 : rd_T70 (mR L) (i : Int) = elR L[i] := rd_elR hi
    refine Ev.succ ?_
    simp only [steeplelaw01_Same.l0]
    refine Ev.pos (by unfold mE; rw [List.length_map]; omega) (Ev.pos (by omega) (Ev.pos (by unfold mR; rw [List.length_map]; omega) ?_))
    rw [e1, e2, elS_f0, elS_f1, elR_f0, elR_f1, wrI i (by omega)]
    exact Ev.neg (by simp) (SameE_l0 L hL d (i + 1) (by omega))
theorem SameE_ev (L : List (T 7)) (hL : L.length < 2 ^ 31) : Ev (fun k => steeplelaw01_Same.f k (mE L) (mR L)) true := by
  unfold steeplelaw01_Same.f
  exact Ev.pos (by unfold mE mR; rw [List.length_map, List.length_map]) (SameE_l0 L (by omega) L.length 0 (by omega))
theorem rows_l0 (Z : List (List (T 7))) (hZ : Z.length < 2 ^ 31) (hl : ∀ M ∈ Z, M.length < 2 ^ 31) : ∀ d i : Nat, i + d = Z.length → Ev (fun k => steeplelaw29_rows.l0 k (mEE Z) (mEE Z) (i : Int)) true
  | 0, i, h => by
    refine Ev.succ ?_
    simp only [steeplelaw29_rows.l0]
    exact Ev.neg (by unfold mEE; rw [List.length_map]; omega) (Ev.now _)
  | d + 1, i, h => by
    have hi : i < Z.length := by omega
    have hm := hl Z[i] (List.getElem_mem hi)
    refine Ev.succ ?_
    simp only [steeplelaw29_rows.l0]
    refine Ev.pos (by unfold mEE; rw [List.length_map]; omega) (Ev.pos (by omega) (Ev.pos (by unfold mEE; rw [List.length_map]; omega) ?_))
    rw [rdEE hi, wrI i (by omega)]
    exact Ev.bind (refE_ev (by omega)) (Ev.bind (SameE_ev _ hm) (Ev.pos rfl (rows_l0 Z hZ hl d (i + 1) (by omega))))
theorem rows_ev (Z : List (List (T 7))) (hZ : Z.length < 2 ^ 31) (hl : ∀ M ∈ Z, M.length < 2 ^ 31) : Ev (fun k => steeplelaw29_rows.f k (mEE Z) (mEE Z)) true := by
  unfold steeplelaw29_rows.f
  exact Ev.pos rfl (rows_l0 Z hZ hl Z.length 0 (by omega))
theorem TextsE_l0 (L : List ByteArray) (hL : L.length < 2 ^ 31) : ∀ d i : Nat, i + d = L.length → Ev (fun k => steeplelaw01_Texts.l0 k L L (i : Int)) true
  | 0, i, h => by
    refine Ev.succ ?_
    simp only [steeplelaw01_Texts.l0]
    exact Ev.neg (by omega) (Ev.now _)
  | d + 1, i, h => by
    refine Ev.succ ?_
    simp only [steeplelaw01_Texts.l0]
    refine Ev.pos (by omega) (Ev.pos (by omega) (Ev.pos (by omega) (Ev.pos trivial ?_)))
    rw [wrI i (by omega)]
    exact TextsE_l0 L hL d (i + 1) (by omega)
theorem TextsE_ev (L : List ByteArray) (hL : L.length < 2 ^ 31) : Ev (fun k => steeplelaw01_Texts.f k L L) true := by
  unfold steeplelaw01_Texts.f
  exact Ev.pos rfl (TextsE_l0 L hL L.length 0 (by omega))
section
variable {a : Int} {root : ByteArray} {z : List (List (T 7))} {wi : List (T 7)} {c : List (List (T 7))} {v : T 7} {pa : List (T 7)} {g : List (List (T 7))} {p : T 7} {ro : List (T 7)} {o : List (List (T 7))} {pr : List ByteArray}
theorem Same29_ev (hf : fewB a root z wi c v pa g p ro o pr) : Ev (fun k => steeplelaw29_Same.f k root (mEE z) (mE wi) (mEE c) (hiW v) (loW v) (mE pa) (mEE g) (hiW p) (loW p) (mE ro) (mEE o) pr root (mEE z) (mE wi) (mEE c) (hiW v) (loW v) (mE pa) (mEE g) (hiW p) (loW p) (mE ro) (mEE o) pr) true := by
  obtain ⟨_, _, hpr, hwi, hpa, hro, hl⟩ := hf
  have rw_ := fun (Z : List (List (T 7))) (hZ : Z ∈ [z, c, g, o]) => rows_ev Z (by have := (hl Z hZ).1; omega) (fun M hM => by have := (hl Z hZ).2 M hM; omega)
  have beq : ∀ x y : Int, (x == x && (y == y)) = true := fun x y => by simp
  unfold steeplelaw29_Same.f
  exact Ev.pos rfl (Ev.bind (rw_ z (by simp)) (Ev.pos rfl (Ev.bind (refE_ev (by omega)) (Ev.bind (SameE_ev _ (by omega)) (Ev.pos rfl (Ev.bind (rw_ c (by simp)) (Ev.pos rfl (Ev.pos (beq _ _) (Ev.bind (refE_ev (by omega)) (Ev.bind (SameE_ev _ (by omega)) (Ev.pos rfl (Ev.bind (rw_ g (by simp)) (Ev.pos rfl (Ev.pos (beq _ _) (Ev.bind (refE_ev (by omega)) (Ev.bind (SameE_ev _ (by omega)) (Ev.pos rfl (Ev.bind (rw_ o (by simp)) (Ev.pos rfl (Ev.bind (TextsE_ev _ (by omega)) (Ev.now _)))))))))))))))))))))
end
end Go.Proofs.Ythgiifakcgjlaaa.Br
end

section
/- What the reference's own proof is (steeplelaw29.Ref, ProofBytes). Conditions: those that each theorem names. -/
set_option linter.unusedVariables false
set_option linter.unusedSimpArgs false
namespace Go.Proofs.Ythgiifakcgjlaaa.Br
open Go.RowKit Go.Proofs.YthgiifakcgjlaaaT Go.Proofs.Ythgiifakcgjlaaa.P Go.Proofs.YthgiifakcgjlaaaW.PrintWords Go.Proofs.YthgiifakcgjlaaaW.PrintLast
theorem Ref29_ev (root : ByteArray) {z : List (List (T 7))} {wi : List (T 7)} {c : List (List (T 7))} (v0 v1 : Int) {pa : List (T 7)} {g : List (List (T 7))} (p0 p1 : Int) {ro : List (T 7)} {o : List (List (T 7))} {pr : List ByteArray} (hs : smallB z wi c pa g ro o pr) :
    Ev (fun k => steeplelaw29_Ref.f k root (mEE z) (mE wi) (mEE c) v0 v1 (mE pa) (mEE g) p0 p1 (mE ro) (mEE o)) (root, mRR z, mR wi, mRR c, v0, v1, mR pa, mRR g, p0, p1, mR ro, mRR o) := by
  obtain ⟨s1, s2, s3, s4, s5⟩ := hs
  have L := fun Z (hZ : Z ∈ [z, c, g, o]) => refEE_ev (s5 Z hZ).1 (s5 Z hZ).2
  have h24 : Ev (fun k => steeplelaw24_Ref.f k (mE ro) (mEE o)) (mR ro, mRR o) := by
    unfold steeplelaw24_Ref.f
    exact Ev.bind (refE_ev s4) (Ev.bind (L o (by simp)) (Ev.now _))
  unfold steeplelaw29_Ref.f
  exact Ev.bind (L z (by simp)) (Ev.bind (refE_ev s2) (Ev.bind (L c (by simp)) (Ev.bind (refE_ev s3) (Ev.bind (L g (by simp)) (Ev.bind h24 (Ev.now _))))))
end Go.Proofs.Ythgiifakcgjlaaa.Br
end
