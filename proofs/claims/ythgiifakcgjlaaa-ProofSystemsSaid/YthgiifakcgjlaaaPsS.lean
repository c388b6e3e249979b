/- Systems written and read (layer 29). Conditions: those that each theorem names. -/
import Derived.Test.YthgiifakcgjlaaaPsC
import Derived.Test.YthgiifakcgjlaaaPwS
import Derived.Test.YthgiifakcgjlaaaHEachG
import Derived.Test.YthgiifakcgjlaaaPx12
import Derived.Test.YthgiifakcgjlaaaPx12a
import Derived.Test.YthgiifakcgjlaaaPx13
import Derived.Test.YthgiifakcgjlaaaPx14
import Derived.Test.YthgiifakcgjlaaaPx4
import Derived.Test.YthgiifakcgjlaaaPx5
import Derived.Test.YthgiifakcgjlaaaPx9
import Derived.Test.YthgiifakcgjlaaaPx9a
set_option linter.unusedVariables false
set_option linter.unusedSimpArgs false
namespace Go.Proofs.Ythgiifakcgjlaaa.Br
open Go.RowKit Go.Proofs.YthgiifakcgjlaaaT Go.Proofs.Ythgiifakcgjlaaa.P Go.Proofs.YthgiifakcgjlaaaW.PrintWords Go.Proofs.YthgiifakcgjlaaaW.PrintLast
/-- All written, one behind the other. -/
def foldB (B : S107 → ByteArray) (L : List S107) (s : ByteArray) : ByteArray := L.foldl (fun s a => s ++ B a) s
def listsB (B : S107 → ByteArray) (L : List S107) : ByteArray := foldB B L (numB (L.length : Int))
theorem foldB_cons (B : S107 → ByteArray) (a : S107) (L : List S107) (s : ByteArray) : foldB B (a :: L) s = foldB B L (s ++ B a) := rfl
theorem foldB_app (B : S107 → ByteArray) : ∀ (L : List S107) (s : ByteArray), foldB B L s = s ++ foldB B L noB
  | [], s => (ByteArray.append_empty).symm
  | a :: L, s => by
    rw [foldB_cons, foldB_cons, foldB_app B L (s ++ B a), foldB_app B L (noB ++ B a), ByteArray.append_assoc, show noB ++ B a = B a from ByteArray.empty_append]
theorem foldB_one (B : S107 → ByteArray) (a : S107) (L : List S107) : foldB B (a :: L) noB = B a ++ foldB B L noB := by
  rw [foldB_cons, foldB_app, show noB ++ B a = B a from ByteArray.empty_append]
theorem foldB_few (B : S107 → ByteArray) {m : Nat} : ∀ (L : List S107) (s : ByteArray), (∀ a ∈ L, (B a).size ≤ m) → (foldB B L s).size ≤ s.size + L.length * m
  | [], s, _ => by
    show s.size ≤ _
    omega
  | a :: L, s, h => by
    have h1 := foldB_few B L (s ++ B a) (fun x hx => h x (List.mem_cons_of_mem _ hx))
    have h2 := h a (List.mem_cons_self ..)
    rw [ByteArray.size_append] at h1
    rw [foldB_cons, List.length_cons, Nat.succ_mul]
    omega
/-- Five numbers. -/
def n5 (a b c d e : Int) : ByteArray := numB a ++ numB b ++ numB c ++ numB d ++ numB e
def gateB (g : S107) : ByteArray := n5 g.f0 g.f1 g.f2 g.f3 g.f4
def sysB (w r c p q : Int) (L : List S107) : ByteArray := n5 w r c p q ++ listsB gateB L
theorem n5_size (a b c d e : Int) : (n5 a b c d e).size ≤ 20 := by
  have h1 := numB_le a
  have h2 := numB_le b
  have h3 := numB_le c
  have h4 := numB_le d
  have h5 := numB_le e
  unfold n5
  simp only [ByteArray.size_append]
  omega
theorem listsB_size (L : List S107) : (listsB gateB L).size ≤ 4 + L.length * 20 := by
  have h := foldB_few gateB (m := 20) L (numB (L.length : Int)) (fun a _ => n5_size ..)
  have := numB_le (L.length : Int)
  unfold listsB
  omega
theorem nums5_ev (a b c d e : Int) : Ev (fun k => proof_nums.f k [a, b, c, d, e]) (n5 a b c d e) := by
  have := nums_l0 [a, b, c, d, e] (by show 5 < 2 ^ 40; decide) 5 0 noB rfl (by decide)
  simp only [List.drop_zero, List.foldl_cons, List.foldl_nil] at this
  rw [show noB ++ numB a = numB a from ByteArray.empty_append] at this
  exact this
theorem gateOne_ev (g : S107) : Ev (fun k => gateOne k g) (gateB g) := by
  unfold gateOne proof_System_1.f
  exact Ev.bind (nums5_ev g.f0 g.f1 g.f2 g.f3 g.f4) (Ev.now _)
theorem each_go_ev : ∀ (L : List S107) (s : ByteArray), s.size + L.length * 20 ≤ 140737488355328 → Ev (fun k => each_go (gateOne k) L s) (foldB gateB L s)
  | [], s, _ => Ev.now _
  | a :: L, s, h => by
    have h2 : (gateB a).size ≤ 20 := n5_size ..
    rw [List.length_cons, Nat.succ_mul] at h
    exact Ev.bind (gateOne_ev a) (Ev.pos (by omega) (each_go_ev L _ (by rw [ByteArray.size_append]; omega)))
theorem each_ev (L : List S107) (hL : L.length ≤ 1000) : Ev (fun k => api_Gate.f k L) (listsB gateB L) := by
  have hn := numB_le (L.length : Int)
  exact Ev.pos (by omega) (Ev.bind (Ev.const (Num_f _)) (Ev.pos (by omega) (each_go_ev L _ (by omega))))
theorem System_ev (w r c p q : Int) (L : List S107) (hL : L.length ≤ 1000) : Ev (fun k => proof_System.f k w r c p q L) (if chkS w r c p q L = 0 then (sysB w r c p q L, 0) else (noB, chkS w r c p q L)) := by
  unfold proof_System.f
  refine Ev.bind (Check_ev w r c p q L) ?_
  by_cases h : chkS w r c p q L = 0
  · rw [if_pos h]
    have h1 := n5_size w r c p q
    have h2 := listsB_size L
    exact Ev.pos h (Ev.bind (each_ev L hL) (Ev.bind (nums5_ev w r c p q) (Ev.pos (by omega) (Ev.now _))))
  · rw [if_neg h]
    exact Ev.neg h (Ev.now _)
/-! The document's. -/
theorem refSys_l0 (w r c p q : Int) (L : List S107) (hL : L.length ≤ 1000) : ∀ (d i : Nat) (s : ByteArray), i + d = L.length → s.size ≤ 100 + 20 * i → Ev (fun k => steepleref29_System.l0 k s (i : Int) w r c p q (L.map toR)) (foldB gateB (L.drop i) s)
  | 0, i, s, h, _ => by
    refine Ev.succ ?_
    simp only [steepleref29_System.l0]
    rw [List.drop_of_length_le (by omega), List.length_map]
    exact Ev.neg (by omega) (Ev.now _)
  | d + 1, i, s, h, hs => by
    have hi : i < L.length := by omega
    have h1 := numB_le L[i].f0
    have h2 := numB_le L[i].f1
    have h3 := numB_le L[i].f2
    have h4 := numB_le L[i].f3
    have h5 := numB_le L[i].f4
    have e : s ++ numB L[i].f0 ++ numB L[i].f1 ++ numB L[i].f2 ++ numB L[i].f3 ++ numB L[i].f4 = s ++ gateB L[i] := by
      unfold gateB n5
      simp only [ByteArray.append_assoc]
    have ih := refSys_l0 w r c p q L hL d (i + 1) (s ++ gateB L[i]) (by omega) (by have h6 : (gateB L[i]).size ≤ 20 := n5_size ..; rw [ByteArray.size_append]; omega)
    refine Ev.succ ?_
    simp only [steepleref29_System.l0]
    rw [rdR hi, List.drop_eq_getElem_cons hi, List.length_map, foldB_cons, wrS i (by omega)]
    rw [← e] at ih ⊢
    refine Ev.pos (by omega) (Ev.pos (by omega) (Ev.bind (Ev.const (refNum_f L[i].f0)) (Ev.pos (by omega) (Ev.bind (Ev.const (refNum_f L[i].f1)) (Ev.pos (by simp only [ByteArray.size_append]; omega) (Ev.bind (Ev.const (refNum_f L[i].f2)) (Ev.pos (by simp only [ByteArray.size_append]; omega) (Ev.bind (Ev.const (refNum_f L[i].f3)) (Ev.pos (by simp only [ByteArray.size_append]; omega) (Ev.bind (Ev.const (refNum_f L[i].f4)) (Ev.pos (by simp only [ByteArray.size_append]; omega) ih)))))))))))
theorem refSystem_ev (w r c p q : Int) (L : List S107) (hL : L.length ≤ 1000) : Ev (fun k => steepleref29_System.f k w r c p q (L.map toR)) (sysB w r c p q L) := by
  have h1 := numB_le w
  have h2 := numB_le r
  have h3 := numB_le c
  have h4 := numB_le p
  have h5 := numB_le q
  have h6 := numB_le (L.length : Int)
  have e : n5 w r c p q ++ numB (L.length : Int) = numB w ++ numB r ++ numB c ++ numB p ++ numB q ++ numB (L.length : Int) := rfl
  have hl := refSys_l0 w r c p q L hL L.length 0 (n5 w r c p q ++ numB (L.length : Int)) (by omega) (by have := n5_size w r c p q; rw [ByteArray.size_append]; omega)
  rw [List.drop_zero, foldB_app, ByteArray.append_assoc, ← foldB_app gateB L (numB (L.length : Int)), e] at hl
  unfold steepleref29_System.f
  rw [List.length_map]
  exact Ev.bind (Ev.const (refNum_f w)) (Ev.bind (Ev.const (refNum_f r)) (Ev.pos (by omega) (Ev.bind (Ev.const (refNum_f c)) (Ev.pos (by simp only [ByteArray.size_append]; omega) (Ev.bind (Ev.const (refNum_f p)) (Ev.pos (by simp only [ByteArray.size_append]; omega) (Ev.bind (Ev.const (refNum_f q)) (Ev.pos (by simp only [ByteArray.size_append]; omega) (Ev.bind (Ev.const (refNum_f _)) (Ev.pos (by simp only [ByteArray.size_append]; omega) hl))))))))))
theorem Ref_l0 (w r c p q : Int) (L : List S107) (hL : L.length ≤ 1000) (a b x y z : Int) : ∀ (d i : Nat) (M : List S106), i + d = L.length → M.length = i → Ev (fun k => steeplelaw25_Ref.l0 k (i : Int) w r c p q L a b x y z M) (a, b, x, y, z, M ++ (L.drop i).map toR)
  | 0, i, M, h, _ => by
    refine Ev.succ ?_
    simp only [steeplelaw25_Ref.l0]
    rw [List.drop_of_length_le (by omega), List.map_nil, List.append_nil]
    exact Ev.neg (by omega) (Ev.now _)
  | d + 1, i, M, h, hM => by
    have hi : i < L.length := by omega
    have ih := Ref_l0 w r c p q L hL a b x y z d (i + 1) (M ++ [toR L[i]]) (by omega) (by rw [List.length_append, List.length_singleton, hM])
    rw [List.append_assoc] at ih
    refine Ev.succ ?_
    simp only [steeplelaw25_Ref.l0]
    rw [rdG hi, List.drop_eq_getElem_cons hi, List.map_cons, wrS i (by omega)]
    exact Ev.pos (by omega) (Ev.pos (by omega) (Ev.pos (by omega) ih))
theorem Ref_ev (w r c p q : Int) (L : List S107) (hL : L.length ≤ 1000) : Ev (fun k => steeplelaw25_Ref.f k w r c p q L) (w, r, c, p, q, L.map toR) := by
  have h := Ref_l0 w r c p q L hL w r c p q L.length 0 [] (by omega) rfl
  rw [List.drop_zero, List.nil_append] at h
  unfold steeplelaw25_Ref.f
  exact h
/-! Reading. -/
theorem rs1 (b : ByteArray) (e : Int) : proof_ReadSystem_1.f b e = octet_Reader_Num.f b e 1048576 := by
  unfold proof_ReadSystem_1.f
  cases octet_Reader_Num.f b e 1048576 <;> rfl
def finS (w r c p q : Int) (L : List S107) (b : ByteArray) (e : Int) : Int × Int × Int × Int × Int × List S107 × Int :=
  if (e = 0 ∧ b.size = 0) ∧ chkS w r c p q L = 0 then (w, r, c, p, q, L, 0) else (0, 0, 0, 0, 0, [], 3)
theorem rs_end (w r c p q : Int) (n : Nat) (L : List S107) (b : ByteArray) (e : Int) : Ev (fun k => proof_ReadSystem.l0 k (n : Int) (n : Int) b e w r c p q L) (finS w r c p q L b e) := by
  refine Ev.succ ?_
  simp only [proof_ReadSystem.l0]
  refine Ev.neg (by omega) (Ev.bind (Ev.const (End_f b e)) ?_)
  by_cases h : e = 0 ∧ b.size = 0
  · refine Ev.pos (by rw [if_pos h.1, if_neg (by omega)]) (Ev.bind (Check_ev w r c p q L) ?_)
    by_cases h2 : chkS w r c p q L = 0
    · rw [show finS w r c p q L b e = (w, r, c, p, q, L, 0) from if_pos ⟨h, h2⟩]
      exact Ev.pos h2 (Ev.now _)
    · rw [show finS w r c p q L b e = (0, 0, 0, 0, 0, [], 3) from if_neg (fun x => h2 x.2)]
      exact Ev.neg h2 (Ev.now _)
  · rw [show finS w r c p q L b e = (0, 0, 0, 0, 0, [], 3) from if_neg (fun x => h x.1)]
    refine Ev.neg ?_ (Ev.now _)
    by_cases c1 : e = 0
    · rw [if_pos c1, if_pos (by have : ¬ b.size = 0 := fun q => h ⟨c1, q⟩; omega)]
      show ¬ (3 : Int) = 0
      decide
    · rw [if_neg c1]
      exact c1
theorem five_snd (b : ByteArray) (e : Int) : ∃ (n1 n2 n3 n4 m5 : Int) (b1 b2 b3 b4 b5 : ByteArray) (e1 e2 e3 e4 e5 : Int),
    proof_ReadSystem_1.f b e = some (n1, b1, e1) ∧ proof_ReadSystem_1.f b1 e1 = some (n2, b2, e2) ∧ proof_ReadSystem_1.f b2 e2 = some (n3, b3, e3) ∧ proof_ReadSystem_1.f b3 e3 = some (n4, b4, e4) ∧ proof_ReadSystem_1.f b4 e4 = some (m5, b5, e5) ∧
    (e5 = 0 → e = 0 ∧ b = n5 n1 n2 n3 n4 m5 ++ b5) := by
  obtain ⟨n1, b1, e1, h1, _, _, s1⟩ := Num_snd b e 1048576
  obtain ⟨n2, b2, e2, h2, _, _, s2⟩ := Num_snd b1 e1 1048576
  obtain ⟨n3, b3, e3, h3, _, _, s3⟩ := Num_snd b2 e2 1048576
  obtain ⟨n4, b4, e4, h4, _, _, s4⟩ := Num_snd b3 e3 1048576
  obtain ⟨n6, b5, e5, h5, _, _, s5⟩ := Num_snd b4 e4 1048576
  refine ⟨_, _, _, _, _, b1, b2, b3, b4, b5, e1, e2, e3, e4, e5, (rs1 _ _).trans h1, (rs1 _ _).trans h2, (rs1 _ _).trans h3, (rs1 _ _).trans h4, (rs1 _ _).trans h5, fun q => ?_⟩
  obtain ⟨q4, _, x5⟩ := s5 q
  obtain ⟨q3, _, x4⟩ := s4 q4
  obtain ⟨q2, _, x3⟩ := s3 q3
  obtain ⟨q1, _, x2⟩ := s2 q2
  obtain ⟨q0, _, x1⟩ := s1 q1
  refine ⟨q0, ?_⟩
  unfold n5
  rw [x1, x2, x3, x4, x5]
  simp only [ByteArray.append_assoc]
theorem rs_l0 (w r c p q : Int) (n : Nat) (hn : n ≤ 30) : ∀ (d i : Nat) (acc : List S107) (b : ByteArray) (e : Int), i + d = n → acc.length ≤ i → ∃ (M : List S107) (rr : ByteArray) (e' : Int), M.length = d ∧ (e' = 0 → e = 0 ∧ b = foldB gateB M noB ++ rr) ∧ Ev (fun k => proof_ReadSystem.l0 k (n : Int) (i : Int) b e w r c p q acc) (finS w r c p q (acc ++ M) rr e')
  | 0, i, acc, b, e, hi, ha => by
    obtain rfl : i = n := by omega
    refine ⟨[], b, e, rfl, fun h => ⟨h, (ByteArray.empty_append).symm⟩, ?_⟩
    rw [List.append_nil]
    exact rs_end w r c p q i acc b e
  | d + 1, i, acc, b, e, hi, ha => by
    obtain ⟨n1, n2, n3, n4, m5, b1, b2, b3, b4, b5, e1, e2, e3, e4, e5, h1, h2, h3, h4, h5, hs⟩ := five_snd b e
    obtain ⟨M, rr, e', hM, hq, hE⟩ := rs_l0 w r c p q n hn d (i + 1) (acc ++ [⟨n1, n2, n3, n4, m5⟩]) b5 e5 (by omega) (by rw [List.length_append, List.length_singleton]; omega)
    refine ⟨⟨n1, n2, n3, n4, m5⟩ :: M, rr, e', by rw [List.length_cons, hM], fun q => ?_, Ev.succ ?_⟩
    · obtain ⟨q5, x5⟩ := hq q
      obtain ⟨q0, x0⟩ := hs q5
      refine ⟨q0, ?_⟩
      rw [foldB_one, x0, x5, ByteArray.append_assoc]
      rfl
    · rw [List.append_assoc] at hE
      simp only [proof_ReadSystem.l0]
      rw [wrS i (by omega)]
      exact Ev.pos (by omega) (Ev.bind (Ev.const h1) (Ev.bind (Ev.const h2) (Ev.bind (Ev.const h3) (Ev.bind (Ev.const h4) (Ev.bind (Ev.const h5) (Ev.pos (by omega) hE))))))
theorem ReadSystem_snd (t : ByteArray) (ht : t.size ≤ 1048576) : ∃ (w r c p q : Int) (L : List S107) (x : Int), Ev (fun k => proof_ReadSystem.f k t) (w, r, c, p, q, L, x) ∧ ((x = 0 ∧ chkS w r c p q L = 0 ∧ L.length ≤ 30 ∧ t = sysB w r c p q L) ∨ (x = 3 ∧ w = 0 ∧ r = 0 ∧ c = 0 ∧ p = 0 ∧ q = 0 ∧ L = [])) := by
  obtain ⟨n1, n2, n3, n4, m5, b1, b2, b3, b4, b5, e1, e2, e3, e4, e5, h1, h2, h3, h4, h5, hs⟩ := five_snd t 0
  obtain ⟨n, b6, e6, h6, _, hz, s6⟩ := Num_snd b5 e5 30
  have hn : n ≤ 30 := by
    by_cases c : n = 0
    · omega
    · have := (s6 (hz c)).2.1
      omega
  obtain ⟨M, rr, e', hM, hq, hE⟩ := rs_l0 n1 n2 n3 n4 m5 n hn n 0 [] b6 e6 (by omega) (Nat.le_refl _)
  rw [List.nil_append] at hE
  have ha : proof_ask.f t = some 0 := by
    unfold proof_ask.f
    rw [if_neg (by omega)]
  have hf : Ev (fun k => proof_ReadSystem.f k t) (finS n1 n2 n3 n4 m5 M rr e') := by
    unfold proof_ReadSystem.f
    exact Ev.bind (Ev.const ha) (Ev.pos rfl (Ev.bind (Ev.const (show octet_Read.f t = some (t, 0) from rfl)) (Ev.bind (Ev.const h1) (Ev.bind (Ev.const h2) (Ev.bind (Ev.const h3) (Ev.bind (Ev.const h4) (Ev.bind (Ev.const h5) (Ev.bind (Ev.const h6) hE))))))))
  by_cases hc : (e' = 0 ∧ rr.size = 0) ∧ chkS n1 n2 n3 n4 m5 M = 0
  · unfold finS at hf
    rw [if_pos hc] at hf
    obtain ⟨q6, x6⟩ := hq hc.1.1
    obtain ⟨q5, _, x5⟩ := s6 q6
    obtain ⟨_, x0⟩ := hs q5
    have hr : rr = noB := ByteArray.ext_getElem hc.1.2 (fun i hi => by have := hc.1.2; omega)
    refine ⟨n1, n2, n3, n4, m5, M, 0, hf, Or.inl ⟨rfl, hc.2, by omega, ?_⟩⟩
    unfold sysB listsB
    rw [x0, x5, x6, hr, foldB_app gateB M (numB _), hM, show foldB gateB M noB ++ noB = foldB gateB M noB from ByteArray.append_empty]
  · unfold finS at hf
    rw [if_neg hc] at hf
    exact ⟨0, 0, 0, 0, 0, [], 3, hf, Or.inr ⟨rfl, rfl, rfl, rfl, rfl, rfl, rfl⟩⟩
/-! What was written is read. -/
def inG (g : S107) : Prop := (0 ≤ g.f0 ∧ g.f0 ≤ 100) ∧ (0 ≤ g.f1 ∧ g.f1 ≤ 100) ∧ (0 ≤ g.f2 ∧ g.f2 ≤ 100) ∧ (0 ≤ g.f3 ∧ g.f3 ≤ 100) ∧ (0 ≤ g.f4 ∧ g.f4 ≤ 100)
theorem goS_all (w c : Int) : ∀ (L : List S107) (n : Int), 0 ≤ n → n ≤ 64 → (goS w c L n).2 = 0 → ∀ g ∈ L, inG g
  | [], _, _, _, _ => fun _ h => by cases h
  | g :: L, n, n0, n1, h => by
    unfold goS at h
    by_cases q : (gateS w c g.f0 g.f1 g.f2 g.f3 g.f4 n).2 = 0
    · rw [if_pos q] at h
      have hb := gateS_le (w := w) (c := c) (kind := g.f0) (dst := g.f1) (a := g.f2) (b := g.f3) (s := g.f4) n0 n1
      have hk := gateS_ok n0 n1 q
      intro x hx
      rcases List.mem_cons.1 hx with rfl | hx
      · exact hk.2
      · exact goS_all w c L _ hb.1 hb.2 h x hx
    · rw [if_neg q] at h
      exact absurd h q
theorem chkS_ok {w r c p q : Int} {L : List S107} (h : chkS w r c p q L = 0) : (0 ≤ w ∧ w ≤ 100) ∧ (0 ≤ r ∧ r ≤ 100) ∧ (0 ≤ c ∧ c ≤ 100) ∧ (0 ≤ p ∧ p ≤ 100) ∧ (0 ≤ q ∧ q ≤ 100) ∧ L.length ≤ 30 ∧ ∀ g ∈ L, inG g := by
  have hc := pw_le c
  unfold chkS at h
  by_cases h1 : w < 0 ∨ w > 5 ∨ r < 0 ∨ r > 4 ∨ c < 0 ∨ c > 6
  · rw [if_pos h1] at h
    exact absurd h (by decide)
  rw [if_neg h1] at h
  by_cases h2 : p < 0 ∨ q < 0 ∨ p + q > pw c
  · rw [if_pos h2] at h
    exact absurd h (by decide)
  rw [if_neg h2] at h
  by_cases h3 : (L.length : Int) > 30
  · rw [if_pos h3] at h
    exact absurd h (by decide)
  rw [if_neg h3] at h
  exact ⟨by omega, by omega, by omega, by omega, by omega, by omega, goS_all w c L (p + q) (by omega) (by omega) h⟩
theorem one_cmp {n : Int} (h : 0 ≤ n ∧ n ≤ 100) (r : ByteArray) : proof_ReadSystem_1.f (numB n ++ r) 0 = some (n, r, 0) := (rs1 _ _).trans (Num_cmp (by omega) (by omega) (by omega) r)
theorem rs_cmp (w r c p q : Int) (n : Nat) (hn : n ≤ 30) : ∀ (M acc : List S107) (i : Nat), i + M.length = n → acc.length ≤ i → (∀ g ∈ M, inG g) → Ev (fun k => proof_ReadSystem.l0 k (n : Int) (i : Int) (foldB gateB M noB) 0 w r c p q acc) (finS w r c p q (acc ++ M) noB 0)
  | [], acc, i, hi, ha, _ => by
    obtain rfl : i = n := by simpa using hi
    rw [List.append_nil]
    exact rs_end w r c p q i acc noB 0
  | g :: M, acc, i, hi, ha, hg => by
    rw [List.length_cons] at hi
    have ih := rs_cmp w r c p q n hn M (acc ++ [g]) (i + 1) (by omega) (by rw [List.length_append, List.length_singleton]; omega) (fun x hx => hg x (List.mem_cons_of_mem _ hx))
    rw [List.append_assoc] at ih
    obtain ⟨g1, g2, g3, g4, g5⟩ := hg g (List.mem_cons_self ..)
    rw [foldB_one, show gateB g ++ foldB gateB M noB = numB g.f0 ++ (numB g.f1 ++ (numB g.f2 ++ (numB g.f3 ++ (numB g.f4 ++ foldB gateB M noB)))) by unfold gateB n5; simp only [ByteArray.append_assoc]]
    refine Ev.succ ?_
    simp only [proof_ReadSystem.l0]
    rw [wrS i (by omega)]
    exact Ev.pos (by omega) (Ev.bind (Ev.const (one_cmp g1 _)) (Ev.bind (Ev.const (one_cmp g2 _)) (Ev.bind (Ev.const (one_cmp g3 _)) (Ev.bind (Ev.const (one_cmp g4 _)) (Ev.bind (Ev.const (one_cmp g5 _)) (Ev.pos (by omega) ih))))))
theorem ReadSystem_cmp {w r c p q : Int} {L : List S107} (h : chkS w r c p q L = 0) : Ev (fun k => proof_ReadSystem.f k (sysB w r c p q L)) (w, r, c, p, q, L, 0) := by
  obtain ⟨h1, h2, h3, h4, h5, hL, hg⟩ := chkS_ok h
  have hz1 := n5_size w r c p q
  have hz2 := listsB_size L
  have ha : proof_ask.f (sysB w r c p q L) = some 0 := by
    unfold proof_ask.f
    rw [if_neg (by unfold sysB; rw [ByteArray.size_append]; omega)]
  have e : sysB w r c p q L = numB w ++ (numB r ++ (numB c ++ (numB p ++ (numB q ++ (numB (L.length : Int) ++ foldB gateB L noB))))) := by
    unfold sysB listsB n5
    rw [foldB_app gateB L (numB _)]
    simp only [ByteArray.append_assoc]
  have hl := rs_cmp w r c p q L.length hL L [] 0 (by omega) (Nat.le_refl _) hg
  rw [List.nil_append] at hl
  unfold finS at hl
  rw [if_pos ⟨⟨rfl, rfl⟩, h⟩] at hl
  unfold proof_ReadSystem.f
  refine Ev.bind (Ev.const ha) (Ev.pos rfl (Ev.bind (Ev.const (show octet_Read.f (sysB w r c p q L) = some (sysB w r c p q L, 0) from rfl)) ?_))
  rw [e]
  exact Ev.bind (Ev.const (one_cmp h1 _)) (Ev.bind (Ev.const (one_cmp h2 _)) (Ev.bind (Ev.const (one_cmp h3 _)) (Ev.bind (Ev.const (one_cmp h4 _)) (Ev.bind (Ev.const (one_cmp h5 _)) (Ev.bind (Ev.const (Num_cmp (by omega) (by omega) (by omega) _)) hl)))))
/-! The same systems. -/
theorem gates_l0 (w r c p q : Int) (L : List S107) (hL : L.length ≤ 1000) : ∀ d i : Nat, i + d = L.length → Ev (fun k => steeplelaw29_gates.l0 k (i : Int) w r c p q L w r c p q L) true
  | 0, i, h => by
    refine Ev.succ ?_
    simp only [steeplelaw29_gates.l0]
    exact Ev.neg (by omega) (Ev.now _)
  | d + 1, i, h => by
    have ih := gates_l0 w r c p q L hL d (i + 1) (by omega)
    refine Ev.succ ?_
    simp only [steeplelaw29_gates.l0]
    rw [wrS i (by omega)]
    exact Ev.pos (by omega) (Ev.pos (by omega) (Ev.pos (by omega) (Ev.neg (by simp) ih)))
theorem gates_ev (w r c p q : Int) (L : List S107) (hL : L.length ≤ 1000) : Ev (fun k => steeplelaw29_gates.f k w r c p q L w r c p q L) true := by
  have hl := gates_l0 w r c p q L hL L.length 0 (by omega)
  unfold steeplelaw29_gates.f
  refine Ev.pos rfl (Ev.pos rfl (Ev.pos rfl (Ev.pos rfl (Ev.pos rfl (Ev.succ ?_)))))
  simp only [steeplelaw29_gates.j0]
  exact Ev.neg (by simp) hl
end Go.Proofs.Ythgiifakcgjlaaa.Br
