/- The pure statement of the law ProofBytes: its printed function answers true. Conditions: none. -/
import Derived.Test.YthgiifakcgjlaaaPzQ
import Derived.Test.YthgiifakcgjlaaaHLawB
set_option linter.unusedVariables false
set_option linter.unusedSimpArgs false
namespace Go.Proofs.Ythgiifakcgjlaaa.Pure
open Go.RowKit Go.Proofs.YthgiifakcgjlaaaT Go.Proofs.Ythgiifakcgjlaaa.P Go.Proofs.Ythgiifakcgjlaaa.Br Go.Proofs.YthgiifakcgjlaaaW.PrintWords Go.Proofs.YthgiifakcgjlaaaW.PrintLast
theorem few09_l0 (L : List (List S61)) (hL : L.length < 2 ^ 60) (B : Int) : ∀ d i : Nat, i + d = L.length → ∃ b, Ev (fun k => steeplelaw09_Few.l0 k L B (i : Int)) b ∧ (b = true → ∀ j, i ≤ j → (h : j < L.length) → ((L[j]).length : Int) ≤ B)
  | 0, i, h => ⟨true, by
      refine Ev.succ ?_
      simp only [steeplelaw09_Few.l0]
      exact Ev.neg (by omega) (Ev.now _), fun _ j h1 h2 => by omega⟩
  | d + 1, i, h => by
    have hi : i < L.length := by omega
    obtain ⟨b, hb, hq⟩ := few09_l0 L hL B d (i + 1) (by omega)
    have hr : rd_L6 L (i : Int) = L[i] := by
      unfold rd_L6
      rw [Int.toNat_natCast, List.getD_eq_getElem?_getD, List.getElem?_eq_getElem hi, Option.getD_some]
    by_cases hc : ((L[i]).length : Int) > B
    · refine ⟨false, ?_, fun q => absurd q (by decide)⟩
      refine Ev.succ ?_
      simp only [steeplelaw09_Few.l0]
      refine Ev.pos (by omega) (Ev.pos (by omega) ?_)
      rw [hr]
      exact Ev.pos hc (Ev.now _)
    · refine ⟨b, ?_, fun q j h1 h2 => ?_⟩
      · refine Ev.succ ?_
        simp only [steeplelaw09_Few.l0]
        refine Ev.pos (by omega) (Ev.pos (by omega) ?_)
        rw [hr, wrap_succ i (by omega)]
        exact Ev.neg hc hb
      · by_cases he : j = i
        · subst he
          omega
        · exact hq q j (by omega) h2
theorem few09_ev (L : List (List S61)) (hL : L.length < 2 ^ 60) (A B : Int) : ∃ b, Ev (fun k => steeplelaw09_Few.f k L A B) b ∧ (b = true → (L.length : Int) ≤ A ∧ ∀ l ∈ L, (l.length : Int) ≤ B) := by
  by_cases hc : (L.length : Int) > A
  · refine ⟨false, ?_, fun q => absurd q (by decide)⟩
    unfold steeplelaw09_Few.f
    exact Ev.pos hc (Ev.now _)
  · obtain ⟨b, hb, hq⟩ := few09_l0 L hL B L.length 0 (Nat.zero_add _)
    refine ⟨b, ?_, fun q => ⟨by omega, fun l hl => ?_⟩⟩
    · unfold steeplelaw09_Few.f
      exact Ev.neg hc hb
    · obtain ⟨j, hj, rfl⟩ := List.getElem_of_mem hl
      exact hq q j (Nat.zero_le j) hj
theorem few01_l0 (L : List ByteArray) (hL : L.length < 2 ^ 60) (B : Int) : ∀ d i : Nat, i + d = L.length → ∃ b, Ev (fun k => steeplelaw01_Few.l0 k L B (i : Int)) b ∧ (b = true → ∀ j, i ≤ j → (h : j < L.length) → ((L[j]).size : Int) ≤ B)
  | 0, i, h => ⟨true, by
      refine Ev.succ ?_
      simp only [steeplelaw01_Few.l0]
      exact Ev.neg (by omega) (Ev.now _), fun _ j h1 h2 => by omega⟩
  | d + 1, i, h => by
    have hi : i < L.length := by omega
    obtain ⟨b, hb, hq⟩ := few01_l0 L hL B d (i + 1) (by omega)
    by_cases hc : ((L[i]).size : Int) > B
    · refine ⟨false, ?_, fun q => absurd q (by decide)⟩
      refine Ev.succ ?_
      simp only [steeplelaw01_Few.l0]
      refine Ev.pos (by omega) (Ev.pos (by omega) ?_)
      rw [rdOf_at hi]
      exact Ev.pos hc (Ev.now _)
    · refine ⟨b, ?_, fun q j h1 h2 => ?_⟩
      · refine Ev.succ ?_
        simp only [steeplelaw01_Few.l0]
        refine Ev.pos (by omega) (Ev.pos (by omega) ?_)
        rw [rdOf_at hi, wrap_succ i (by omega)]
        exact Ev.neg hc hb
      · by_cases he : j = i
        · subst he
          omega
        · exact hq q j (by omega) h2
theorem few01_ev (L : List ByteArray) (hL : L.length < 2 ^ 60) (A B : Int) : ∃ b, Ev (fun k => steeplelaw01_Few.f k L A B) b ∧ (b = true → (L.length : Int) ≤ A ∧ ∀ l ∈ L, (l.size : Int) ≤ B) := by
  by_cases hc : (L.length : Int) > A
  · refine ⟨false, ?_, fun q => absurd q (by decide)⟩
    unfold steeplelaw01_Few.f
    exact Ev.pos hc (Ev.now _)
  · obtain ⟨b, hb, hq⟩ := few01_l0 L hL B L.length 0 (Nat.zero_add _)
    refine ⟨b, ?_, fun q => ⟨by omega, fun l hl => ?_⟩⟩
    · unfold steeplelaw01_Few.f
      exact Ev.neg hc hb
    · obtain ⟨j, hj, rfl⟩ := List.getElem_of_mem hl
      exact hq q j (Nat.zero_le j) hj
theorem few29_ev (root : ByteArray) (z : List (List S61)) (wi : List S61) (c : List (List S61)) (v0 v1 : Int) (pa : List S61) (g : List (List S61)) (p0 p1 : Int) (ro : List S61) (o : List (List S61)) (pr : List ByteArray)
    (hz : z.length < 2 ^ 60) (hc : c.length < 2 ^ 60) (hg : g.length < 2 ^ 60) (ho : o.length < 2 ^ 60) (hp : pr.length < 2 ^ 60) :
    ∃ b, Ev (fun k => steeplelaw29_Few.f k root z wi c v0 v1 pa g p0 p1 ro o pr) b ∧ (b = true → root.size ≤ 100 ∧ wi.length ≤ 60 ∧ pa.length ≤ 130 ∧ ro.length ≤ 40 ∧ (z.length ≤ 40 ∧ ∀ l ∈ z, l.length ≤ 40) ∧ (c.length ≤ 40 ∧ ∀ l ∈ c, l.length ≤ 40) ∧ (g.length ≤ 40 ∧ ∀ l ∈ g, l.length ≤ 40) ∧ (o.length ≤ 40 ∧ ∀ l ∈ o, l.length ≤ 40) ∧ pr.length ≤ 60 ∧ ∀ t ∈ pr, t.size ≤ 100) := by
  have no : ∀ {q : Prop}, ((false : Bool) = true → q) := fun h => absurd h (by decide)
  unfold steeplelaw29_Few.f
  by_cases h1 : (root.size : Int) ≤ 100
  · by_cases h2 : (wi.length : Int) ≤ 60
    · by_cases h3 : (pa.length : Int) ≤ 130
      · by_cases h4 : (ro.length : Int) ≤ 40
        · obtain ⟨b1, e1, q1⟩ := few09_ev z hz 20 40
          cases b1 with
          | false => exact ⟨false, Ev.pos h1 (Ev.pos h2 (Ev.pos h3 (Ev.pos h4 (Ev.bind e1 (Ev.neg (by decide) (Ev.now _)))))), no⟩
          | true =>
            obtain ⟨b2, e2, q2⟩ := few09_ev c hc 20 40
            cases b2 with
            | false => exact ⟨false, Ev.pos h1 (Ev.pos h2 (Ev.pos h3 (Ev.pos h4 (Ev.bind e1 (Ev.pos rfl (Ev.bind e2 (Ev.neg (by decide) (Ev.now _)))))))), no⟩
            | true =>
              obtain ⟨b3, e3, q3⟩ := few09_ev g hg 20 40
              cases b3 with
              | false => exact ⟨false, Ev.pos h1 (Ev.pos h2 (Ev.pos h3 (Ev.pos h4 (Ev.bind e1 (Ev.pos rfl (Ev.bind e2 (Ev.pos rfl (Ev.bind e3 (Ev.neg (by decide) (Ev.now _)))))))))), no⟩
              | true =>
                obtain ⟨b4, e4, q4⟩ := few09_ev o ho 40 40
                cases b4 with
                | false => exact ⟨false, Ev.pos h1 (Ev.pos h2 (Ev.pos h3 (Ev.pos h4 (Ev.bind e1 (Ev.pos rfl (Ev.bind e2 (Ev.pos rfl (Ev.bind e3 (Ev.pos rfl (Ev.bind e4 (Ev.neg (by decide) (Ev.now _)))))))))))), no⟩
                | true =>
                  obtain ⟨b5, e5, q5⟩ := few01_ev pr hp 60 100
                  refine ⟨b5, Ev.pos h1 (Ev.pos h2 (Ev.pos h3 (Ev.pos h4 (Ev.bind e1 (Ev.pos rfl (Ev.bind e2 (Ev.pos rfl (Ev.bind e3 (Ev.pos rfl (Ev.bind e4 (Ev.pos rfl (Ev.bind e5 (Ev.now _))))))))))))), fun q => ?_⟩
                  have a1 := q1 rfl
                  have a2 := q2 rfl
                  have a3 := q3 rfl
                  have a4 := q4 rfl
                  have a5 := q5 q
                  exact ⟨by omega, by omega, by omega, by omega, ⟨by omega, fun l hl => by have := a1.2 l hl; omega⟩, ⟨by omega, fun l hl => by have := a2.2 l hl; omega⟩, ⟨by omega, fun l hl => by have := a3.2 l hl; omega⟩, ⟨by omega, fun l hl => by have := a4.2 l hl; omega⟩, by omega, fun l hl => by have := a5.2 l hl; omega⟩
        · exact ⟨false, Ev.pos h1 (Ev.pos h2 (Ev.pos h3 (Ev.neg h4 (Ev.now _)))), no⟩
      · exact ⟨false, Ev.pos h1 (Ev.pos h2 (Ev.neg h3 (Ev.now _))), no⟩
    · exact ⟨false, Ev.pos h1 (Ev.neg h2 (Ev.now _)), no⟩
  · exact ⟨false, Ev.neg h1 (Ev.now _), no⟩
/-! Sizes. -/
theorem elsB_le (a : Int) : ∀ (M : List (T 7)) (s : ByteArray), (elsB a M s).size ≤ s.size + 16 * M.length
  | [], s => by
    show s.size ≤ _
    omega
  | x :: M, s => by
    have h2 := bytesE_le a x
    have ih := elsB_le a M (s ++ bytesE a x)
    rw [ByteArray.size_append] at ih
    show (if ofB a x = true then elsB a M (s ++ bytesE a x) else noB).size ≤ _
    rw [List.length_cons]
    split
    · omega
    · show 0 ≤ _
      omega
theorem elems_le (a : Int) (M : List (T 7)) : (elemsB a M).size ≤ 4 + 16 * M.length := by
  have h1 := numB_le (M.length : Int)
  have h2 := elsB_le a M (numB (M.length : Int))
  unfold elemsB
  split
  · show 0 ≤ _
    omega
  · omega
theorem ls_le (a : Int) (Z : List (List (T 7))) (h : Z.length ≤ 40) (hl : ∀ M ∈ Z, M.length ≤ 40) : (lsB a Z).size ≤ 25764 := by
  have h1 := numB_le (Z.length : Int)
  have h2 := foldB_few (elemsB a) (m := 644) Z (numB (Z.length : Int)) (fun M hM => by have := elems_le a M; have := hl M hM; omega)
  have h3 : Z.length * 644 ≤ 40 * 644 := Nat.mul_le_mul_right _ h
  unfold lsB listsB
  omega
theorem lst_le : ∀ (L : List ByteArray) (s : ByteArray), (∀ t ∈ L, t.size ≤ 100) → (lstB L s).size ≤ s.size + 104 * L.length
  | [], s, _ => by
    show s.size ≤ _
    omega
  | t :: L, s, h => by
    have ih := lst_le L (s ++ textB t) (fun x hx => h x (List.mem_cons_of_mem _ hx))
    have h1 := numB_le (t.size : Int)
    have h2 := h t (List.mem_cons_self ..)
    rw [ByteArray.size_append, textB_size] at ih
    rw [lstB_cons, List.length_cons]
    omega
/-! Lists of lists. -/
theorem LL_of : ∀ {L : List (List S61)}, (∀ l ∈ L, ∀ y ∈ l, (Lit.int .u64 y.f0).wf = true ∧ (Lit.int .u64 y.f1).wf = true) → ∃ Z : List (List (T 7)), L = mEE Z
  | [], _ => ⟨[], rfl⟩
  | l :: L, h => by
    obtain ⟨M, hM⟩ := elS_of (h l (List.mem_cons_self ..))
    obtain ⟨Z, hZ⟩ := LL_of (L := L) (fun l' hl => h l' (List.mem_cons_of_mem _ hl))
    exact ⟨M :: Z, by rw [hM, hZ]; rfl⟩
theorem mEE_len (Z : List (List (T 7))) : (mEE Z).length = Z.length := List.length_map ..
theorem mE_len (M : List (T 7)) : (mE M).length = M.length := List.length_map ..
theorem mEE_all {Z : List (List (T 7))} {n : Nat} (h : ∀ l ∈ mEE Z, l.length ≤ n) : ∀ M ∈ Z, M.length ≤ n := fun M hM => by
  have := h (mE M) (List.mem_map_of_mem hM)
  rwa [mE_len] at this
theorem few_B (a : Int) (root : ByteArray) (z : List (List (T 7))) (wi : List (T 7)) (c : List (List (T 7))) (v : T 7) (pa : List (T 7)) (g : List (List (T 7))) (p : T 7) (ro : List (T 7)) (o : List (List (T 7))) (pr : List ByteArray)
    (hr : root.size ≤ 100) (hwi : wi.length ≤ 60) (hpa : pa.length ≤ 130) (hro : ro.length ≤ 40) (hz : z.length ≤ 40 ∧ ∀ l ∈ z, l.length ≤ 40) (hc : c.length ≤ 40 ∧ ∀ l ∈ c, l.length ≤ 40) (hg : g.length ≤ 40 ∧ ∀ l ∈ g, l.length ≤ 40) (ho : o.length ≤ 40 ∧ ∀ l ∈ o, l.length ≤ 40) (hpr : pr.length ≤ 60) (hps : ∀ t ∈ pr, t.size ≤ 100) :
    fewB a root z wi c v pa g p ro o pr ∧ (proofB a root z wi c v pa g p ro o pr).size ≤ 1048576 := by
  have hp : ∀ t ∈ pieces a root z wi c v pa g p ro o pr, t.size ≤ 30000 := by
    intro t ht
    have n1 := numB_le a
    have n2 := numB_le (root.size : Int)
    have n3 := textB_size root
    have n4 := elems_le a wi
    have n5 := elems_le a pa
    have n6 := elems_le a ro
    have n7 := elems_le a [v]
    have n8 := elems_le a [p]
    have n9 := ls_le a z hz.1 hz.2
    have n10 := ls_le a c hc.1 hc.2
    have n11 := ls_le a g hg.1 hg.2
    have n12 := ls_le a o ho.1 ho.2
    have n13 := lst_le pr (numB (pr.length : Int)) hps
    have n14 := numB_le (pr.length : Int)
    rw [List.length_singleton] at n7 n8
    unfold pieces at ht
    simp only [List.mem_cons, List.not_mem_nil, or_false] at ht
    rcases ht with rfl | rfl | rfl | rfl | rfl | rfl | rfl | rfl | rfl | rfl | rfl | rfl
    · omega
    · omega
    · omega
    · omega
    · omega
    · omega
    · omega
    · omega
    · omega
    · omega
    · omega
    · unfold listB
      omega
  have hcat := cat_le (L := []) (pieces a root z wi c v pa g p ro o pr) noB hp
  have hlen : (pieces a root z wi c v pa g p ro o pr).length = 12 := rfl
  have hno : noB.size = 0 := rfl
  rw [hlen, hno] at hcat
  refine ⟨⟨fun t ht => by have := hp t ht; omega, by omega, by omega, by omega, by omega, by omega, fun Z hZ => ?_⟩, ?_⟩
  · simp only [List.mem_cons, List.not_mem_nil, or_false] at hZ
    rcases hZ with rfl | rfl | rfl | rfl
    · exact ⟨by omega, fun M hM => by have := hz.2 M hM; omega⟩
    · exact ⟨by omega, fun M hM => by have := hc.2 M hM; omega⟩
    · exact ⟨by omega, fun M hM => by have := hg.2 M hM; omega⟩
    · exact ⟨by omega, fun M hM => by have := ho.2 M hM; omega⟩
  · unfold proofB
    omega
theorem ProofBytes : steeplelaw29_ProofBytes.Pure := by
  intro a x ha hx
  obtain ⟨root, z0, wi0, c0, ⟨v0, v1⟩, pa0, g0, ⟨p0, p1⟩, ⟨ro0, o0, pr⟩⟩ := x
  obtain ⟨hroot, ⟨_, hz1, hz2⟩, ⟨_, hw1, hw2⟩, ⟨_, hc1, hc2⟩, hv, ⟨_, hpa1, hpa2⟩, ⟨_, hg1, hg2⟩, hp, ⟨_, hro1, hro2⟩, ⟨_, ho1, ho2⟩, ⟨_, hpr1, hpr2⟩⟩ := hx
  dsimp only at hroot hz1 hz2 hw1 hw2 hc1 hc2 hv hpa1 hpa2 hg1 hg2 hp hro1 hro2 ho1 ho2 hpr1 hpr2 ⊢
  obtain ⟨z, rfl⟩ := LL_of (fun l hl => (hz2 l hl).2.2)
  obtain ⟨wi, rfl⟩ := elS_of hw2
  obtain ⟨c, rfl⟩ := LL_of (fun l hl => (hc2 l hl).2.2)
  obtain ⟨v, rfl, rfl⟩ := el_of hv.1 hv.2
  obtain ⟨pa, rfl⟩ := elS_of hpa2
  obtain ⟨g, rfl⟩ := LL_of (fun l hl => (hg2 l hl).2.2)
  obtain ⟨p, rfl, rfl⟩ := el_of hp.1 hp.2
  obtain ⟨ro, rfl⟩ := elS_of hro2
  obtain ⟨o, rfl⟩ := LL_of (fun l hl => (ho2 l hl).2.2)
  have k1 : (mEE z).length < 2 ^ 60 := by omega
  have k2 : (mEE c).length < 2 ^ 60 := by omega
  have k3 : (mEE g).length < 2 ^ 60 := by omega
  have k4 : (mEE o).length < 2 ^ 60 := by omega
  have k5 : pr.length < 2 ^ 60 := by omega
  obtain ⟨b, hb, hq⟩ := few29_ev root (mEE z) (mE wi) (mEE c) (hiW v) (loW v) (mE pa) (mEE g) (hiW p) (loW p) (mE ro) (mEE o) pr k1 k2 k3 k4 k5
  refine Ev.rounds ?_
  clear hroot hz1 hz2 hw1 hw2 hc1 hc2 hv hpa1 hpa2 hg1 hg2 hp hro1 hro2 ho1 ho2 hpr1 hpr2
  show Ev (fun k => steeplelaw29_ProofBytes.f k a root (mEE z) (mE wi) (mEE c) (hiW v) (loW v) (mE pa) (mEE g) (hiW p) (loW p) (mE ro) (mEE o) pr) true
  unfold steeplelaw29_ProofBytes.f
  cases b with
  | false => exact Ev.bind hb (Ev.neg (by decide) (Ev.bind awake_ev (Ev.now _)))
  | true =>
    obtain ⟨q1, q2, q3, q4, q5, q6, q7, q8, q9, q10⟩ := hq rfl
    rw [mEE_len] at q5 q6 q7 q8
    rw [mE_len] at q2 q3 q4
    obtain ⟨hf, hsz⟩ := few_B a root z wi c v pa g p ro o pr q1 q2 q3 q4 ⟨q5.1, mEE_all q5.2⟩ ⟨q6.1, mEE_all q6.2⟩ ⟨q7.1, mEE_all q7.2⟩ ⟨q8.1, mEE_all q8.2⟩ q9 q10
    have hP := Proof_ev hf
    have hS := refShaped_ev a root z wi c v pa g p ro o pr (fewB_small hf)
    have hR := Ref29_ev root (hiW v) (loW v) (hiW p) (loW p) (fewB_small hf)
    cases hs : shB a root z wi c v pa g p ro o pr with
    | false =>
      rw [hs] at hS
      rw [if_neg (by rw [hs]; decide)] at hP
      exact Ev.bind hb (Ev.pos rfl (Ev.bind hR (Ev.bind hP (Ev.bind hS (Ev.neg (by decide) (Ev.bind awake_ev (Ev.pos rfl (Ev.pos rfl (Ev.const (show some (noB.toList == []) = some true by decide +kernel)))))))))) 
    | true =>
      rw [hs] at hS
      rw [if_pos hs] at hP
      have hC := ReadProof_cmp hf hs hsz
      have hB := refBytes_ev2 hf
      exact Ev.bind hb (Ev.pos rfl (Ev.bind hR (Ev.bind hP (Ev.bind hS (Ev.pos rfl (Ev.bind hC (Ev.bind awake_ev (Ev.pos rfl (Ev.pos rfl (Ev.bind hB (Ev.pos rfl (Ev.pos rfl (Ev.pos rfl (Ev.bind (Same29_ev hf) (Ev.now _)))))))))))))))
end Go.Proofs.Ythgiifakcgjlaaa.Pure
