/- What is read off any text, made again, is the text's beginning. Conditions: none but the arguments' kinds. -/
import Derived.Test.YtflddolfmaoalaaOcRE
import Derived.Test.YtflddolfmaoalaaOcAw
import Derived.Test.YtflddolfmaoalaaPx7
import Derived.Test.YtflddolfmaoalaaPx9
set_option linter.unusedVariables false
set_option linter.unusedSimpArgs false
namespace Go.Proofs.Ytflddolfmaoalaa.Pure
open Go.RowKit Go.Proofs.YtflddolfmaoalaaT Go.Proofs.Ytflddolfmaoalaa.P Go.Proofs.Ytflddolfmaoalaa.Br Go.Proofs.YtflddolfmaoalaaW.PrintWords Go.Proofs.YtflddolfmaoalaaW.PrintLast
theorem Left_f (r : ByteArray) : octet_Reader_Left.f r 0 = some ((r.size : Int), r, 0) := by
  unfold octet_Reader_Left.f octet_Reader_Fail.f
  rw [Option.bind_some, if_pos rfl]
theorem left_n {s r : ByteArray} (h : (s ++ r).size ≤ 3000) : wrap64 (((s ++ r).size : Int) - (r.size : Int)) = (s.size : Int) := by
  rw [ByteArray.size_append] at h ⊢
  unfold wrap64
  omega
theorem OctetOne_j2 (b : ByteArray) (a : Int) (hb : b.size ≤ 3000) : Ev (fun k => steeplelaw01_OctetOne.j2 k b a false) true := by
  obtain ⟨L, r, e, hL, hs⟩ := Elems_snd b 0 a 200
  refine Ev.succ ?_
  simp only [steeplelaw01_OctetOne.j2]
  refine Ev.neg (by decide) (Ev.bind (Ev.now _) (Ev.bind hL (Ev.bind (Ev.now _) ?_)))
  by_cases he : e = 0
  · subst he
    obtain ⟨_, M, rfl, hM, hB⟩ := hs rfl
    have hz := hb
    rw [hB] at hz
    have hn := left_n hz
    rw [← hB] at hn
    have hx : b.extract 0 (elemsB a M).size = elemsB a M := by rw [hB]; exact app_pre
    have hle : (elemsB a M).size ≤ b.size := by rw [hB, ByteArray.size_append]; omega
    refine Ev.pos rfl (Ev.bind (Elems_ev a (by omega)) (Ev.bind (Ev.const (Left_f r)) ?_))
    show Ev (fun k => if 0 ≤ (wrap64 ((b.size : Int) - (r.size : Int))) then (if (wrap64 ((b.size : Int) - (r.size : Int))) ≤ (b.size : Int) then some ((elemsB a M).toList == (b.extract 0 (wrap64 ((b.size : Int) - (r.size : Int))).toNat).toList) else none) else none) true
    rw [hn, Int.toNat_natCast, hx, beq_self_eq_true]
    exact Ev.pos (by omega) (Ev.pos (by omega) (Ev.now _))
  · exact Ev.neg he (Ev.now _)
theorem OctetOne_j1 (b : ByteArray) (a : Int) (hb : b.size ≤ 3000) : Ev (fun k => steeplelaw01_OctetOne.j1 k b a false) true := by
  obtain ⟨L, r, e, hL, hs⟩ := List_snd b 0 200 3000
  refine Ev.succ ?_
  simp only [steeplelaw01_OctetOne.j1]
  refine Ev.neg (by decide) (Ev.bind (Ev.now _) (Ev.bind hL (Ev.bind (Ev.now _) ?_)))
  by_cases he : e = 0
  · subst he
    obtain ⟨_, hM, hB⟩ := hs rfl
    have hz := hb
    rw [hB] at hz
    have hn := left_n hz
    rw [← hB] at hn
    have hx : b.extract 0 (listB L).size = listB L := by rw [hB]; exact app_pre
    have hle : (listB L).size ≤ b.size := by rw [hB, ByteArray.size_append]; omega
    refine Ev.pos rfl (Ev.bind (List_ev (L := L) (by omega) (by omega)) (Ev.bind (Ev.const (Left_f r)) ?_))
    show Ev (fun k => if 0 ≤ (wrap64 ((b.size : Int) - (r.size : Int))) then (if (wrap64 ((b.size : Int) - (r.size : Int))) ≤ (b.size : Int) then steeplelaw01_OctetOne.j2 k b a ((listB L).toList != (b.extract 0 (wrap64 ((b.size : Int) - (r.size : Int))).toNat).toList) else none) else none) true
    rw [hn, Int.toNat_natCast, hx, bne_self_eq_false]
    exact Ev.pos (by omega) (Ev.pos (by omega) (OctetOne_j2 b a hb))
  · exact Ev.neg he (OctetOne_j2 b a hb)
theorem OctetOne_j0 (b : ByteArray) (a : Int) (hb : b.size ≤ 3000) : Ev (fun k => steeplelaw01_OctetOne.j0 k b a false) true := by
  obtain ⟨n, r, e, hN, hn, _, hs⟩ := Num_snd b 0 1048576
  refine Ev.succ ?_
  simp only [steeplelaw01_OctetOne.j0]
  refine Ev.neg (by decide) (Ev.bind (Ev.now _) (Ev.bind (Ev.const hN) (Ev.bind (Ev.now _) ?_)))
  by_cases he : e = 0
  · subst he
    obtain ⟨_, _, hB⟩ := hs rfl
    have h4 : (numB (n : Int)).size = 4 := numB_size (by omega) (by omega)
    have hx : b.extract 0 4 = numB (n : Int) := by rw [hB, ← h4]; exact app_pre
    have hle : 4 ≤ b.size := by rw [hB, ByteArray.size_append]; omega
    refine Ev.pos rfl (Ev.bind (Ev.const (Num_f _)) (Ev.pos (by decide) (Ev.pos (by omega) ?_)))
    rw [hx, bne_self_eq_false]
    exact OctetOne_j1 b a hb
  · exact Ev.neg he (OctetOne_j1 b a hb)
theorem OctetOne : steeplelaw01_OctetOne.Pure := by
  intro b a hb ha
  refine Ev.rounds ?_
  unfold steeplelaw01_OctetOne.f
  by_cases h : (b.size : Int) > 3000
  · refine Ev.pos h (Ev.succ ?_)
    simp only [steeplelaw01_OctetOne.j0]
    exact Ev.pos trivial (Ev.bind awake_ev (Ev.now _))
  · exact Ev.neg h (Ev.bind awake_ev (OctetOne_j0 b a (by omega)))
end Go.Proofs.Ytflddolfmaoalaa.Pure
