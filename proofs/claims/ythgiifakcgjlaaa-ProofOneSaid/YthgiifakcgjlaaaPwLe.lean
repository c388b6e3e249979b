/- Lists that a reader reads one by one, in general: what is read, written again, stood there; what was written is read. Conditions: those that each theorem names. -/
import Derived.Test.YthgiifakcgjlaaaOcRE
import Derived.Test.YthgiifakcgjlaaaPwA
import Derived.Test.YthgiifakcgjlaaaHEachL
set_option linter.unusedVariables false
set_option linter.unusedSimpArgs false
namespace Go.Proofs.Ythgiifakcgjlaaa.Br
open Go.RowKit Go.Proofs.YthgiifakcgjlaaaT Go.Proofs.Ythgiifakcgjlaaa.P Go.Proofs.YthgiifakcgjlaaaW.PrintWords Go.Proofs.YthgiifakcgjlaaaW.PrintLast
section
variable {α : Type}
/-- All written, one behind the other. -/
def foldB (B : α → ByteArray) (L : List α) (s : ByteArray) : ByteArray := L.foldl (fun s a => s ++ B a) s
def listsB (B : α → ByteArray) (L : List α) : ByteArray := foldB B L (numB (L.length : Int))
theorem foldB_cons (B : α → ByteArray) (a : α) (L : List α) (s : ByteArray) : foldB B (a :: L) s = foldB B L (s ++ B a) := rfl
theorem foldB_app (B : α → ByteArray) : ∀ (L : List α) (s : ByteArray), foldB B L s = s ++ foldB B L noB
  | [], s => (ByteArray.append_empty).symm
  | a :: L, s => by
    rw [foldB_cons, foldB_cons, foldB_app B L (s ++ B a), foldB_app B L (noB ++ B a), ByteArray.append_assoc, show noB ++ B a = B a from ByteArray.empty_append]
theorem foldB_one (B : α → ByteArray) (a : α) (L : List α) : foldB B (a :: L) noB = B a ++ foldB B L noB := by
  rw [foldB_cons, foldB_app, show noB ++ B a = B a from ByteArray.empty_append]
theorem foldB_size (B : α → ByteArray) : ∀ (L : List α) (s : ByteArray), s.size ≤ (foldB B L s).size
  | [], s => Nat.le_refl _
  | a :: L, s => by
    have h := foldB_size B L (s ++ B a)
    rw [ByteArray.size_append] at h
    rw [foldB_cons]
    omega
theorem wrapS (i : Nat) (h : i < 9223372036854775807) : wrap64 ((i : Int) + 1) = ((i + 1 : Nat) : Int) := by unfold wrap64; omega
/-- How a list is read, one by one. -/
def Reads (one : Nat → ByteArray → Int → Option (α × ByteArray × Int)) (l0 : Nat → List α → Int → Int → ByteArray → Int → Option (List α × ByteArray × Int)) : Prop :=
  ∃ C : Nat, 4294967296 ≤ C ∧ ∀ k acc n i b e, l0 (k + 1) acc n i b e = if i < n then ((one k b e).bind fun bt => ((octet_Reader_Fail.f bt.2.1 bt.2.2).bind fun bu => (if bu.1 = 0 then (if acc.length < C then (l0 k (acc ++ [bt.1]) n (wrap64 (i + 1)) bu.2.1 bu.2.2) else (none)) else (some (([] : List α), bu.2.1, bu.2.2))))) else (some (acc, b, e))
variable {one : Nat → ByteArray → Int → Option (α × ByteArray × Int)} {l0 : Nat → List α → Int → Int → ByteArray → Int → Option (List α × ByteArray × Int)} {B : α → ByteArray} {P : α → Prop}
theorem lists_snd_l0 (hr : Reads one l0) (hone : ∀ b e, ∃ a r e', Ev (fun k => one k b e) (a, r, e') ∧ (e' = 0 → e = 0 ∧ P a ∧ b = B a ++ r)) (n : Nat) (hn : n ≤ 2147483647) :
    ∀ (d i : Nat) (acc : List α) (b : ByteArray) (e : Int), i + d = n → acc.length = i → ∃ L r e', Ev (fun k => l0 k acc (n : Int) (i : Int) b e) (L, r, e') ∧ (e' = 0 → (d ≠ 0 ∨ e = 0) → ∃ M, L = acc ++ M ∧ M.length = d ∧ (∀ a ∈ M, P a) ∧ b = foldB B M noB ++ r)
  | 0, i, acc, b, e, hi, ha => by
    obtain ⟨C, hC, heq⟩ := hr
    refine ⟨acc, b, e, Ev.succ ?_, fun _ _ => ⟨[], (List.append_nil _).symm, rfl, fun _ h => (by cases h), (ByteArray.empty_append).symm⟩⟩
    simp only [heq]
    exact Ev.neg (by omega) (Ev.now _)
  | d + 1, i, acc, b, e, hi, ha => by
    obtain ⟨a, r, e1, h1, s1⟩ := hone b e
    obtain ⟨C, hC, heq⟩ := id hr
    by_cases he : e1 = 0
    · obtain ⟨L, r2, e2, h2, s2⟩ := lists_snd_l0 hr hone n hn d (i + 1) (acc ++ [a]) r e1 (by omega) (by rw [List.length_append, List.length_singleton, ha])
      refine ⟨L, r2, e2, Ev.succ ?_, fun q _ => ?_⟩
      · simp only [heq]
        refine Ev.pos (by omega) (Ev.bind h1 (Ev.bind (Ev.const (show octet_Reader_Fail.f r e1 = some (e1, r, e1) from rfl)) (Ev.pos he (Ev.pos (by omega) ?_))))
        rw [wrapS i (by omega)]
        exact h2
      · obtain ⟨M, hM1, hM2, hM3, hM4⟩ := s2 q (Or.inr he)
        obtain ⟨_, hp, hb⟩ := s1 he
        refine ⟨a :: M, by rw [hM1, List.append_assoc]; rfl, by rw [List.length_cons, hM2], fun x hx => ?_, ?_⟩
        · rcases List.mem_cons.1 hx with rfl | hx
          · exact hp
          · exact hM3 x hx
        · rw [hb, hM4, foldB_one, ByteArray.append_assoc]
    · refine ⟨[], r, e1, Ev.succ ?_, fun q => absurd q he⟩
      simp only [heq]
      exact Ev.pos (by omega) (Ev.bind h1 (Ev.bind (Ev.const (show octet_Reader_Fail.f r e1 = some (e1, r, e1) from rfl)) (Ev.neg he (Ev.now _))))
theorem lists_snd (hr : Reads one l0) (hone : ∀ b e, ∃ a r e', Ev (fun k => one k b e) (a, r, e') ∧ (e' = 0 → e = 0 ∧ P a ∧ b = B a ++ r)) (b : ByteArray) (e : Int) :
    ∃ L r e', Ev (fun k => (octet_Reader_Num.f b e 4096).bind fun bt => l0 k ([] : List α) bt.1 0 bt.2.1 bt.2.2) (L, r, e') ∧ (e' = 0 → e = 0 ∧ L.length ≤ 4096 ∧ (∀ a ∈ L, P a) ∧ b = listsB B L ++ r) := by
  obtain ⟨n, r, e1, h1, hn, hz, s1⟩ := Num_snd b e 4096
  obtain ⟨L, r2, e2, h2, s2⟩ := lists_snd_l0 hr hone n hn n 0 [] r e1 (by omega) rfl
  refine ⟨L, r2, e2, Ev.bind (Ev.const h1) h2, fun q => ?_⟩
  by_cases he : e1 = 0
  · obtain ⟨M, hM1, hM2, hM3, hM4⟩ := s2 q (Or.inr he)
    obtain ⟨he0, hle, hb⟩ := s1 he
    rw [List.nil_append] at hM1
    subst hM1
    refine ⟨he0, by omega, hM3, ?_⟩
    unfold listsB
    rw [foldB_app, hM2, hb, hM4, ByteArray.append_assoc]
  · have hn0 : n = 0 := Classical.byContradiction fun t => he (hz t)
    subst hn0
    exfalso
    obtain ⟨C, hC, heq⟩ := hr
    have h3 : Ev (fun k => l0 k ([] : List α) ((0 : Nat) : Int) ((0 : Nat) : Int) r e1) (([] : List α), r, e1) := by
      refine Ev.succ ?_
      simp only [heq]
      exact Ev.neg (by omega) (Ev.now _)
    obtain ⟨K1, q1⟩ := h2
    obtain ⟨K2, q2⟩ := h3
    have t := (q1 (K1 + K2) (by omega)).symm.trans (q2 (K1 + K2) (by omega))
    injection t with t
    injection t with _ t
    injection t with _ t
    exact he (t.symm.trans q)
end
end Go.Proofs.Ythgiifakcgjlaaa.Br
