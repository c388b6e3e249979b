/- Lists that a reader reads one by one, in general: what is read, written again, stood there; what was written is read. Conditions: those that each theorem names. -/
import Derived.Test.YthgiifakcgjlaaaOcRE
import Derived.Test.YthgiifakcgjlaaaPwA
import Derived.Test.YthgiifakcgjlaaaHEachL
set_option linter.unusedVariables false
set_option linter.unusedSimpArgs false
namespace Go.Proofs.Ythgiifakcgjlaaa.Br
open Go.RowKit Go.Proofs.YthgiifakcgjlaaaT Go.Proofs.Ythgiifakcgjlaaa.P Go.Proofs.YthgiifakcgjlaaaW.PrintWords Go.Proofs.YthgiifakcgjlaaaW.PrintLast
section
variable {α : Type}
/-- All written, one behind the other. -/
def foldB (B : α → ByteArray) (L : List α) (s : ByteArray) : ByteArray := L.foldl (fun s a => s ++ B a) s
def listsB (B : α → ByteArray) (L : List α) : ByteArray := foldB B L (numB (L.length : Int))
theorem foldB_cons (B : α → ByteArray) (a : α) (L : List α) (s : ByteArray) : foldB B (a :: L) s = foldB B L (s ++ B a) := rfl
theorem foldB_app (B : α → ByteArray) : ∀ (L : List α) (s : ByteArray), foldB B L s = s ++ foldB B L noB
  | [], s => (ByteArray.append_empty).symm
  | a :: L, s => by
    rw [foldB_cons, foldB_cons, foldB_app B L (s ++ B a), foldB_app B L (noB ++ B a), ByteArray.append_assoc, show noB ++ B a = B a from ByteArray.empty_append]
theorem foldB_one (B : α → ByteArray) (a : α) (L : List α) : foldB B (a :: L) noB = B a ++ foldB B L noB := by
  rw [foldB_cons, foldB_app, show noB ++ B a = B a from ByteArray.empty_append]
theorem foldB_size (B : α → ByteArray) : ∀ (L : List α) (s : ByteArray), s.size ≤ (foldB B L s).size
  | [], s => Nat.le_refl _
  | a :: L, s => by
    have h := foldB_size B L (s ++ B a)
    rw [ByteArray.size_append] at h
    rw [foldB_cons]
    omega
theorem foldB_few (B : α → ByteArray) {m : Nat} : ∀ (L : List α) (s : ByteArray), (∀ a ∈ L, (B a).size ≤ m) → (foldB B L s).size ≤ s.size + L.length * m
  | [], s, _ => by
    show s.size ≤ _
    omega
  | a :: L, s, h => by
    have h1 := foldB_few B L (s ++ B a) (fun x hx => h x (List.mem_cons_of_mem _ hx))
    have h2 := h a (List.mem_cons_self ..)
    rw [ByteArray.size_append] at h1
    rw [foldB_cons, List.length_cons, Nat.succ_mul]
    omega
theorem wrapS (i : Nat) (h : i < 9223372036854775807) : wrap64 ((i : Int) + 1) = ((i + 1 : Nat) : Int) := by unfold wrap64; omega
/-- How a list is read, one by one. -/
def Reads (one : Nat → ByteArray → Int → Option (α × ByteArray × Int)) (l0 : Nat → List α → Int → Int → ByteArray → Int → Option (List α × ByteArray × Int)) : Prop :=
  ∃ C : Nat, 4294967296 ≤ C ∧ ∀ k acc n i b e, l0 (k + 1) acc n i b e = if i < n then ((one k b e).bind fun bt => ((octet_Reader_Fail.f bt.2.1 bt.2.2).bind fun bu => (if bu.1 = 0 then (if acc.length < C then (l0 k (acc ++ [bt.1]) n (wrap64 (i + 1)) bu.2.1 bu.2.2) else (none)) else (some (([] : List α), bu.2.1, bu.2.2))))) else (some (acc, b, e))
variable {one : Nat → ByteArray → Int → Option (α × ByteArray × Int)} {l0 : Nat → List α → Int → Int → ByteArray → Int → Option (List α × ByteArray × Int)} {B : α → ByteArray} {P : α → Prop}
theorem lists_cmp_l0 (hr : Reads one l0) (hone : ∀ a r, P a → Ev (fun k => one k (B a ++ r) 0) (a, r, 0)) (n : Nat) (hn : n ≤ 2147483647) (r : ByteArray) :
    ∀ (M acc : List α) (i : Nat), i + M.length = n → acc.length = i → (∀ a ∈ M, P a) → Ev (fun k => l0 k acc (n : Int) (i : Int) (foldB B M noB ++ r) 0) (acc ++ M, r, 0)
  | [], acc, i, hi, ha, hp => by
    have hi0 : i + 0 = n := hi
    obtain ⟨C, hC, heq⟩ := hr
    refine Ev.succ ?_
    simp only [heq]
    refine Ev.neg (by omega) ?_
    rw [List.append_nil, show foldB B [] noB ++ r = r from ByteArray.empty_append]
    exact Ev.now _
  | a :: M, acc, i, hi, ha, hp => by
    have hi1 : i + (M.length + 1) = n := hi
    obtain ⟨C, hC, heq⟩ := id hr
    have ih := lists_cmp_l0 hr hone n hn r M (acc ++ [a]) (i + 1) (by omega) (by rw [List.length_append, List.length_singleton, ha]) (fun x hx => hp x (List.mem_cons_of_mem _ hx))
    have h1 := hone a (foldB B M noB ++ r) (hp a (List.mem_cons_self ..))
    rw [← ByteArray.append_assoc, ← foldB_one] at h1
    refine Ev.succ ?_
    simp only [heq]
    refine Ev.pos (by omega) (Ev.bind h1 (Ev.bind (Ev.const (show octet_Reader_Fail.f (foldB B M noB ++ r) 0 = some (0, foldB B M noB ++ r, 0) from rfl)) (Ev.pos rfl (Ev.pos (by omega) ?_))))
    rw [wrapS i (by omega)]
    rw [List.append_assoc] at ih
    exact ih
theorem lists_cmp (hr : Reads one l0) (hone : ∀ a r, P a → Ev (fun k => one k (B a ++ r) 0) (a, r, 0)) {L : List α} (hL : L.length ≤ 4096) (hp : ∀ a ∈ L, P a) (r : ByteArray) :
    Ev (fun k => (octet_Reader_Num.f (listsB B L ++ r) 0 4096).bind fun bt => l0 k ([] : List α) bt.1 0 bt.2.1 bt.2.2) (L, r, 0) := by
  have h := lists_cmp_l0 hr hone L.length (by omega) r L [] 0 (Nat.zero_add _) rfl hp
  rw [List.nil_append] at h
  have e : listsB B L ++ r = numB (L.length : Int) ++ (foldB B L noB ++ r) := by unfold listsB; rw [foldB_app, ByteArray.append_assoc]
  rw [e]
  exact Ev.bind (Ev.const (Num_cmp (by omega) (by omega) (by omega) _)) h
end
end Go.Proofs.Ythgiifakcgjlaaa.Br
