/- Bytes, rounds and texts of both ways (layer 10), in plain Lean. Conditions: those that each theorem names. -/
import Derived.Test.YtmibjgjgfombaaaPmMul
import Derived.Test.YtmibjgjgfombaaaHSt
set_option linter.unusedVariables false
namespace Go.Proofs.Ytmibjgjgfombaaa.Br
open Go.RowKit Go.Proofs.YtmibjgjgfombaaaT Go.Proofs.Ytmibjgjgfombaaa.P Go.Proofs.YtmibjgjgfombaaaW.PrintWords Go.Proofs.YtmibjgjgfombaaaW.PrintLast Go.Proofs.YtmibjgjgfombaaaW.PrintMore
/-- Bytes. -/
def Byt (f : Nat → Nat) : Prop := ∀ n, n < 64 → f n < 256
def Eq64 (f g : Nat → Nat) : Prop := ∀ n, n < 64 → f n = g n
theorem Eq64.refl (f : Nat → Nat) : Eq64 f f := fun _ _ => rfl
theorem Eq64.trans {f g h : Nat → Nat} (a : Eq64 f g) (b : Eq64 g h) : Eq64 f h := fun n hn => (a n hn).trans (b n hn)
theorem Eq64.symm {f g : Nat → Nat} (a : Eq64 f g) : Eq64 g f := fun n hn => (a n hn).symm
theorem mixF_byt {f : Nat → Nat} (hf : Byt f) : Byt (mixF mlN f) := fun n hn => mixP_lt mlN_lt hf hn (Nat.le_refl _)
theorem turnF_byt {f : Nat → Nat} (q back : Bool) (hf : Byt f) : Byt (turnF q back f) := fun n hn => by
  have := tOf_lt q (n % 8)
  cases back
  · exact hf _ (by simp only [Bool.false_eq_true, if_false]; omega)
  · exact hf _ (by simp only [if_true]; omega)
theorem addF_byt {f : Nat → Nat} (q : Bool) (r : Nat) (hf : Byt f) : Byt (addF q r f) := fun n hn => by
  have h1 := hf n hn
  have h2 : (if q then f n ^^^ 255 else f n) < 256 := by
    cases q
    · exact h1
    · exact xor_lt h1 (by decide)
  unfold addF
  by_cases c : n % 8 = rowF q
  · rw [if_pos c]
    exact xor_lt h2 (Nat.mod_lt _ (by decide))
  · rw [if_neg c]
    exact h2
theorem bx_byt {f : Nat → Nat} (hf : Byt f) : Byt (fun n => bxN (f n)) := fun n hn => bxN_lt _ (hf n hn)
def rF (q : Bool) (r : Nat) (f : Nat → Nat) : Nat → Nat := roundF bxN mlN q r f
theorem rF_byt {f : Nat → Nat} (q : Bool) (r : Nat) (hf : Byt f) : Byt (rF q r f) := mixF_byt (turnF_byt q false (bx_byt (addF_byt q r hf)))
theorem wayF_byt {f : Nat → Nat} (q : Bool) (hf : Byt f) : Byt (wayF bxN mlN q f) := rF_byt q 5 (rF_byt q 4 (rF_byt q 3 (rF_byt q 2 (rF_byt q 1 (rF_byt q 0 hf)))))
theorem strF_size (f : Nat → Nat) : (strF f).size = 64 := by
  unfold strF
  rw [strOfNums_size, List.length_map, List.length_range]
theorem bF_strF {f : Nat → Nat} (hf : Byt f) : Eq64 (bF (strF f)) f := fun n hn => by
  unfold bF strF
  rw [strOfNums_data, List.getD_eq_getElem?_getD, List.getElem?_map, List.getElem?_map, List.getElem?_range hn]
  show (UInt8.ofNat ((f n : Nat) : Int).toNat).toNat = f n
  rw [Int.toNat_natCast, UInt8.toNat_ofNat']
  exact Nat.mod_eq_of_lt (hf n hn)
theorem strF_congr {f g : Nat → Nat} (h : Eq64 f g) : strF f = strF g := by
  unfold strF
  congr 1
  refine List.map_congr_left fun n hn => ?_
  rw [h n (List.mem_range.1 hn)]
theorem strF_bF {s : ByteArray} (hs : s.size = 64) : strF (bF s) = s := by
  have hl : s.data.toList.length = 64 := by rw [Array.length_toList]; exact hs
  have e : (strF (bF s)).data.toList = s.data.toList := by
    unfold strF
    rw [strOfNums_data]
    apply List.ext_getElem?
    intro n
    rw [List.getElem?_map, List.getElem?_map]
    by_cases hn : n < 64
    · rw [List.getElem?_range hn, List.getElem?_eq_getElem (by omega)]
      show some (UInt8.ofNat ((bF s n : Nat) : Int).toNat) = some (s.data.toList[n])
      unfold bF
      rw [Int.toNat_natCast, List.getD_eq_getElem?_getD, List.getElem?_eq_getElem (by omega)]
      show some (UInt8.ofNat (s.data.toList[n]).toNat) = _
      rw [UInt8.ofNat_toNat]
    · rw [List.getElem?_eq_none (by rw [List.length_range]; omega), List.getElem?_eq_none (by omega)]
      rfl
  rcases s with ⟨⟨l⟩⟩
  generalize strF (bF ⟨⟨l⟩⟩) = t at e
  rcases t with ⟨⟨m⟩⟩
  have : m = l := e
  rw [this]
end Go.Proofs.Ytmibjgjgfombaaa.Br
