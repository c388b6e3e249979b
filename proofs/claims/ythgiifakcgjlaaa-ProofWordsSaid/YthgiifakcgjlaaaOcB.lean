/- The bytes of numbers, texts and lists of texts: what octet and the reference come to. Conditions: those that each theorem names. -/
import Derived.Test.YthgiifakcgjlaaaBrBits
import Derived.Test.YthgiifakcgjlaaaHList
import Derived.Laws.Strings
import Derived.Lib.Bytes
import Derived.Test.YthgiifakcgjlaaaPx25
import Derived.Test.YthgiifakcgjlaaaPx28
import Derived.Test.YthgiifakcgjlaaaPx29
import Derived.Test.YthgiifakcgjlaaaPx5
import Derived.Test.YthgiifakcgjlaaaPx6
set_option linter.unusedVariables false
set_option linter.unusedSimpArgs false
namespace Go.Proofs.Ythgiifakcgjlaaa.Br
open Go.RowKit Go.Proofs.YthgiifakcgjlaaaT Go.Proofs.Ythgiifakcgjlaaa.P Go.Proofs.YthgiifakcgjlaaaW.PrintWords Go.Proofs.YthgiifakcgjlaaaW.PrintLast
def noB : ByteArray := ⟨#[]⟩
def numB (a : Int) : ByteArray := if a < 0 then noB else if a > 2147483647 then noB else strOfNums [a / 16777216 % 256, a / 65536 % 256, a / 256 % 256, a % 256]
theorem Num_f (a : Int) : octet_Num.f a = some (numB a) := by
  unfold octet_Num.f octet_join.f numB
  split
  · rfl
  · split
    · rfl
    · rfl
theorem refNum_f (a : Int) : steepleref01_Num.f a = some (numB a) := by
  unfold steepleref01_Num.f numB
  by_cases h0 : a < 0
  · rw [if_pos h0, if_pos h0]
    rfl
  · rw [if_neg h0, if_neg h0]
    by_cases h1 : a > 2147483647
    · rw [if_pos h1, if_pos h1]
      rfl
    · rw [if_neg h1, if_neg h1]
      have t1 : ∀ m : Int, Int.tdiv a m = a / m := fun m => Int.tdiv_eq_ediv_of_nonneg (by omega)
      have t2 : ∀ b : Int, 0 ≤ b → Int.tmod b 256 = b % 256 := fun b hb => Int.tmod_eq_emod_of_nonneg hb
      have w1 : wrap64 (a / 16777216) = a / 16777216 := by unfold wrap64; omega
      have w2 : wrap64 (a / 65536) = a / 65536 := by unfold wrap64; omega
      have w3 : wrap64 (a / 256) = a / 256 := by unfold wrap64; omega
      rw [t1, t1, t1, w1, w2, w3, t2 _ (by omega), t2 _ (by omega), t2 _ (by omega), Int.emod_emod_of_dvd _ (Int.dvd_refl 256), Int.emod_emod_of_dvd _ (Int.dvd_refl 256), Int.emod_emod_of_dvd _ (Int.dvd_refl 256)]
theorem numB_le (a : Int) : (numB a).size ≤ 4 := by
  unfold numB
  split
  · decide
  · split
    · decide
    · rw [strOfNums_size]
      exact Nat.le_refl 4
theorem numB_size {a : Int} (h0 : 0 ≤ a) (h1 : a ≤ 2147483647) : (numB a).size = 4 := by
  unfold numB
  rw [if_neg (by omega), if_neg (by omega), strOfNums_size]
  rfl
/-! Lists of texts. -/
end Go.Proofs.Ythgiifakcgjlaaa.Br
