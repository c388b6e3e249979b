/- The bytes of an element, the lowest first (octet.bytes). Conditions: none. -/
import Derived.Test.YthgiifakcgjlaaaPx0
import Derived.Laws.CopyOwn
set_option linter.unusedVariables false
set_option linter.unusedSimpArgs false
namespace Go.Proofs.Ythgiifakcgjlaaa.P
open Go.RowKit Go.Proofs.YthgiifakcgjlaaaX Go.Proofs.YthgiifakcgjlaaaW.PrintWords Go.Proofs.YthgiifakcgjlaaaW.PrintLast Go.Proofs.YthgiifakcgjlaaaW.PrintMore
/-- Byte j. -/
def eByte (hi lo : Int) (j : Nat) : Int := IntKind.u8.wrap ((if j < 8 then lo else hi) / 2 ^ (8 * ((j % 8 : Nat) : Int)).toNat)
theorem eByte_lo (hi lo : Int) {m : Nat} (h : m < 8) : eByte hi lo m = IntKind.u8.wrap (lo / 2 ^ (8 * (m : Int)).toNat) := by
  unfold eByte
  rw [if_pos h, Nat.mod_eq_of_lt h]
theorem eByte_hi (hi lo : Int) {m : Nat} (h : m < 8) : eByte hi lo (8 + m) = IntKind.u8.wrap (hi / 2 ^ (8 * (m : Int)).toNat) := by
  unfold eByte
  rw [if_neg (by omega), show (8 + m) % 8 = m by omega]
end Go.Proofs.Ythgiifakcgjlaaa.P
