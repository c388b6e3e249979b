/- Products of bytes are those of the field, and one to one (layer 10). Conditions: those that each theorem names. -/
import Derived.Test.YtmibjgjgfombaaaPmRef
set_option linter.unusedVariables false
namespace Go.Proofs.Ytmibjgjgfombaaa.Br
open Go.RowKit Go.Proofs.YtmibjgjgfombaaaT Go.Proofs.Ytmibjgjgfombaaa.P Go.Proofs.YtmibjgjgfombaaaW.PrintWords Go.Proofs.YtmibjgjgfombaaaW.PrintLast Go.Proofs.YtmibjgjgfombaaaW.PrintMore
theorem byte_enc {b : Nat} (hb : b < 256) : enc 3 (dec 3 b) = b := enc_dec_of_lt (by exact hb)
/-- A product of bytes is one of the field. -/
theorem mlN_eq (b q : Nat) (hb : b < 256) (hq : q ∈ mixL) : mlN q b = enc 3 (dec 3 q * dec 3 b) := by
  have hq7 := mixL_le hq
  obtain ⟨x, x0, x1⟩ := byte_el q (by omega)
  obtain ⟨y, y0, y1⟩ := byte_el b hb
  have hm := Mul_ev 3 x y
  have e : mulE 3 x y = x * y := if_pos ⟨byte_of (by omega) x0 x1, byte_of hb y0 y1⟩
  rw [e, x0, x1, y0, y1] at hm
  have hv := (mulPair_f b q hb hq)
  have hs := Ev.same hm (Ev.of (tower_Mul.mono _ _ _ _ _) hv.1)
  have h1 : hiW (x * y) = 0 := congrArg Prod.fst hs
  have h2 : loW (x * y) = (mlN q b : Int) := congrArg Prod.snd hs
  have of_byte : ∀ (z : T 7) (n : Nat), hiW z = 0 → loW z = (n : Int) → n < 256 → enc 7 z = n := by
    intro z n z0 z1 hn
    have e1 : enc 6 z.1 = 0 := Int.ofNat.inj z0
    have e2 : enc 6 z.2 = n := Int.ofNat.inj z1
    rw [enc7, e1, e2, Nat.zero_mul, Nat.zero_add]
  have emb_byte : ∀ (z : T 7) (n : Nat), enc 7 z = n → n < 256 → z = emb 7 3 (dec 3 n) := by
    intro z n hz hn
    refine enc_inj ?_
    rw [enc_emb (by decide), byte_enc hn, hz]
  have ex := emb_byte x q (of_byte x q x0 x1 (by omega)) (by omega)
  have ey := emb_byte y b (of_byte y b y0 y1 hb) hb
  have exy := of_byte (x * y) (mlN q b) h1 h2 hv.2.1
  rw [ex, ey, ← emb_mul (by decide), enc_emb (by decide)] at exy
  exact exy.symm
theorem mlN_lt (b q : Nat) (hb : b < 256) (hq : q ∈ mixL) : mlN q b < 256 := (mulPair_f b q hb hq).2.1
end Go.Proofs.Ytmibjgjgfombaaa.Br
