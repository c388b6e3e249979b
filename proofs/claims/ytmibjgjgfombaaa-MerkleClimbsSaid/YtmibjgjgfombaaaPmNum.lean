/- The numbers of layer 10: the box of each byte, and each byte times the small numbers, as the kernel reckons them from the code and from the document's text. Conditions: none. -/
import Derived.Test.YtmibjgjgfombaaaHTab
import Derived.Test.YtmibjgjgfombaaaBrBits
import Derived.Test.YtmibjgjgfombaaaPx2
import Derived.Test.YtmibjgjgfombaaaPx8
set_option linter.unusedVariables false
namespace Go.Proofs.Ytmibjgjgfombaaa.P
open Go.RowKit Go.Proofs.YtmibjgjgfombaaaW.PrintWords Go.Proofs.YtmibjgjgfombaaaW.PrintLast
def boxL : List Nat := [99, 124, 66, 93, 33, 217, 31, 198, 248, 165, 132, 231, 186, 155, 0, 62, 238, 26, 97, 111, 146, 5, 167, 12, 228, 243, 221, 125, 197, 73, 37, 154, 245, 138, 96, 50, 223, 52, 98, 84, 113, 47, 65, 81, 225, 105, 133, 40, 120, 48, 134, 25, 102, 150, 119, 21, 121, 18, 205, 72, 128, 149, 64, 39, 88, 92, 55, 58, 139, 211, 122, 23, 187, 71, 194, 75, 142, 201, 140, 68, 109, 151, 220, 239, 100, 174, 249, 101, 20, 189, 91, 30, 244, 200, 116, 195, 67, 164, 137, 13, 180, 17, 241, 141, 53, 143, 170, 232, 240, 107, 229, 35, 224, 157, 114, 74, 163, 57, 209, 215, 94, 89, 126, 179, 161, 127, 207, 184, 251, 117, 87, 183, 42, 160, 54, 123, 173, 162, 144, 191, 10, 51, 218, 9, 77, 24, 226, 250, 172, 112, 56, 203, 253, 60, 15, 193, 6, 79, 208, 19, 219, 222, 246, 3, 83, 34, 29, 7, 181, 158, 63, 145, 216, 204, 247, 129, 118, 4, 43, 252, 255, 169, 38, 202, 153, 80, 95, 212, 230, 8, 1, 147, 192, 227, 44, 104, 210, 168, 27, 254, 199, 148, 135, 156, 69, 166, 214, 32, 86, 22, 106, 236, 176, 90, 131, 237, 108, 76, 233, 46, 78, 70, 190, 45, 206, 235, 49, 28, 59, 14, 159, 234, 110, 103, 171, 36, 61, 115, 136, 85, 213, 188, 82, 2, 175, 185, 177, 41, 196, 16, 130, 182, 178, 11, 152, 242]
def unboxL : List Nat := [14, 190, 243, 163, 177, 21, 156, 167, 189, 143, 140, 253, 23, 99, 229, 154, 249, 101, 57, 159, 88, 55, 209, 71, 145, 51, 17, 198, 227, 166, 91, 6, 207, 4, 165, 111, 235, 30, 182, 63, 47, 247, 132, 178, 194, 223, 219, 41, 49, 226, 35, 141, 37, 104, 134, 66, 150, 117, 67, 228, 153, 236, 15, 170, 62, 42, 2, 96, 79, 204, 221, 73, 59, 29, 115, 75, 217, 144, 220, 157, 185, 43, 242, 164, 39, 239, 208, 130, 64, 121, 213, 90, 65, 3, 120, 186, 34, 18, 38, 0, 84, 87, 52, 233, 195, 45, 210, 109, 216, 80, 232, 19, 149, 40, 114, 237, 94, 129, 176, 54, 48, 56, 70, 135, 1, 27, 122, 125, 60, 175, 250, 214, 10, 46, 50, 202, 238, 98, 33, 68, 78, 103, 76, 105, 138, 171, 20, 191, 201, 61, 53, 81, 254, 184, 31, 13, 203, 113, 169, 230, 133, 124, 137, 116, 97, 9, 205, 22, 197, 181, 106, 234, 148, 136, 85, 244, 212, 246, 252, 123, 100, 168, 251, 131, 127, 245, 12, 72, 241, 89, 222, 139, 192, 155, 74, 95, 248, 28, 7, 200, 93, 77, 183, 151, 173, 58, 224, 126, 158, 118, 196, 69, 187, 240, 206, 119, 172, 5, 142, 160, 82, 26, 161, 36, 112, 44, 146, 193, 24, 110, 188, 11, 107, 218, 231, 225, 211, 215, 16, 83, 108, 102, 255, 25, 92, 32, 162, 174, 8, 86, 147, 128, 179, 152, 199, 180]
def bxN (b : Nat) : Nat := boxL.getD b 0
def mlN (q b : Nat) : Nat := ((tower_Mul.f 30 3 0 (q : Int) 0 (b : Int)).getD (0, 0)).2.toNat
def okM : Option (Int × Int) → Bool
  | some (h, v) => decide (h = 0 ∧ 0 ≤ v ∧ v < 256)
  | none => false
set_option maxRecDepth 100000
theorem box_all : (List.range 256).all (fun b : Nat => perm_box.f 30 (b : Int) == some (bxN b : Int)) = true := by decide +kernel
theorem unbox_all : (List.range 256).all (fun b : Nat => unboxL.getD (bxN b) 0 == b && decide (bxN b < 256)) = true := by decide +kernel
def ivN (b : Nat) : Nat := ((tower_Inv.f 30 3 0 (b : Int)).getD (0, 0)).2.toNat
theorem inv_all : (List.range 256).all (fun b : Nat => tower_Inv.f 30 3 0 (b : Int) == some (0, (ivN b : Int)) && decide (ivN b < 256)) = true := by decide +kernel
theorem mul_all2 : (List.range 256).all (fun b : Nat => okM (tower_Mul.f 30 3 0 ((2 : Nat) : Int) 0 (b : Int))) = true := by decide +kernel
theorem mul_all3 : (List.range 256).all (fun b : Nat => okM (tower_Mul.f 30 3 0 ((3 : Nat) : Int) 0 (b : Int))) = true := by decide +kernel
theorem mul_all4 : (List.range 256).all (fun b : Nat => okM (tower_Mul.f 30 3 0 ((4 : Nat) : Int) 0 (b : Int))) = true := by decide +kernel
theorem mul_all5 : (List.range 256).all (fun b : Nat => okM (tower_Mul.f 30 3 0 ((5 : Nat) : Int) 0 (b : Int))) = true := by decide +kernel
theorem mul_all7 : (List.range 256).all (fun b : Nat => okM (tower_Mul.f 30 3 0 ((7 : Nat) : Int) 0 (b : Int))) = true := by decide +kernel
def tailF (k : Nat) (x : Int) : Option Int := (steepleref10_left.f k (wrap64 x) 1).bind fun t210 => ((steepleref10_left.f k (wrap64 x) 2).bind fun t211 => ((steepleref10_left.f k (wrap64 x) 3).bind fun t212 => ((steepleref10_left.f k (wrap64 x) 4).bind fun t213 => (some (Go.bits .xor .i64 (Go.bits .xor .i64 (Go.bits .xor .i64 (Go.bits .xor .i64 (Go.bits .xor .i64 (wrap64 (x)) t210) t211) t212) t213) 99)))))
theorem tail_all : (List.range 256).all (fun b : Nat => tailF 10 (ivN b : Int) == some (bxN b : Int)) = true := by decide +kernel
theorem all_at {p : Nat → Bool} (h : (List.range 256).all p = true) {b : Nat} (hb : b < 256) : p b = true := List.all_eq_true.1 h b (List.mem_range.2 hb)
theorem box_f (b : Nat) (hb : b < 256) : perm_box.f 30 (b : Int) = some (bxN b : Int) := beq_iff_eq.1 (all_at box_all hb)
theorem bxN_lt (b : Nat) (hb : b < 256) : bxN b < 256 := by
  have := all_at unbox_all hb
  rw [Bool.and_eq_true, decide_eq_true_eq] at this
  exact this.2
theorem bxN_inj (b c : Nat) (hb : b < 256) (hc : c < 256) (h : bxN b = bxN c) : b = c := by
  have h1 := all_at unbox_all hb
  have h2 := all_at unbox_all hc
  rw [Bool.and_eq_true, beq_iff_eq] at h1 h2
  rw [← h1.1, ← h2.1, h]
theorem okM_of {q b : Nat} (h : okM (tower_Mul.f 30 3 0 (q : Int) 0 (b : Int)) = true) : tower_Mul.f 30 3 0 (q : Int) 0 (b : Int) = some (0, (mlN q b : Int)) ∧ mlN q b < 256 := by
  unfold mlN
  cases e : tower_Mul.f 30 3 0 (q : Int) 0 (b : Int) with
  | none => rw [e] at h; cases h
  | some t =>
    obtain ⟨x, v⟩ := t
    rw [e] at h
    have h2 : x = 0 ∧ 0 ≤ v ∧ v < 256 := of_decide_eq_true h
    obtain ⟨rfl, h3, h4⟩ := h2
    show some ((0 : Int), v) = some (0, ((v.toNat : Nat) : Int)) ∧ v.toNat < 256
    rw [Int.toNat_of_nonneg h3]
    exact ⟨rfl, by omega⟩
theorem mulPair_f (b q : Nat) (hb : b < 256) (hq : q ∈ mixL) : tower_Mul.f 30 3 0 (q : Int) 0 (b : Int) = some (0, (mlN q b : Int)) ∧ mlN q b < 256 ∧ perm_mul.f 30 (q : Int) (b : Int) = some (mlN q b : Int) := by
  have hk := mixL_le hq
  have h5 : q = 2 ∨ q = 3 ∨ q = 4 ∨ q = 5 ∨ q = 7 := by omega
  have h : tower_Mul.f 30 3 0 (q : Int) 0 (b : Int) = some (0, (mlN q b : Int)) ∧ mlN q b < 256 := by
    rcases h5 with rfl | rfl | rfl | rfl | rfl
    · exact okM_of (all_at mul_all2 hb)
    · exact okM_of (all_at mul_all3 hb)
    · exact okM_of (all_at mul_all4 hb)
    · exact okM_of (all_at mul_all5 hb)
    · exact okM_of (all_at mul_all7 hb)
  refine ⟨h.1, h.2, ?_⟩
  unfold perm_mul.f
  rw [Br.wrap_u64 q (by omega), Br.wrap_u64 b (by omega), h.1, Option.bind_some]
  show some (((mlN q b : Nat) : Int) % 256) = _
  rw [Int.emod_eq_of_lt (by omega) (by have := h.2; omega)]
theorem invPair_f (b : Nat) (hb : b < 256) : tower_Inv.f 30 3 0 (b : Int) = some (0, (ivN b : Int)) ∧ ivN b < 256 ∧ tailF 10 (ivN b : Int) = some (bxN b : Int) := by
  have := all_at inv_all hb
  rw [Bool.and_eq_true, beq_iff_eq, decide_eq_true_eq] at this
  exact ⟨this.1, this.2, beq_iff_eq.1 (all_at tail_all hb)⟩
end Go.Proofs.Ytmibjgjgfombaaa.P
