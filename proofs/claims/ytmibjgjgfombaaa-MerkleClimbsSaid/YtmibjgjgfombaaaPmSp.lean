/- Sums of texts, in plain Lean (layer 11): what the code reckons. Conditions: those that each theorem names. -/
import Derived.Test.YtmibjgjgfombaaaPmFwd
set_option linter.unusedVariables false
namespace Go.Proofs.Ytmibjgjgfombaaa.Br
open Go.RowKit Go.Proofs.YtmibjgjgfombaaaT Go.Proofs.Ytmibjgjgfombaaa.P Go.Proofs.YtmibjgjgfombaaaW.PrintWords Go.Proofs.YtmibjgjgfombaaaW.PrintLast Go.Proofs.YtmibjgjgfombaaaW.PrintMore
/-- A way over a text. -/
def wS (q : Bool) (s : ByteArray) : ByteArray := strF (wayF bxN mlN q (bF s))
theorem wS_size (q : Bool) (s : ByteArray) : (wS q s).size = 64 := strF_size _
/-- Texts of 64 bytes added. -/
def xorS (a b : ByteArray) : ByteArray := strF fun i => bF a i ^^^ bF b i
theorem xorS_size (a b : ByteArray) : (xorS a b).size = 64 := strF_size _
def pressS (h m : ByteArray) : ByteArray := xorS (xorS (wS false (xorS h m)) (wS true m)) h
theorem pressS_size (h m : ByteArray) : (pressS h m).size = 64 := strF_size _
def closeS (h : ByteArray) : ByteArray := (xorS (wS false h) h).extract 32 64
theorem closeS_size (h : ByteArray) : (closeS h).size = 32 := by
  unfold closeS
  rw [ByteArray.size_extract, xorS_size]
  rfl
/-- How many blocks there are. -/
def nB (n : Nat) : Nat := (n + 72) / 64
def tailB (n m : Nat) : List UInt8 := (List.range m).map fun j => UInt8.ofNat (n / 2 ^ (8 * (7 - j)) % 256)
theorem tailB_succ (n m : Nat) : tailB n m ++ [UInt8.ofNat (n / 2 ^ (8 * (7 - m)) % 256)] = tailB n (m + 1) := by
  unfold tailB
  rw [List.range_succ, List.map_append]
  rfl
theorem tailB_len (n m : Nat) : (tailB n m).length = m := by unfold tailB; rw [List.length_map, List.length_range]
/-- What stands ahead of the number of blocks. -/
def headL (s : ByteArray) : List UInt8 := s.data.toList ++ [128] ++ List.replicate (64 * nB s.size - s.size - 9) 0
def fillL (s : ByteArray) : List UInt8 := headL s ++ tailB (nB s.size) 8
def fillS (s : ByteArray) : ByteArray := ⟨(fillL s).toArray⟩
theorem nB_le (n : Nat) : n + 9 ≤ 64 * nB n := by unfold nB; omega
theorem nB_lt (n : Nat) : 64 * nB n ≤ n + 72 := by unfold nB; omega
theorem headL_len (s : ByteArray) : (headL s).length = 64 * nB s.size - 8 := by
  have := nB_le s.size
  unfold headL
  rw [List.length_append, List.length_append, List.length_replicate, Array.length_toList]
  show s.size + 1 + _ = _
  omega
theorem fillL_len (s : ByteArray) : (fillL s).length = 64 * nB s.size := by
  have := nB_le s.size
  unfold fillL
  rw [List.length_append, headL_len, tailB_len]
  omega
theorem fillS_size (s : ByteArray) : (fillS s).size = 64 * nB s.size := by
  unfold fillS
  show (fillL s).toArray.size = _
  rw [List.size_toArray, fillL_len]
/-- The first chain value. -/
def firstS : ByteArray := ⟨(List.replicate 62 (0 : UInt8) ++ [1, 0]).toArray⟩
theorem firstS_size : firstS.size = 64 := by
  unfold firstS
  show (List.replicate 62 (0 : UInt8) ++ [1, 0]).toArray.size = 64
  rw [List.size_toArray, List.length_append, List.length_replicate]
  rfl
/-- The blocks of a text, so many. -/
def cutL : Nat → ByteArray → List ByteArray
  | 0, _ => []
  | k + 1, s => s.extract 0 64 :: cutL k (s.extract 64 s.size)
theorem ext_size0 {s : ByteArray} {k : Nat} (h : s.size = 64 * (k + 1)) : (s.extract 0 64).size = 64 := by
  rw [ByteArray.size_extract]
  omega
theorem ext_size1 {s : ByteArray} {k : Nat} (h : s.size = 64 * (k + 1)) : (s.extract 64 s.size).size = 64 * k := by
  rw [ByteArray.size_extract]
  omega
theorem cutL_size : ∀ (k : Nat) (s : ByteArray), s.size = 64 * k → ∀ x, x ∈ cutL k s → x.size = 64
  | 0, _, _, x, hx => by cases hx
  | k + 1, s, h, x, hx => by
    rcases List.mem_cons.1 hx with rfl | hx
    · exact ext_size0 h
    · exact cutL_size k _ (ext_size1 h) x hx
def sumS (s : ByteArray) : ByteArray := closeS ((cutL (nB s.size) (fillS s)).foldl pressS firstS)
theorem sumS_size (s : ByteArray) : (sumS s).size = 32 := closeS_size _
end Go.Proofs.Ytmibjgjgfombaaa.Br
