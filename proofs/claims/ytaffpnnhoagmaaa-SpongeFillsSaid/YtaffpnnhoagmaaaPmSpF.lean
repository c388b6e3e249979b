/- What is filled up says where it ends, in plain Lean (layer 11). Conditions: those that each theorem names. -/
import Derived.Test.YtaffpnnhoagmaaaPmSp
set_option linter.unusedVariables false
namespace Go.Proofs.Ytaffpnnhoagmaaa.Br
open Go.RowKit Go.Proofs.YtaffpnnhoagmaaaT Go.Proofs.Ytaffpnnhoagmaaa.P Go.Proofs.YtaffpnnhoagmaaaW.PrintWords Go.Proofs.YtaffpnnhoagmaaaW.PrintLast Go.Proofs.YtaffpnnhoagmaaaW.PrintMore
theorem str_ext2 {a b : ByteArray} (h : a.data.toList = b.data.toList) : a = b := ByteArray.ext (Array.toList_inj.1 h)
theorem ext_list (s : ByteArray) (i j : Nat) : (s.extract i j).data.toList = (s.data.toList.take j).drop i := by
  rw [ByteArray.data_extract, Array.toList_extract, List.extract_eq_drop_take', List.drop_take]
theorem fillS_list (s : ByteArray) : (fillS s).data.toList = fillL s := rfl
theorem list_len (s : ByteArray) : s.data.toList.length = s.size := by rw [Array.length_toList]; rfl
theorem fill_prefix (s : ByteArray) : (fillS s).extract 0 s.size = s := by
  refine str_ext2 ?_
  rw [ext_list, fillS_list, List.drop_zero]
  unfold fillL headL
  rw [List.append_assoc, List.append_assoc, List.take_append_of_le_length (by rw [list_len]; exact Nat.le_refl _), ← list_len s, List.take_length]
/-- Marks behind texts, and noughts. -/
theorem mark_eq : ∀ (p q : Nat) (l m : List UInt8), List.replicate p 0 ++ (128 :: l) = List.replicate q 0 ++ (128 :: m) → l = m
  | 0, 0, l, m, h => by
    injection h
  | 0, q + 1, l, m, h => by
    injection h with h1 _
    exact absurd h1 (by decide)
  | p + 1, 0, l, m, h => by
    injection h with h1 _
    exact absurd h1 (by decide)
  | p + 1, q + 1, l, m, h => by
    rw [List.replicate_succ, List.replicate_succ, List.cons_append, List.cons_append] at h
    injection h with _ h2
    exact mark_eq p q l m h2
theorem fillS_inj {a b : ByteArray} (h : fillS a = fillS b) : a = b := by
  have hl : fillL a = fillL b := congrArg (fun s : ByteArray => s.data.toList) h
  have hn : nB a.size = nB b.size := by
    have := congrArg List.length hl
    rw [fillL_len, fillL_len] at this
    omega
  have hh : headL a = headL b := by
    unfold fillL at hl
    exact (List.append_inj hl (by rw [headL_len, headL_len, hn])).1
  unfold headL at hh
  have hr := congrArg List.reverse hh
  rw [List.reverse_append, List.reverse_append, List.reverse_append, List.reverse_append, List.reverse_replicate, List.reverse_replicate] at hr
  have := mark_eq _ _ _ _ hr
  exact str_ext2 (List.reverse_inj.1 this)
theorem last_byte (s : ByteArray) : (fillL s).getLast? = some (UInt8.ofNat (nB s.size % 256)) := by
  unfold fillL
  rw [List.getLast?_append, ← tailB_succ (nB s.size) 7, List.getLast?_append]
  rw [show 8 * (7 - 7) = 0 by rfl, Nat.pow_zero, Nat.div_one]
  rfl
theorem fill_suffix {a b : ByteArray} (ha : nB a.size < 256) (hb : nB b.size < 256) (h : (fillS a).size < (fillS b).size) : (fillS b).extract ((fillS b).size - (fillS a).size) (fillS b).size ≠ fillS a := by
  intro he
  have hz := nB_le a.size
  have hl : (fillL b).drop ((fillS b).size - (fillS a).size) = fillL a := by
    have t := congrArg (fun s : ByteArray => s.data.toList) he
    rw [show ((fillS b).extract ((fillS b).size - (fillS a).size) (fillS b).size).data.toList = ((fillS b).data.toList.take (fillS b).size).drop ((fillS b).size - (fillS a).size) from ext_list _ _ _] at t
    rw [show (fillS b).data.toList.take (fillS b).size = fillL b by rw [← list_len, List.take_length]; rfl] at t
    exact t
  have h1 := last_byte a
  have h2 := last_byte b
  rw [← hl, List.getLast?_drop, if_neg (by rw [fillL_len]; rw [fillS_size, fillS_size] at h ⊢; omega), h2] at h1
  have h3 := congrArg UInt8.toNat (Option.some.inj h1)
  rw [UInt8.toNat_ofNat', UInt8.toNat_ofNat'] at h3
  rw [fillS_size, fillS_size] at h
  omega
end Go.Proofs.Ytaffpnnhoagmaaa.Br
