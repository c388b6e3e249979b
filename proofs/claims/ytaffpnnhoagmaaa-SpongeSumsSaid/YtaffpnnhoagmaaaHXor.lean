/- Texts of 64 bytes added byte by byte (sponge.xor) (layer 10). Conditions: those that each theorem names. Printed by gen_st.py. -/
import Derived.Test.YtaffpnnhoagmaaaHTb
import Derived.Lib.ConvBytes
import Derived.StillTailTactics
set_option linter.unusedVariables false
set_option linter.unusedSimpArgs false
set_option maxRecDepth 100000
namespace Go.Proofs.Ytaffpnnhoagmaaa.P
open Go.RowKit Go.Proofs.YtaffpnnhoagmaaaX Go.Proofs.YtaffpnnhoagmaaaW.PrintWords Go.Proofs.YtaffpnnhoagmaaaW.PrintLast Go.Proofs.YtaffpnnhoagmaaaW.PrintMore
open Go.Proofs.Ytaffpnnhoagmaaa.Br
theorem bytes_frozen (w : World) (e : TypeId) (s : ByteArray) {j : Nat} (h : j < s.size) : (Lib.bytesWorld w e s).frozen? ⟨w.heap.size, j, none⟩ = false := by
  have hz : s.size ≤ (Lib.bytesCells w e s).size := by
    unfold Lib.bytesCells
    rw [Array.size_append, Array.size_map]
    exact Nat.le_add_right _ _
  unfold World.frozen?
  rw [Lib.bytesWorld_at_new]
  simp
  omega
theorem bytes_below (w : World) (e : TypeId) (s : ByteArray) : Below w.heap.size w (Lib.bytesWorld w e s) := by
  refine ⟨?_, ?_, ?_, by rw [Lib.bytesWorld_size]; omega, fun j hj => Lib.bytesWorld_at_old w e s j hj⟩
  all_goals simp [Lib.bytesWorld, World.freeze, World.alloc, World.drew, -World.alloc_eq, -World.drew_eq]
theorem bytes_string {g : Nat} {c : Nat} {f : Nat → Nat} {w : World} (h : ∀ j, j < 64 → w.cell? ⟨g, j, none⟩ = some (.int .u8 (f j : Int))) : (convert 48 9 (.slice (some ⟨g, 0, none⟩) 64 c)).run Try.prog w = .ok (.string (strF f)) w := by
  refine string_of_reads Try.underlying48 Try.underlying5 Try.underlying9 ⟨?_, by decide, fun _ => ⟨_, rfl, fun j hj => ?_⟩⟩
  · rw [List.length_map, List.length_range]
  · rw [show (Addr.add ⟨g, 0, none⟩ j : Addr) = ⟨g, j, none⟩ by unfold Addr.add; by_cases c : j = 0 <;> simp [c], h j hj, List.getD_eq_getElem?_getD, List.getElem?_map, List.getElem?_range hj]
    rfl
set_option maxHeartbeats 8000000 in
set_option maxRecDepth 100000 in
theorem xor_calls (a b : ByteArray) (ha : a.size = 64) (hb : b.size = 64) (w : World) :
  Calls Try.prog 30 #[.string a, .string b] w fun e w' => e = .returned (.string (xorS a b)) ∧ Below w.heap.size w w' := by
 have hcv := Lib.run_convert_string_bytes w 9 48 5 a Try.underlying9 Try.underlying48 Try.underlying5
 rw [ha] at hcv
 obtain ⟨g, eg⟩ : ∃ g, g = w.heap.size := ⟨_, rfl⟩
 obtain ⟨c0, ec⟩ : ∃ c0, c0 = grownCap w 64 0 5 := ⟨_, rfl⟩
 have HC : Aside0 (∀ j, j < 64 → (Lib.bytesWorld w 5 a).cell? ⟨g, j, none⟩ = some (.int .u8 (bF a j : Int))) := ⟨fun j hj => eg ▸ Lib.bytesWorld_cell w 5 a j (by omega)⟩
 have HF : Aside0 (∀ j, j < 64 → (Lib.bytesWorld w 5 a).frozen? ⟨g, j, none⟩ = false) := ⟨fun j hj => eg ▸ bytes_frozen w 5 a (by omega)⟩
 have HB := Aside0.mk (bytes_below w 5 a)
 have HG := Aside0.mk (Nat.le_of_eq eg.symm)
 rw [← eg, ← ec] at hcv
 generalize Lib.bytesWorld w 5 a = w1 at hcv HC HF HB
 have HZA := Aside0.mk ha
 have HZB := Aside0.mk hb
 have zb : (b.size : Int) = 64 := by omega
 clear ha hb eg ec
 go_enter Try.func30, Try.ntmps30
 go_wp2
 clear hcv
 go_loopg [11] 64 (fun kq v11 w' => ∃ i : Nat, v11 = .int .i64 (i : Int) ∧ Aside0 (i + kq = 64) ∧ Aside0 (∀ j, j < 64 → w'.cell? ⟨g, j, none⟩ = some (.int .u8 ((if j < i then bF a j ^^^ bF b j else bF a j : Nat) : Int))) ∧ Aside0 (∀ j, j < 64 → w'.frozen? ⟨g, j, none⟩ = false) ∧ Aside0 (Below w.heap.size w w'))
 case atStart => exact ⟨0, rfl, ⟨rfl⟩, ⟨fun j hj => by rw [if_neg (by omega)]; exact HC.out j hj⟩, HF, HB⟩
 case round =>
  clear HC HF HB
  obtain ⟨i, rfl, HK, HC, HF, HB⟩ := hrel
  cases gk with
  | zero =>
   obtain rfl : i = 64 := by have := HK.out; omega
   have hcv := bytes_string (c := c0) (f := fun j => bF a j ^^^ bF b j) (fun j hj => by have t := HC.out j hj; rw [if_pos hj] at t; exact t)
   go_wp2
   go_ret
   exact ⟨rfl, HB.out⟩
  | succ k2 =>
   have hi : i < 64 := by have := HK.out; omega
   have HI := Aside0.mk hi
   have d0 : decide ((i : Int) < 64) = true := decide_eq_true (by omega)
   have d1 : decide (i < 64) = true := decide_eq_true hi
   have p0 : ((i : Int) < 64) = True := eq_true (by omega)
   have p1 : (0 ≤ (i : Int) ∧ (i : Int) < 64) := ⟨by omega, by omega⟩
   have la := bF_lt a i
   have lb := bF_lt b i
   have hc : wr.cell? ⟨g, i, none⟩ = some (.int .u8 (bF a i : Int)) := by have t := HC.out i hi; rw [if_neg (by omega)] at t; exact t
   have hz : wr.frozen? ⟨g, i, none⟩ = false := HF.out i hi
   have hix : ∀ w', (Instr.index 9 (.string b) (.int .i64 (i : Int))).run Try.prog w' = .ok (.int .u8 (bF b i : Int)) w' := fun w' => by
    have l1 : i < b.size := by have := HZB.out; omega
    have l2 : (i : Int) < (b.size : Int) := by omega
    go_simp
    unfold bF
    rw [List.getD_eq_getElem?_getD, List.getElem?_eq_getElem (by rw [Array.length_toList]; exact l1)]
    rfl
   have hx := u8_xor (bF a i) (bF b i) la lb
   clear hi
   go_wp2
   go_still_tail 9, (by kernel_rfl)
   change wpList _ _ _ _ _ wr.drew
   clear hc hz hix
   have HC' : Aside0 (∀ j, j < 64 → wr.drew.cell? ⟨g, j, none⟩ = some (.int .u8 ((if j < i then bF a j ^^^ bF b j else bF a j : Nat) : Int))) := HC
   have HF' : Aside0 (∀ j, j < 64 → wr.drew.frozen? ⟨g, j, none⟩ = false) := HF
   replace HB := Aside0.mk (below_drew1 HB.out)
   have HX := Aside0.mk hx
   clear hx HC HF
   generalize wr.drew = w4 at HC' HF' HB ⊢
   have hc : w4.cell? ⟨g, i, none⟩ = some (.int .u8 (bF a i : Int)) := by have t := HC'.out i HI.out; rw [if_neg (by omega)] at t; exact t
   have hz : w4.frozen? ⟨g, i, none⟩ = false := HF'.out i HI.out
   have HC0 := Aside0.mk hc
   go_wp2
   go_roundg k2
   case measure => omega
   case rel =>
    have hi := HI.out
    refine ⟨i + 1, by rw [Int.natCast_add]; rfl, ⟨by have := HK.out; omega⟩, ⟨fun j hj => ?_⟩, ⟨fun j hj => (World.frozen?_setCell _ _ _ _).trans (HF'.out j hj)⟩, ⟨HB.out.setCell (p := ⟨g, i, none⟩) HG.out _⟩⟩
    by_cases e : j = i
    · subst e
      rw [if_pos (by omega), World.cell?_setCell_same (h := HC0.out)]
    · rw [World.cell?_setCell_other (h := fun h => e (congrArg Addr.off h).symm), HC'.out j hj]
      by_cases e2 : j < i
      · rw [if_pos e2, if_pos (by omega)]
      · rw [if_neg e2, if_neg (by omega)]
end Go.Proofs.Ytaffpnnhoagmaaa.P
