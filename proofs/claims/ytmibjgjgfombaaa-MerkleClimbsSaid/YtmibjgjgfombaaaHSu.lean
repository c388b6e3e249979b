/- Texts of this session, merged: HXor HPress HBld HFill HRange HCut HSum HSumT HMakeT. Conditions: those that each theorem names. -/
import Derived.Test.YtmibjgjgfombaaaHTb
import Derived.Lib.ConvBytes
import Derived.StillTailTactics
import Derived.Test.YtmibjgjgfombaaaShelf
import Derived.Test.YtmibjgjgfombaaaPx0
import Derived.Test.YtmibjgjgfombaaaPmSp
import Derived.Test.YtmibjgjgfombaaaPx3
import Derived.RangeFuncNested
import Derived.RangeFuncBound
import Derived.RangeFuncCalls
import Derived.RangeFuncLeaves
import Derived.RangeFuncFrom
import Derived.Shelf.Abstract
import Derived.Shelf.RegionOpen
import Derived.WalkKit
import Derived.OwnWalkIn
import Derived.TacticsInMore
import Derived.LoopNIn
import Derived.LoopIn
import Derived.Sort.LoopGhostIn
section
/- Texts of 64 bytes added byte by byte (sponge.xor) (layer 10). Conditions: those that each theorem names. Printed by gen_st.py. -/
set_option linter.unusedVariables false
set_option linter.unusedSimpArgs false
set_option maxRecDepth 100000
namespace Go.Proofs.Ytmibjgjgfombaaa.P
open Go.RowKit Go.Proofs.YtmibjgjgfombaaaX Go.Proofs.YtmibjgjgfombaaaW.PrintWords Go.Proofs.YtmibjgjgfombaaaW.PrintLast Go.Proofs.YtmibjgjgfombaaaW.PrintMore
open Go.Proofs.Ytmibjgjgfombaaa.Br
theorem bytes_frozen (w : World) (e : TypeId) (s : ByteArray) {j : Nat} (h : j < s.size) : (Lib.bytesWorld w e s).frozen? ⟨w.heap.size, j, none⟩ = false := by
  have hz : s.size ≤ (Lib.bytesCells w e s).size := by
    unfold Lib.bytesCells
    rw [Array.size_append, Array.size_map]
    exact Nat.le_add_right _ _
  unfold World.frozen?
  rw [Lib.bytesWorld_at_new]
  simp
  omega
theorem bytes_below (w : World) (e : TypeId) (s : ByteArray) : Below w.heap.size w (Lib.bytesWorld w e s) := by
  refine ⟨?_, ?_, ?_, by rw [Lib.bytesWorld_size]; omega, fun j hj => Lib.bytesWorld_at_old w e s j hj⟩
  all_goals simp [Lib.bytesWorld, World.freeze, World.alloc, World.drew, -World.alloc_eq, -World.drew_eq]
theorem bytes_string {g : Nat} {c : Nat} {f : Nat → Nat} {w : World} (h : ∀ j, j < 64 → w.cell? ⟨g, j, none⟩ = some (.int .u8 (f j : Int))) : (convert 97 9 (.slice (some ⟨g, 0, none⟩) 64 c)).run Try.prog w = .ok (.string (strF f)) w := by
  refine string_of_reads Try.underlying97 Try.underlying5 Try.underlying9 ⟨?_, by decide, fun _ => ⟨_, rfl, fun j hj => ?_⟩⟩
  · rw [List.length_map, List.length_range]
  · rw [show (Addr.add ⟨g, 0, none⟩ j : Addr) = ⟨g, j, none⟩ by unfold Addr.add; by_cases c : j = 0 <;> simp [c], h j hj, List.getD_eq_getElem?_getD, List.getElem?_map, List.getElem?_range hj]
    rfl
set_option maxHeartbeats 8000000 in
set_option maxRecDepth 100000 in
theorem xor_calls (a b : ByteArray) (ha : a.size = 64) (hb : b.size = 64) (w : World) :
  Calls Try.prog 69 #[.string a, .string b] w fun e w' => e = .returned (.string (xorS a b)) ∧ Below w.heap.size w w' := by
 have hcv := Lib.run_convert_string_bytes w 9 97 5 a Try.underlying9 Try.underlying97 Try.underlying5
 rw [ha] at hcv
 obtain ⟨g, eg⟩ : ∃ g, g = w.heap.size := ⟨_, rfl⟩
 obtain ⟨c0, ec⟩ : ∃ c0, c0 = grownCap w 64 0 5 := ⟨_, rfl⟩
 have HC : Aside0 (∀ j, j < 64 → (Lib.bytesWorld w 5 a).cell? ⟨g, j, none⟩ = some (.int .u8 (bF a j : Int))) := ⟨fun j hj => eg ▸ Lib.bytesWorld_cell w 5 a j (by omega)⟩
 have HF : Aside0 (∀ j, j < 64 → (Lib.bytesWorld w 5 a).frozen? ⟨g, j, none⟩ = false) := ⟨fun j hj => eg ▸ bytes_frozen w 5 a (by omega)⟩
 have HB := Aside0.mk (bytes_below w 5 a)
 have HG := Aside0.mk (Nat.le_of_eq eg.symm)
 rw [← eg, ← ec] at hcv
 generalize Lib.bytesWorld w 5 a = w1 at hcv HC HF HB
 have HZA := Aside0.mk ha
 have HZB := Aside0.mk hb
 have zb : (b.size : Int) = 64 := by omega
 clear ha hb eg ec
 go_enter Try.func69, Try.ntmps69
 go_wp2
 clear hcv
 go_loopg [11] 64 (fun kq v11 w' => ∃ i : Nat, v11 = .int .i64 (i : Int) ∧ Aside0 (i + kq = 64) ∧ Aside0 (∀ j, j < 64 → w'.cell? ⟨g, j, none⟩ = some (.int .u8 ((if j < i then bF a j ^^^ bF b j else bF a j : Nat) : Int))) ∧ Aside0 (∀ j, j < 64 → w'.frozen? ⟨g, j, none⟩ = false) ∧ Aside0 (Below w.heap.size w w'))
 case atStart => exact ⟨0, rfl, ⟨rfl⟩, ⟨fun j hj => by rw [if_neg (by omega)]; exact HC.out j hj⟩, HF, HB⟩
 case round =>
  clear HC HF HB
  obtain ⟨i, rfl, HK, HC, HF, HB⟩ := hrel
  cases gk with
  | zero =>
   obtain rfl : i = 64 := by have := HK.out; omega
   have hcv := bytes_string (c := c0) (f := fun j => bF a j ^^^ bF b j) (fun j hj => by have t := HC.out j hj; rw [if_pos hj] at t; exact t)
   go_wp2
   go_ret
   exact ⟨rfl, HB.out⟩
  | succ k2 =>
   have hi : i < 64 := by have := HK.out; omega
   have HI := Aside0.mk hi
   have d0 : decide ((i : Int) < 64) = true := decide_eq_true (by omega)
   have d1 : decide (i < 64) = true := decide_eq_true hi
   have p0 : ((i : Int) < 64) = True := eq_true (by omega)
   have p1 : (0 ≤ (i : Int) ∧ (i : Int) < 64) := ⟨by omega, by omega⟩
   have la := bF_lt a i
   have lb := bF_lt b i
   have hc : wr.cell? ⟨g, i, none⟩ = some (.int .u8 (bF a i : Int)) := by have t := HC.out i hi; rw [if_neg (by omega)] at t; exact t
   have hz : wr.frozen? ⟨g, i, none⟩ = false := HF.out i hi
   have hix : ∀ w', (Instr.index 9 (.string b) (.int .i64 (i : Int))).run Try.prog w' = .ok (.int .u8 (bF b i : Int)) w' := fun w' => by
    have l1 : i < b.size := by have := HZB.out; omega
    have l2 : (i : Int) < (b.size : Int) := by omega
    go_simp
    unfold bF
    rw [List.getD_eq_getElem?_getD, List.getElem?_eq_getElem (by rw [Array.length_toList]; exact l1)]
    rfl
   have hx := u8_xor (bF a i) (bF b i) la lb
   clear hi
   go_wp2
   go_still_tail 9, (by kernel_rfl)
   change wpList _ _ _ _ _ wr.drew
   clear hc hz hix
   have HC' : Aside0 (∀ j, j < 64 → wr.drew.cell? ⟨g, j, none⟩ = some (.int .u8 ((if j < i then bF a j ^^^ bF b j else bF a j : Nat) : Int))) := HC
   have HF' : Aside0 (∀ j, j < 64 → wr.drew.frozen? ⟨g, j, none⟩ = false) := HF
   replace HB := Aside0.mk (below_drew1 HB.out)
   have HX := Aside0.mk hx
   clear hx HC HF
   generalize wr.drew = w4 at HC' HF' HB ⊢
   have hc : w4.cell? ⟨g, i, none⟩ = some (.int .u8 (bF a i : Int)) := by have t := HC'.out i HI.out; rw [if_neg (by omega)] at t; exact t
   have hz : w4.frozen? ⟨g, i, none⟩ = false := HF'.out i HI.out
   have HC0 := Aside0.mk hc
   go_wp2
   go_roundg k2
   case measure => omega
   case rel =>
    have hi := HI.out
    refine ⟨i + 1, by rw [Int.natCast_add]; rfl, ⟨by have := HK.out; omega⟩, ⟨fun j hj => ?_⟩, ⟨fun j hj => (World.frozen?_setCell _ _ _ _).trans (HF'.out j hj)⟩, ⟨HB.out.setCell (p := ⟨g, i, none⟩) HG.out _⟩⟩
    by_cases e : j = i
    · subst e
      rw [if_pos (by omega), World.cell?_setCell_same (h := HC0.out)]
    · rw [World.cell?_setCell_other (h := fun h => e (congrArg Addr.off h).symm), HC'.out j hj]
      by_cases e2 : j < i
      · rw [if_pos e2, if_pos (by omega)]
      · rw [if_neg e2, if_neg (by omega)]
end Go.Proofs.Ytmibjgjgfombaaa.P
end

section
/- A block pressed, and a chain value closed (sponge.Press, sponge.Close) (layer 10). Conditions: those that each theorem names. Printed by gen_st.py. -/
set_option linter.unusedVariables false
set_option linter.unusedSimpArgs false
set_option maxRecDepth 100000
namespace Go.Proofs.Ytmibjgjgfombaaa.P
open Go.RowKit Go.Proofs.YtmibjgjgfombaaaX Go.Proofs.YtmibjgjgfombaaaW.PrintWords Go.Proofs.YtmibjgjgfombaaaW.PrintLast Go.Proofs.YtmibjgjgfombaaaW.PrintMore
open Go.Proofs.Ytmibjgjgfombaaa.Br
set_option maxHeartbeats 8000000 in
set_option maxRecDepth 100000 in
theorem press_calls {w : World} {g : Nat} (hT : TabAt w g) (h m : ByteArray) (hh : h.size = 64) (hm : m.size = 64) :
  Calls Try.prog 48 #[.pointer (some ⟨g, 0, none⟩), .string h, .string m] w fun e w' => e = .returned (.tuple #[.string (pressS h m), .int .i64 0]) ∧ Below w.heap.size w w' := by
 have HB := Aside0.mk (Below.refl w.heap.size w)
 have HT := Aside0.mk hT
 have ZH := Aside0.mk hh
 have ZM := Aside0.mk hm
 have z1 : ((h.size : Int) != 64) = false := by rw [hh]; rfl
 have z2 : ((m.size : Int) != 64) = false := by rw [hm]; rfl
 clear hT hh hm
 go_enter Try.func48, Try.ntmps48
 go_wp2_with (first
  | ((with_reducible refine gate_callee (f := 68) rfl ?_); refine goesL_ (some 29) rfl rfl Try.func68 (by kernel_rfl) rfl #[.pointer (some ⟨g, 0, none⟩), .string (xorS h m)] rfl (by (try simp only [List.map_toArray, List.map_cons, List.map_nil]); first | done | rfl) ?_; (with_reducible refine (P_tab HT.out (xorS h m) (xorS_size _ _)).mono ?_); rintro e w11 ⟨rfl, hb⟩; refine ⟨_, rfl, ?_⟩; replace HT := Aside0.mk (HT.out.below hb); replace HB := bh HB hb; (try clear hb))
  | (go_at_call 68; (with_reducible refine (P_tab HT.out (xorS h m) (xorS_size _ _)).mono ?_); rintro e w11 ⟨rfl, hb⟩; replace HT := Aside0.mk (HT.out.below hb); replace HB := bh HB hb; (try clear hb))
  | ((with_reducible refine gate_callee (f := 70) rfl ?_); refine goesL_ (some 35) rfl rfl Try.func70 (by kernel_rfl) rfl #[.pointer (some ⟨g, 0, none⟩), .string m] rfl (by (try simp only [List.map_toArray, List.map_cons, List.map_nil]); first | done | rfl) ?_; (with_reducible refine (Q_tab HT.out m ZM.out).mono ?_); rintro e w11 ⟨rfl, hb⟩; refine ⟨_, rfl, ?_⟩; replace HT := Aside0.mk (HT.out.below hb); replace HB := bh HB hb; (try clear hb))
  | (go_at_call 70; (with_reducible refine (Q_tab HT.out m ZM.out).mono ?_); rintro e w11 ⟨rfl, hb⟩; replace HT := Aside0.mk (HT.out.below hb); replace HB := bh HB hb; (try clear hb))
  | ((with_reducible refine gate_callee (f := 69) rfl ?_); refine goesL_ (some 28) rfl rfl Try.func69 (by kernel_rfl) rfl #[.string h, .string m] rfl (by (try simp only [List.map_toArray, List.map_cons, List.map_nil]); first | done | rfl) ?_; (with_reducible refine (xor_calls h m ZH.out ZM.out _).mono ?_); rintro e w11 ⟨rfl, hb⟩; refine ⟨_, rfl, ?_⟩; replace HT := Aside0.mk (HT.out.below hb); replace HB := bh HB hb; (try clear hb))
  | (go_at_call 69; (with_reducible refine (xor_calls h m ZH.out ZM.out _).mono ?_); rintro e w11 ⟨rfl, hb⟩; replace HT := Aside0.mk (HT.out.below hb); replace HB := bh HB hb; (try clear hb))
  | ((with_reducible refine gate_callee (f := 69) rfl ?_); refine goesL_ (some 40) rfl rfl Try.func69 (by kernel_rfl) rfl #[.string (wS false (xorS h m)), .string (wS true m)] rfl (by (try simp only [List.map_toArray, List.map_cons, List.map_nil]); first | done | rfl) ?_; (with_reducible refine (xor_calls _ _ (wS_size _ _) (wS_size _ _) _).mono ?_); rintro e w11 ⟨rfl, hb⟩; refine ⟨_, rfl, ?_⟩; replace HT := Aside0.mk (HT.out.below hb); replace HB := bh HB hb; (try clear hb))
  | (go_at_call 69; (with_reducible refine (xor_calls _ _ (wS_size _ _) (wS_size _ _) _).mono ?_); rintro e w11 ⟨rfl, hb⟩; replace HT := Aside0.mk (HT.out.below hb); replace HB := bh HB hb; (try clear hb))
  | ((with_reducible refine gate_callee (f := 69) rfl ?_); refine goesL_ (some 42) rfl rfl Try.func69 (by kernel_rfl) rfl #[.string (xorS (wS false (xorS h m)) (wS true m)), .string h] rfl (by (try simp only [List.map_toArray, List.map_cons, List.map_nil]); first | done | rfl) ?_; (with_reducible refine (xor_calls _ _ (xorS_size _ _) ZH.out _).mono ?_); rintro e w11 ⟨rfl, hb⟩; refine ⟨_, rfl, ?_⟩; replace HT := Aside0.mk (HT.out.below hb); replace HB := bh HB hb; (try clear hb))
  | (go_at_call 69; (with_reducible refine (xor_calls _ _ (xorS_size _ _) ZH.out _).mono ?_); rintro e w11 ⟨rfl, hb⟩; replace HT := Aside0.mk (HT.out.below hb); replace HB := bh HB hb; (try clear hb)))
 go_ret2
 exact ⟨rfl, HB.out⟩
set_option maxHeartbeats 8000000 in
set_option maxRecDepth 100000 in
theorem close_calls {w : World} {g : Nat} (hT : TabAt w g) (h : ByteArray) (hh : h.size = 64) :
  Calls Try.prog 49 #[.pointer (some ⟨g, 0, none⟩), .string h] w fun e w' => e = .returned (.tuple #[.string (closeS h), .int .i64 0]) ∧ Below w.heap.size w w' := by
 have HB := Aside0.mk (Below.refl w.heap.size w)
 have HT := Aside0.mk hT
 have ZH := Aside0.mk hh
 have zx := xorS_size (wS false h) h
 have zy : ((xorS (wS false h) h).size : Int) = 64 := by rw [zx]; rfl
 clear hT hh
 go_enter Try.func49, Try.ntmps49
 go_wp2_with (first
  | ((with_reducible refine gate_callee (f := 68) rfl ?_); refine goesL_ (some 11) rfl rfl Try.func68 (by kernel_rfl) rfl #[.pointer (some ⟨g, 0, none⟩), .string h] rfl (by (try simp only [List.map_toArray, List.map_cons, List.map_nil]); first | done | rfl) ?_; (with_reducible refine (P_tab HT.out h ZH.out).mono ?_); rintro e w11 ⟨rfl, hb⟩; refine ⟨_, rfl, ?_⟩; replace HT := Aside0.mk (HT.out.below hb); replace HB := bh HB hb; (try clear hb))
  | (go_at_call 68; (with_reducible refine (P_tab HT.out h ZH.out).mono ?_); rintro e w11 ⟨rfl, hb⟩; replace HT := Aside0.mk (HT.out.below hb); replace HB := bh HB hb; (try clear hb))
  | ((with_reducible refine gate_callee (f := 69) rfl ?_); refine goesL_ (some 19) rfl rfl Try.func69 (by kernel_rfl) rfl #[.string (wS false h), .string h] rfl (by (try simp only [List.map_toArray, List.map_cons, List.map_nil]); first | done | rfl) ?_; (with_reducible refine (xor_calls _ _ (wS_size _ _) ZH.out _).mono ?_); rintro e w11 ⟨rfl, hb⟩; refine ⟨_, rfl, ?_⟩; replace HT := Aside0.mk (HT.out.below hb); replace HB := bh HB hb; (try clear hb); have zx : ((xorS (wS false h) h).size : Int) = 64 := by rw [xorS_size]; rfl)
  | (go_at_call 69; (with_reducible refine (xor_calls _ _ (wS_size _ _) ZH.out _).mono ?_); rintro e w11 ⟨rfl, hb⟩; replace HT := Aside0.mk (HT.out.below hb); replace HB := bh HB hb; (try clear hb); have zx : ((xorS (wS false h) h).size : Int) = 64 := by rw [xorS_size]; rfl))
 go_ret2
 exact ⟨by first | rfl | (unfold closeS; simp [zx]; done), HB.out⟩
end Go.Proofs.Ytmibjgjgfombaaa.P
end

section
/- What strings.Builder's contracts say, behind calls that keep what was. Conditions: those that each theorem names. -/
set_option linter.unusedVariables false
namespace Go.Proofs.Ytmibjgjgfombaaa.P
open Go.RowKit Go.Proofs.YtmibjgjgfombaaaX Go.Proofs.YtmibjgjgfombaaaW.PrintWords
theorem own_bel {W W' : World} {B e size n : Nat} {v : Value} {xs : List Value} (h : W.ownsRow B e size v n xs) (hb : Below W.heap.size W W') : W'.ownsRow B e size v n xs := by
  obtain ⟨h1, h2⟩ := h
  refine ⟨h1, ?_⟩
  rcases h2 with h2 | ⟨g, cap, cur, e1, h3, h4, h5⟩
  · exact .inl h2
  · exact .inr ⟨g, cap, cur, e1, h3, (hb.block g (Array.getElem?_eq_some_iff.1 h4).1).trans h4, h5⟩
theorem at_bel {T e B b : Nat} {p : Value} {bs : List Value} {W W' : World} (h : Lib.BuilderAt T e B b p bs W) (hb : Below W.heap.size W W') : Lib.BuilderAt T e B b p bs W' := by
  obtain ⟨h1, v, h2, h3, h4⟩ := h
  exact ⟨h1, v, (hb.block b (Array.getElem?_eq_some_iff.1 h2).1).trans h2, own_bel h3 hb, h4⟩
theorem bld_bel {T e B b : Nat} {bs : List Value} {W W' : World} (h : Lib.IsBuilder T e B b bs W) (hb : Below W.heap.size W W') : Lib.IsBuilder T e B b bs W' :=
  h.imp (fun h => at_bel h hb) (fun h => at_bel h hb)
theorem bld_new {T e B b : Nat} {W : World} (hB : B ≤ b) (h : W.heap[b]? = some (.cells #[.pointer none, .slice none 0 0] T (0, 0))) : Lib.IsBuilder T e B b (Lib.strCells ⟨#[]⟩) W :=
  .inl ⟨hB, _, h, ⟨rfl, .inl ⟨rfl, rfl⟩⟩, by simp [Value.ownBlock]⟩
end Go.Proofs.Ytmibjgjgfombaaa.P
end

section
/- A text filled up, and the first chain value (sponge.Fill, sponge.first) (layer 10). Conditions: those that each theorem names. Printed by gen_st.py. -/
set_option linter.unusedVariables false
set_option linter.unusedSimpArgs false
set_option maxRecDepth 100000
namespace Go.Proofs.Ytmibjgjgfombaaa.P
open Go.RowKit Go.Proofs.YtmibjgjgfombaaaX Go.Proofs.YtmibjgjgfombaaaW.PrintWords Go.Proofs.YtmibjgjgfombaaaW.PrintLast Go.Proofs.YtmibjgjgfombaaaW.PrintMore
open Go.Proofs.Ytmibjgjgfombaaa.Br
theorem byteCells_app (l m : List UInt8) : Lib.byteCells l ++ Lib.byteCells m = Lib.byteCells (l ++ m) := by
  unfold Lib.byteCells
  rw [List.map_append]
theorem byteCells_str (s : ByteArray) : Lib.strCells s = Lib.byteCells s.data.toList := rfl
theorem byteCells_len (l : List UInt8) : (Lib.byteCells l).length = l.length := by
  unfold Lib.byteCells
  rw [List.length_map]
theorem byteCells_one {c : Int} {n : Nat} (h : c = (n : Int)) (hn : n < 256) : [Value.int .u8 c] = Lib.byteCells [UInt8.ofNat n] := by
  subst h
  unfold Lib.byteCells
  show [Value.int .u8 (n : Int)] = [Value.int .u8 ((UInt8.ofNat n).toNat : Int)]
  rw [UInt8.toNat_ofNat', Nat.mod_eq_of_lt hn]
theorem repeatL_zero : ∀ c : Nat, Lib.repeatL [0] c = List.replicate c 0
  | 0 => rfl
  | c + 1 => by
    show [0] ++ Lib.repeatL [0] c = _
    rw [repeatL_zero c]
    rfl
theorem rep_zeros (c : Nat) (w : World) (hc : c ≤ 140737488355328) : Calls Try.prog 62 #[.string ⟨#[0]⟩, .int .i64 (c : Int)] w fun e w' => e = .returned (.string ⟨(List.replicate c 0).toArray⟩) ∧ Below w.heap.size w w' := by
  have h := Try.strings_Repeat ⟨#[0]⟩ c w (by omega) (by show 1 * c ≤ _; omega)
  rw [show Lib.repeatL (⟨#[0]⟩ : ByteArray).data.toList c = List.replicate c 0 from repeatL_zero c] at h
  exact h
theorem blocks_f (n : Nat) (h : n ≤ 1099511627776) : sponge_blocks.f (n : Int) = some (nB n : Int) := by
  unfold sponge_blocks.f nB
  have e1 : wrap64 ((n : Int) + 9) = (n : Int) + 9 := by unfold wrap64; omega
  have e2 : wrap64 ((n : Int) + 9 + 64) = (n : Int) + 9 + 64 := by unfold wrap64; omega
  have e3 : wrap64 ((n : Int) + 9 + 64 - 1) = (n : Int) + 72 := by unfold wrap64; omega
  rw [e1, e2, e3, Int.tdiv_eq_ediv_of_nonneg (by omega)]
  congr 1
  unfold wrap64
  omega
/-- Bits of a number of blocks, from the top. -/
theorem shr_byte (n k : Nat) : ((n : Int) / 2 ^ (8 * (k : Int)).toNat) % 256 = ((n / 2 ^ (8 * k) % 256 : Nat) : Int) := by
  rw [show (8 * (k : Int)).toNat = 8 * k by omega]
  rw [Int.natCast_emod, Int.natCast_ediv, Int.natCast_pow]
  rfl
set_option maxHeartbeats 8000000 in
set_option maxRecDepth 100000 in
theorem fill_calls (s : ByteArray) (hs : s.size ≤ 1099511627776) (w : World) :
  Calls Try.prog 47 #[.string s] w fun e w' => e = .returned (.string (fillS s)) ∧ Below w.heap.size w w' := by
 have HB := Aside0.mk (Below.refl w.heap.size w)
 have SZ := Aside0.mk hs
 obtain ⟨n, en⟩ : ∃ n, n = nB s.size := ⟨_, rfl⟩
 have EN := Aside0.mk en
 have NB := Aside0.mk (show sponge_blocks.f (s.size : Int) = some (n : Int) from en ▸ blocks_f _ hs)
 obtain ⟨c, ec⟩ : ∃ c, c = 64 * n - s.size - 9 := ⟨_, rfl⟩
 have EC := Aside0.mk ec
 have h1 : s.size + 9 ≤ 64 * n := en ▸ nB_le _
 have h2 : 64 * n ≤ s.size + 72 := en ▸ nB_lt _
 have CM := Aside0.mk (show c ≤ 140737488355328 by omega)
 have ZL := Aside0.mk (show (s.data.toList ++ [UInt8.ofNat 128]).length + (⟨(List.replicate c 0).toArray⟩ : ByteArray).size ≤ 140737488355328 by rw [List.length_append, Array.length_toList]; show s.size + 1 + (List.replicate c (0 : UInt8)).toArray.size ≤ _; rw [List.size_toArray, List.length_replicate]; omega)
 have f1 : wrap64 ((n : Int) * 64) = (n : Int) * 64 := by unfold wrap64; omega
 have f2 : wrap64 ((n : Int) * 64 - (s.size : Int)) = (n : Int) * 64 - (s.size : Int) := by unfold wrap64; omega
 have f3 : wrap64 ((n : Int) * 64 - (s.size : Int) - 9) = (c : Int) := by unfold wrap64; omega
 have f4 : (n : Int) * 64 - (s.size : Int) - 9 = (c : Int) := by omega
 have f5 : wrap64 (c : Int) = (c : Int) := by unfold wrap64; omega
 have N9 := Aside0.mk (show n ≤ 1099511627776 by omega)
 have L1 := Aside0.mk (show s.size + 1 + c = 64 * n - 8 by omega)
 clear hs en ec h1 h2
 go_enter Try.func47, Try.ntmps47
 go_wp2_with (first
  | ((with_reducible refine gate_callee (f := 64) rfl ?_); refine goesL_ (some 8) rfl rfl Try.func64 (by kernel_rfl) rfl #[.int .i64 (s.size : Int)] rfl (by (try simp only [List.map_toArray, List.map_cons, List.map_nil]); first | done | rfl) ?_; (with_reducible refine (sponge_blocks.calls (s.size : Int) (n : Int) _ NB.out).mono ?_); rintro e w11 ⟨rfl, hd⟩; refine ⟨_, rfl, ?_⟩; have hb := hd.below; clear hd; replace HB := bh HB hb; (try clear hb))
  | (go_at_call 64; (with_reducible refine (sponge_blocks.calls (s.size : Int) (n : Int) _ NB.out).mono ?_); rintro e w11 ⟨rfl, hd⟩; have hb := hd.below; clear hd; replace HB := bh HB hb; (try clear hb))
  | ((with_reducible refine gate_dst (N := 4) rfl ?_); refine box_event ?hg (N := 4) ?hd (cs := #[.pointer none, .slice none 0 0]) (t := 102) ?hr ?_; (case hd => rfl); (case hg => rfl); (case hr => first | (go_simp; done) | (go_simp; rfl)); intro g3 hg3 w3 hbox hb; have G3 := ge hg3 HB; have HI : Aside0 (Lib.IsBuilder 102 5 w.heap.size g3 (Lib.byteCells []) w3) := Aside0.mk (bld_new (e := 5) G3.out hbox); replace HB := bh HB hb; clear hb hbox hg3)
  | ((with_reducible refine gate_callee (f := 62) rfl ?_); refine goesL_ (some 18) rfl rfl Try.func62 (by kernel_rfl) rfl #[.string ⟨#[0]⟩, .int .i64 (c : Int)] rfl (by (try simp only [List.map_toArray, List.map_cons, List.map_nil]); first | done | rfl) ?_; (with_reducible refine (rep_zeros c _ CM.out).mono ?_); rintro e w11 ⟨rfl, hb⟩; refine ⟨_, rfl, ?_⟩; replace HI := Aside0.mk (bld_bel HI.out hb); replace HB := bh HB hb; (try clear hb))
  | (go_at_call 62; (with_reducible refine (rep_zeros c _ CM.out).mono ?_); rintro e w11 ⟨rfl, hb⟩; replace HI := Aside0.mk (bld_bel HI.out hb); replace HB := bh HB hb; (try clear hb))
  | ((with_reducible refine gate_callee (f := 65) rfl ?_); refine goesL_ (some 10) rfl rfl Try.func65 (by kernel_rfl) rfl #[.pointer (some ⟨g3, 0, none⟩), .string s] rfl (by (try simp only [List.map_toArray, List.map_cons, List.map_nil]); first | done | rfl) ?_; refine (Try.Builder_WriteString w.heap.size g3 _ s _ HI.out (by rw [byteCells_len]; have := SZ.out; show 0 + s.size ≤ _; omega) (below_size HB.out)).mono ?_; rintro e w5 ⟨rfl, hat, hb⟩; refine ⟨_, rfl, ?_⟩; rw [byteCells_str, byteCells_app, List.nil_append] at hat; replace HI := Aside0.mk (show Lib.IsBuilder _ _ _ _ _ _ from .inr hat); replace HB := Aside0.mk (HB.out.trans hb); clear hat hb)
  | (go_at_call 65; refine (Try.Builder_WriteString w.heap.size g3 _ s _ HI.out (by rw [byteCells_len]; have := SZ.out; show 0 + s.size ≤ _; omega) (below_size HB.out)).mono ?_; rintro e w5 ⟨rfl, hat, hb⟩; rw [byteCells_str, byteCells_app, List.nil_append] at hat; replace HI := Aside0.mk (show Lib.IsBuilder _ _ _ _ _ _ from .inr hat); replace HB := Aside0.mk (HB.out.trans hb); clear hat hb)
  | ((with_reducible refine gate_callee (f := 66) rfl ?_); refine goesL_ (some 11) rfl rfl Try.func66 (by kernel_rfl) rfl #[.pointer (some ⟨g3, 0, none⟩), .int .u8 128] rfl (by (try simp only [List.map_toArray, List.map_cons, List.map_nil]); first | done | rfl) ?_; refine (Try.Builder_WriteByte w.heap.size g3 _ 128 _ HI.out (by rw [byteCells_len, Array.length_toList]; have := SZ.out; show s.size + 1 ≤ _; omega) (below_size HB.out)).mono ?_; rintro e w5 ⟨rfl, hat, hb⟩; refine ⟨_, rfl, ?_⟩; rw [byteCells_one (c := 128) (n := 128) rfl (by decide), byteCells_app] at hat; replace HI := Aside0.mk (show Lib.IsBuilder _ _ _ _ _ _ from .inr hat); replace HB := Aside0.mk (HB.out.trans hb); clear hat hb)
  | (go_at_call 66; refine (Try.Builder_WriteByte w.heap.size g3 _ 128 _ HI.out (by rw [byteCells_len, Array.length_toList]; have := SZ.out; show s.size + 1 ≤ _; omega) (below_size HB.out)).mono ?_; rintro e w5 ⟨rfl, hat, hb⟩; rw [byteCells_one (c := 128) (n := 128) rfl (by decide), byteCells_app] at hat; replace HI := Aside0.mk (show Lib.IsBuilder _ _ _ _ _ _ from .inr hat); replace HB := Aside0.mk (HB.out.trans hb); clear hat hb)
  | ((with_reducible refine gate_callee (f := 65) rfl ?_); refine goesL_ (some 19) rfl rfl Try.func65 (by kernel_rfl) rfl #[.pointer (some ⟨g3, 0, none⟩), .string ⟨(List.replicate c 0).toArray⟩] rfl (by (try simp only [List.map_toArray, List.map_cons, List.map_nil]); first | done | rfl) ?_; refine (Try.Builder_WriteString w.heap.size g3 _ _ _ HI.out (by rw [byteCells_len]; exact ZL.out) (below_size HB.out)).mono ?_; rintro e w5 ⟨rfl, hat, hb⟩; refine ⟨_, rfl, ?_⟩; rw [byteCells_str, byteCells_app] at hat; replace HI := Aside0.mk (show Lib.IsBuilder _ _ _ _ _ _ from .inr hat); replace HB := Aside0.mk (HB.out.trans hb); clear hat hb)
  | (go_at_call 65; refine (Try.Builder_WriteString w.heap.size g3 _ _ _ HI.out (by rw [byteCells_len]; exact ZL.out) (below_size HB.out)).mono ?_; rintro e w5 ⟨rfl, hat, hb⟩; rw [byteCells_str, byteCells_app] at hat; replace HI := Aside0.mk (show Lib.IsBuilder _ _ _ _ _ _ from .inr hat); replace HB := Aside0.mk (HB.out.trans hb); clear hat hb))
 clear f1 f2 f3 f4 f5
 go_loopg [5] 8 (fun kq v5 w' => v5 = .int .i64 ((kq : Int) - 1) ∧ Aside0 (kq ≤ 8) ∧ Aside0 (Lib.IsBuilder 102 5 w.heap.size g3 (Lib.byteCells (s.data.toList ++ [UInt8.ofNat 128] ++ List.replicate c 0 ++ tailB n (8 - kq))) w') ∧ Aside0 (Below w.heap.size w w'))
 case atStart =>
  refine ⟨rfl, ⟨Nat.le_refl _⟩, ⟨?_⟩, HB⟩
  have t := HI.out
  show Lib.IsBuilder _ _ _ _ (Lib.byteCells (s.data.toList ++ [UInt8.ofNat 128] ++ List.replicate c 0 ++ [])) _
  rw [List.append_nil]
  exact t
 case round =>
  clear HI HB
  obtain ⟨rfl, HK, HI, HB⟩ := hrel
  cases gk with
  | zero =>
   go_wp2_with (first
    | ((with_reducible refine gate_callee (f := 67) rfl ?_); refine goesL_ (some 30) rfl rfl Try.func67 (by kernel_rfl) rfl #[.pointer (some ⟨g3, 0, none⟩)] rfl (by (try simp only [List.map_toArray, List.map_cons, List.map_nil]); first | done | rfl) ?_; (with_reducible refine (Try.Builder_String_any w.heap.size g3 _ _ HI.out (below_size HB.out)).mono ?_); rintro e w11 ⟨rfl, hb⟩; refine ⟨_, rfl, ?_⟩; replace HB := Aside0.mk (HB.out.trans hb); clear hb)
    | (go_at_call 67; (with_reducible refine (Try.Builder_String_any w.heap.size g3 _ _ HI.out (below_size HB.out)).mono ?_); rintro e w11 ⟨rfl, hb⟩; replace HB := Aside0.mk (HB.out.trans hb); clear hb))
   go_ret
   refine ⟨?_, HB.out⟩
   unfold fillS fillL headL
   rw [← EN.out, ← EC.out, show s.data.toList ++ [128] ++ List.replicate c 0 ++ tailB n 8 = s.data.toList ++ 128 :: (List.replicate c 0 ++ tailB n 8) by simp]
   rfl
  | succ k2 =>
   have hk : k2 < 8 := by have := HK.out; omega
   have HK8 := Aside0.mk hk
   have e0 : (((k2 + 1 : Nat) : Int) - 1) = (k2 : Int) := by omega
   rw [e0]
   have z1 : (0 ≤ 8 * (k2 : Int)) = True := eq_true (by omega)
   have z2 : (8 * (k2 : Int) ≤ 64) = True := eq_true (by omega)
   have z3 : (0 ≤ (k2 : Int)) = True := eq_true (by omega)
   have q0 : wrap64 (8 * (k2 : Int)) = 8 * (k2 : Int) := by unfold wrap64; omega
   have q1 := shr_byte n k2
   clear hk e0
   go_wp2_with (first
    | ((with_reducible refine gate_callee (f := 66) rfl ?_); refine goesL_ (some 29) rfl rfl Try.func66 (by kernel_rfl) rfl #[.pointer (some ⟨g3, 0, none⟩), .int .u8 ((n / 2 ^ (8 * k2) % 256 : Nat) : Int)] rfl (by (try simp only [List.map_toArray, List.map_cons, List.map_nil]); first | done | rfl) ?_; refine (Try.Builder_WriteByte w.heap.size g3 _ _ _ HI.out (by rw [byteCells_len, List.length_append, List.length_append, List.length_append, Array.length_toList, List.length_replicate, tailB_len]; have := L1.out; have := N9.out; show s.size + 1 + c + _ + 1 ≤ _; omega) (below_size HB.out)).mono ?_; rintro e w5 ⟨rfl, hat, hb⟩; refine ⟨_, rfl, ?_⟩; rw [byteCells_one (n := n / 2 ^ (8 * k2) % 256) rfl (Nat.mod_lt _ (by decide)), byteCells_app] at hat; replace HI := Aside0.mk (show Lib.IsBuilder _ _ _ _ _ _ from .inr hat); replace HB := Aside0.mk (HB.out.trans hb); clear hat hb)
    | (go_at_call 66; refine (Try.Builder_WriteByte w.heap.size g3 _ _ _ HI.out (by rw [byteCells_len, List.length_append, List.length_append, List.length_append, Array.length_toList, List.length_replicate, tailB_len]; have := L1.out; have := N9.out; show s.size + 1 + c + _ + 1 ≤ _; omega) (below_size HB.out)).mono ?_; rintro e w5 ⟨rfl, hat, hb⟩; rw [byteCells_one (n := n / 2 ^ (8 * k2) % 256) rfl (Nat.mod_lt _ (by decide)), byteCells_app] at hat; replace HI := Aside0.mk (show Lib.IsBuilder _ _ _ _ _ _ from .inr hat); replace HB := Aside0.mk (HB.out.trans hb); clear hat hb))
   go_roundg k2
   case measure => omega
   case rel =>
    have hk := HK8.out
    refine ⟨by rw [show wrap64 ((k2 : Int) - 1) = (k2 : Int) - 1 by unfold wrap64; omega], ⟨by omega⟩, ⟨?_⟩, HB⟩
    have t := HI.out
    rw [List.append_assoc _ (tailB n (8 - (k2 + 1))), show n / 2 ^ (8 * k2) % 256 = n / 2 ^ (8 * (7 - (8 - (k2 + 1)))) % 256 by rw [show 7 - (8 - (k2 + 1)) = k2 by omega], tailB_succ, show 8 - (k2 + 1) + 1 = 8 - k2 by omega] at t
    exact t
end Go.Proofs.Ytmibjgjgfombaaa.P
end

section
/- A range over a function whose state lies in a block of its own, and whose body always goes on. Conditions: those that each theorem names. -/
set_option linter.unusedVariables false
namespace Go.Rc
open Go.RowKit
variable {F : Fence} {n : Nat} {P : Program}
/-- All of xs come, in order: whatever the rounds hold, if the iterator's own steps (Ks) leave it; a round keeps Kp. -/
def Gives {α : Type} (F : Fence) (n : Nat) (P : Program) (g : Nat) (lb : Array Value) (encs : α → Array Value) (Kp Ks : World → World → Prop) (xs : List α) (w : World) : Prop :=
  ∀ (l : Nat) (J : List α → World → Prop) (W : World), Below w.heap.size w W → (∀ s A B, J s A → Ks A B → J s B) →
    (∀ pre x W1, J pre W1 → pre ++ [x] <+: xs → YieldAt F (n - 1) P l (encs x) W1 fun e W' => e = .returned (.bool true) ∧ J (pre ++ [x]) W' ∧ Kp W1 W') →
    J [] W → CallsIn F n P g (#[.func (.yield l) #[] #[]] ++ lb) W fun e W' => (∃ v, e = .returned v) ∧ J xs W'
theorem range_on {α : Type} {g : Operand} {ps : Array Tmp} {assign body : Code} {Q : Exit → Act → World → Prop} {a : Act} {w : World}
    (hro : F.round = none) (h1 : 1 ≤ n) {gf : Nat} {lb : Array Value} (hg : a.eval g = .func (.func gf) #[] lb) (hFg : F.fn gf) (eg : ∀ args w, (callFunc gf args).run P w = .ok (.enter gf args) w)
    {encs : α → Array Value} {Kp Ks : World → World → Prop} {xs : List α} (hseq : Gives F (n - 1) P gf lb encs Kp Ks xs w)
    (hps : ∀ x, (encs x).size = ps.size)
    (hKt : ∀ {A B C : World}, Kp A B → Kp B C → Kp A C)
    (hKb : ∀ (W : World) (l : Nat) (o o' : Obj), w.heap.size ≤ l → W.heap[l]? = some o → o.isCells = false → Kp W (W.putObj l o'))
    (hKs : ∀ A B (k : Nat) (o : Obj), Ks A B → w.heap.size ≤ k → A.heap[k]? = some o → o.isCells = false → B.heap[k]? = some o)
    (I : List α → World → Prop) (Ax : List α → α → Act → World → Prop)
    (hIs : ∀ s A B, I s A → Ks A B → I s B) (hIp : ∀ s W (l : Nat) (o o' : Obj), I s W → w.heap.size ≤ l → W.heap[l]? = some o → o.isCells = false → I s (W.putObj l o'))
    (hIa : ∀ s W o, I s W → I s (W.alloc o))
    (hAp : ∀ s x b W (l : Nat) (o o' : Obj), Ax s x b W → w.heap.size ≤ l → W.heap[l]? = some o → o.isCells = false → Ax s x b (W.putObj l o'))
    (h0 : I [] w)
    (hassign : ∀ (l : Nat) (pre : List α) (x : α) (W : World) (K : Act → World → Prop), I pre W → pre ++ [x] <+: xs → (∀ a₁ W1, KeepsOthers W W1 → Kp W W1 → Ax pre x a₁ W1 → K a₁ W1) →
      assign.wpIn (F.inRound l) (n - 1 - 1) P (Exit.then K (fun _ _ _ => False)) { tmps := (ps.zip (encs x)).foldl (fun t (p, v) => t.setIfInBounds p v) a.tmps, defers := [] } W)
    (hbody : ∀ (l : Nat) (pre : List α) (x : α) (a₁ : Act) (W : World), Ax pre x a₁ W → pre ++ [x] <+: xs → body.wpIn (F.inRound l) (n - 1 - 1) P (fun e _ W' => e = .normal ∧ KeepsOthers W W' ∧ Kp W W' ∧ I (pre ++ [x]) W') a₁ W)
    (hdone : ∀ (D : Nat) (W : World), w.heap.size ≤ D → I xs W → W.heap[D]? = some (.deferred (some [])) → Q .normal { a with defers := { target := .collected D, args := #[] } :: a.defers } W) :
    (Code.rangeFunc g ps assign body).wpIn F n P Q a w := by
  refine wpIn_rangeFunc ?_
  intro fn hfn
  rw [hro]
  obtain ⟨rec, hrec⟩ : ∃ rec : LoopState → Option Code → Loop, rec = fun st pe => { state := st, pending := pe, fn, tmps := a.tmps, params := ps, assign, body, defers := w.heap.size } := ⟨_, rfl⟩
  obtain ⟨W1, hW1⟩ : ∃ W1, (w.alloc (.deferred (some []))).alloc (.loop (rec .ready none)) = W1 := ⟨_, rfl⟩
  have hL1 : W1.heap[w.heap.size + 1]? = some (.loop (rec .ready none)) := by
    rw [← hW1]
    have := World.alloc_heap_new (w.alloc (.deferred (some []))) (.loop (rec .ready none))
    rwa [World.size_alloc] at this
  have hK1 : W1.heap[w.heap.size]? = some (.deferred (some [])) := by
    rw [← hW1]
    exact (Below.heap_alloc _ _ _ (by simp)).trans (World.alloc_heap_new w _)
  have hI1 : I [] W1 := by rw [← hW1]; exact hIa _ _ _ (hIa _ _ _ h0)
  have hb1 : Below w.heap.size w W1 := by
    rw [← hW1]
    exact ((Below.refl _ w).alloc (Nat.le_refl _) _).alloc (by simp) _
  refine ⟨w.heap.size + 1, [{ target := .collected w.heap.size, args := #[] }], W1, { target := .fn (.func gf) lb, args := #[.func (.yield (w.heap.size + 1)) #[] #[]] }, W1, gf,
    #[.func (.yield (w.heap.size + 1)) #[] #[]] ++ lb, W1, ?_, ?_, ?_, ?_, fun _ => h1, ?_⟩
  · rw [← hW1, hrec]
    exact run_enterLoop_outer _ _ _ _ _
  · simp only [resolve, hg]
    simp [go_sem]
  · intro f' hf'
    simp [Target.leads] at hf'
    subst hf'
    exact hFg
  · simp [invoke, go_sem, eg]
  · refine (hseq (w.heap.size + 1)
      (fun pre W => I pre W ∧ W.heap[w.heap.size + 1]? = some (.loop (rec .ready none)) ∧ W.heap[w.heap.size]? = some (.deferred (some [])))
      W1 hb1
      (fun s A B hs hk => ⟨hIs s A B hs.1 hk, hKs A B _ _ hk (by omega) hs.2.1 rfl, hKs A B _ _ hk (Nat.le_refl _) hs.2.2 rfl⟩)
      ?_ ⟨hI1, hL1, hK1⟩).mono ?_
    · rintro pre x W ⟨hi, hl, hk⟩ hpx
      have hlt : w.heap.size + 1 < W.heap.size := (Array.getElem?_eq_some_iff.1 hl).1
      have hy := run_yield (P := P) (args := encs x) hl (by rw [hrec]; exact hps x)
      rw [hrec] at hy
      refine ⟨fn, _, assign, body, hy, roundIn_of_wpIn hfn (hassign _ pre x W _ hi hpx ?_)⟩
      intro a₁ W2 hk2 hp2 hax
      have hl2 : W2.heap[w.heap.size + 1]? = some (.loop (rec .ready none)) := hk2.same _ _ hl rfl
      have hd2 : W2.heap[w.heap.size]? = some (.deferred (some [])) := hk2.same _ _ hk rfl
      have hlt2 : w.heap.size + 1 < W2.heap.size := (Array.getElem?_eq_some_iff.1 hl2).1
      refine ⟨_, run_beginRound hl2 (by rw [hrec]), ?_⟩
      have hl3 : (W2.putObj (w.heap.size + 1) (.loop { rec .ready none with state := .busy })).heap[w.heap.size + 1]? = some (.loop { rec .ready none with state := .busy }) := World.putObj_heap_same hlt2
      have hd3 : (W2.putObj (w.heap.size + 1) (.loop { rec .ready none with state := .busy })).heap[w.heap.size]? = some (.deferred (some [])) := (World.putObj_heap_other (by omega)).trans hd2
      have hw3 : Kp W2 (W2.putObj (w.heap.size + 1) (.loop { rec .ready none with state := .busy })) := hKb _ _ _ _ (by omega) hl2 rfl
      refine wpIn_mono (hbody _ pre x a₁ _ (hAp _ _ _ _ _ _ _ hax (by omega) hl2 rfl) hpx) ?_
      rintro e a3 W3 ⟨rfl, hk4, hp4, hi4⟩
      have hl4 := hk4.same _ _ hl3 rfl
      have hd4 := hk4.same _ _ hd3 rfl
      have hr := run_endRound (P := P) none hl4
      rw [hrec] at hr
      refine ⟨_, _, hr, rfl, ⟨hIp _ _ _ _ _ hi4 (by omega) hl4 rfl, ?_, (World.putObj_heap_other (by omega)).trans hd4⟩, hKt (hKt (hKt hp2 hw3) hp4) (hKb _ _ _ _ (by omega) hl4 rfl)⟩
      rw [hrec]
      exact World.putObj_heap_same (Array.getElem?_eq_some_iff.1 hl4).1
    · rintro e W2 ⟨⟨v, rfl⟩, hi, hl, hk⟩
      have := run_endLoop (P := P) hl (by rw [hrec]; simp)
      rw [hrec] at this
      exact ⟨none, _, this, hdone _ _ (Nat.le_refl _) (hIp _ _ _ _ _ hi (by omega) hl rfl) ((World.putObj_heap_other (by omega)).trans hk)⟩
end Go.Rc
end

section
/- The blocks of a text, yielded in order (sponge.cut and its closure) (layer 10). Conditions: those that each theorem names. Printed by gen_st.py. -/
set_option linter.unusedVariables false
set_option linter.unusedSimpArgs false
set_option maxRecDepth 100000
namespace Go.Proofs.Ytmibjgjgfombaaa.P
open Go.RowKit Go.Shelf Go.Rc Go.Proofs.Ytmibjgjgfombaaa.Br Go.Proofs.YtmibjgjgfombaaaX Go.Proofs.YtmibjgjgfombaaaW.PrintWords Go.Proofs.YtmibjgjgfombaaaW.PrintLast Go.Proofs.YtmibjgjgfombaaaW.PrintMore
attribute [local go_sem] Oper.semAt_some
def encS (x : ByteArray) : Array Value := #[.string x]
/-- A round keeps the box. -/
def Kp1 (gs : Nat) (W W' : World) : Prop := W'.heap[gs]? = W.heap[gs]?
/-- A step of the walk turns one block alone. -/
structure Ks1 (g : Nat) (W W' : World) : Prop where
  os : W'.os = W.os
  tape : W'.tape = W.tape
  output : W'.output = W.output
  size : W.heap.size ≤ W'.heap.size
  block : ∀ k, k < W.heap.size → k ≠ g → W'.heap[k]? = W.heap[k]?
theorem Ks1.set {g : Nat} (W : World) (j : Nat) (v : Value) : Ks1 g W (W.setCell ⟨g, j, none⟩ v) := by
  have h := (Below.refl 0 W).setCell (p := ⟨g, j, none⟩) (Nat.zero_le _) v
  exact ⟨h.os, h.tape, h.output, h.size, fun k _ hk => Below.heap_setCell W ⟨g, j, none⟩ v k hk⟩
theorem Ks1.refl {g : Nat} (W : World) : Ks1 g W W := ⟨rfl, rfl, rfl, Nat.le_refl _, fun _ _ _ => rfl⟩
theorem below_putObj {n₀ : Nat} {w W : World} (hb : Below n₀ w W) (l : Nat) (o' : Obj) (hn : n₀ ≤ l) : Below n₀ w (W.putObj l o') :=
  ⟨hb.os, hb.tape, hb.output, by simpa [World.putObj] using hb.size, fun k hk => (World.putObj_heap_other (by omega)).trans (hb.block k hk)⟩
theorem Ks1.later {g n₀ : Nat} {w A B : World} (hb : Below n₀ w A) (hk : Ks1 g A B) (hg : n₀ ≤ g) (hw : n₀ ≤ w.heap.size) : Below n₀ w B :=
  ⟨hk.os.trans hb.os, hk.tape.trans hb.tape, hk.output.trans hb.output, Nat.le_trans hb.size hk.size, fun k h => (hk.block k (by have := hb.size; omega) (by omega)).trans (hb.block k h)⟩
set_option maxHeartbeats 8000000 in
set_option maxRecDepth 100000 in
theorem cut_gives (n : Nat) (hn : 3 ≤ n) (m : Nat) (hm : m ≤ 17592186044416) (f : ByteArray) (hf : f.size = 64 * m) (gs : Nat) (w : World) (hs : w.heap[gs]? = some (.cells #[.string f] 9 (0, 0))) :
    Gives Fence.wide n Try.prog 63 #[.pointer (some ⟨gs, 0, none⟩)] encS (Kp1 gs) (Ks1 gs) (cutL m f) w := by
  intro l J W hW hJ hY h0
  refine callsIn_of_wp Try.func63 rfl trivial ?_ rfl
  simp only [Try.ntmps63, List.size_toArray, List.length_cons, List.length_nil, Nat.reduceAdd, Nat.reduceSub, Array.replicate_succ, Array.replicate_zero, List.push_toArray, List.append_toArray, List.nil_append, List.cons_append]
  gi_wp2
  gi_loopg [3] m (fun kq v3 w' => ∃ (s : ByteArray) (pre : List ByteArray), Aside0 (cutL m f = pre ++ cutL kq s) ∧ Aside0 (s.size = 64 * kq) ∧ Aside0 (kq ≤ m) ∧ Aside0 (w'.heap[gs]? = some (.cells #[.string s] 9 (0, 0))) ∧ Aside0 (J pre w'))
  case atStart => exact ⟨f, [], ⟨rfl⟩, ⟨hf⟩, ⟨Nat.le_refl _⟩, ⟨blk_below hs hW⟩, ⟨h0⟩⟩
  case round =>
    obtain ⟨s, pre, hx, hz, hk, BS, hj⟩ := hrel
    have hcs := zc1 BS
    cases gk with
    | zero =>
      have e0 := hz.out
      have d1 : decide (64 ≤ (s.size : Int)) = false := decide_eq_false (by omega)
      have d2 : decide (64 ≤ s.size) = false := decide_eq_false (by omega)
      clear e0
      have hend : J (cutL m f) wr := by
        have := hx.out
        rw [show cutL 0 s = [] from rfl, List.append_nil] at this
        rw [this]
        exact hj.out
      have HE := Aside0.mk hend
      clear hend
      gi_wp2
      refine ⟨fun _ h => (by cases h), ?_⟩
      gi_wp2
      go_end0
      exact ⟨⟨_, rfl⟩, HE.out⟩
    | succ gko =>
      have e0 := hz.out
      have d1 : decide (64 ≤ (s.size : Int)) = true := decide_eq_true (by omega)
      have d2 : decide (64 ≤ s.size) = true := decide_eq_true (by omega)
      have d3 : (64 ≤ (s.size : Int)) = True := eq_true (by omega)
      have d4 : (64 ≤ s.size) = True := eq_true (by omega)
      obtain ⟨fn, tmps, assign, body, hy, hR⟩ := hY pre (s.extract 0 64) wr hj.out ⟨cutL gko (s.extract 64 s.size), by rw [hx.out, List.append_assoc]; rfl⟩
      have HX := Aside0.mk (show cutL m f = (pre ++ [s.extract 0 64]) ++ cutL gko (s.extract 64 s.size) by rw [hx.out, List.append_assoc]; rfl)
      have HZ2 := Aside0.mk (ext_size1 e0)
      clear hx e0
      dsimp only [encS] at hy
      gi_wp2
      refine ⟨fun _ => by omega, hR.mono ?_⟩
      rintro e W2 ⟨rfl, hj2, hkp⟩
      clear hcs
      replace BS := Aside0.mk (Eq.trans hkp BS.out)
      have hcs := zc1 BS
      have hfz := blk_frozen BS.out 0
      have HJ2 := Aside0.mk hj2
      clear hj hj2 hkp hR hy
      gi_wp2
      gi_roundg gko
      case measure => exact Nat.lt_succ_self _
      case rel => exact ⟨s.extract 64 s.size, pre ++ [s.extract 0 64], HX, HZ2, ⟨by have := hk.out; omega⟩, ⟨blk_put BS.out 0 _ rfl⟩, ⟨hJ _ _ _ HJ2.out (Ks1.set _ _ _)⟩⟩
set_option maxHeartbeats 8000000 in
set_option maxRecDepth 100000 in
theorem cut_calls (s : ByteArray) (w : World) : Calls Try.prog 46 #[.string s] w fun e w' => ∃ gs : Nat, e = .returned (.func (.func 63) #[] #[.pointer (some ⟨gs, 0, none⟩)]) ∧ w.heap.size ≤ gs ∧ w'.heap[gs]? = some (.cells #[.string s] 9 (0, 0)) ∧ Below w.heap.size w w' := by
  have hmf : ∀ (fn : Fn) (first cap : Array Value) (w : World), (Instr.makeFunc fn first cap).run Try.prog w = .ok (.func fn first cap) w := fun _ _ _ _ => rfl
  have HB := Aside0.mk (Below.refl w.heap.size w)
  go_enter Try.func46, Try.ntmps46
  go_wp2_with (first
    | ((with_reducible refine gate_dst (N := 1) rfl ?_); refine box_event ?hg (N := 1) ?hd (cs := #[.string s]) (t := 9) ?hr ?_; (case hd => rfl); (case hg => rfl); (case hr => first | (go_simp; done) | (go_simp; rfl)); intro gs hgs w4 hbox hb; have BS := Aside0.mk hbox; have GS := ge hgs HB; replace HB := bh HB hb; clear hb hbox hgs))
  go_ret
  exact ⟨gs, rfl, GS.out, BS.out, HB.out⟩
end Go.Proofs.Ytmibjgjgfombaaa.P
end

section
/- A text's digest (sponge.Sum) (layer 10). Conditions: those that each theorem names. Printed by gen_st.py. -/
set_option linter.unusedVariables false
set_option linter.unusedSimpArgs false
set_option maxRecDepth 100000
namespace Go.Proofs.Ytmibjgjgfombaaa.P
open Go.RowKit Go.Shelf Go.Rc Go.Proofs.Ytmibjgjgfombaaa.Br Go.Proofs.YtmibjgjgfombaaaX Go.Proofs.YtmibjgjgfombaaaW.PrintWords Go.Proofs.YtmibjgjgfombaaaW.PrintLast Go.Proofs.YtmibjgjgfombaaaW.PrintMore
attribute [local go_sem] Oper.semAt_some
theorem first_app : (⟨(List.replicate 62 (0 : UInt8)).toArray⟩ : ByteArray) ++ ⟨#[1, 0]⟩ = firstS := by
  apply ByteArray.ext
  rw [ByteArray.data_append]
  rfl
set_option maxHeartbeats 8000000 in
set_option maxRecDepth 100000 in
theorem first_calls (w : World) : Calls Try.prog 45 #[] w fun e w' => e = .returned (.string firstS) ∧ Below w.heap.size w w' := by
 have HB := Aside0.mk (Below.refl w.heap.size w)
 have fa := first_app
 obtain ⟨z, ez⟩ : ∃ z : ByteArray, z = ⟨(List.replicate 62 (0 : UInt8)).toArray⟩ := ⟨_, rfl⟩
 have EZ := Aside0.mk ez
 have hz : z.size = 62 := by rw [ez]; show (List.replicate 62 (0 : UInt8)).toArray.size = 62; rw [List.size_toArray, List.length_replicate]
 rw [← ez] at fa
 clear ez
 go_enter Try.func45, Try.ntmps45
 go_wp2_with (first
  | ((with_reducible refine gate_callee (f := 62) rfl ?_); refine goesL_ (some 1) rfl rfl Try.func62 (by kernel_rfl) rfl #[.string ⟨#[0]⟩, .int .i64 62] rfl (by (try simp only [List.map_toArray, List.map_cons, List.map_nil]); first | done | rfl) ?_; refine ((EZ.out ▸ rep_zeros 62 _ (by decide))).mono ?_; rintro e w11 ⟨rfl, hb⟩; refine ⟨_, rfl, ?_⟩; replace HB := bh HB hb; (try clear hb))
  | (go_at_call 62; refine ((EZ.out ▸ rep_zeros 62 _ (by decide))).mono ?_; rintro e w11 ⟨rfl, hb⟩; replace HB := bh HB hb; (try clear hb)))
 go_ret
 exact ⟨rfl, HB.out⟩
theorem str_eq3 {P : Program} {f : FuncId} {args : Array Value} {w : World} {a b : ByteArray} {n : Int} (h : a = b) (hc : Calls P f args w fun e w' => e = .returned (.tuple #[.string a, .int .i64 n]) ∧ Below w.heap.size w w') : Calls P f args w fun e w' => e = .returned (.tuple #[.string b, .int .i64 n]) ∧ Below w.heap.size w w' := h ▸ hc
/-- Between two rounds: what has come, and the chain value so far. -/
def sumI (xs : List ByteArray) (r : ByteArray) (ct : Array Value) (g g2 g5 z : Nat) (w : World) (pre : List ByteArray) (W : World) : Prop :=
  ∃ (rest : List ByteArray) (h : ByteArray), xs = pre ++ rest ∧ closeS (rest.foldl pressS h) = r ∧ h.size = 64 ∧ W.heap[g5]? = some (.cells #[.string h] 9 (0, 0)) ∧ W.heap[g2]? = some (.cells #[.pointer (some ⟨g, 0, none⟩)] 25 (0, 0)) ∧ W.heap[g]? = some (.cells ct 67 (0, 0)) ∧ z ≤ W.heap.size ∧ Below w.heap.size w W
set_option maxHeartbeats 8000000 in
set_option maxRecDepth 100000 in
theorem sum_calls {w : World} {g : Nat} (hT : TabAt w g) (s : ByteArray) (hs : s.size ≤ 1048576) :
    Calls Try.prog 29 #[.pointer (some ⟨g, 0, none⟩), .string s] w fun e w' => e = .returned (.string (sumS s)) ∧ Below w.heap.size w w' := by
  obtain ⟨ct, hT, hTab⟩ := hT
  have HB := Aside0.mk (Below.refl w.heap.size w)
  have HT := Aside0.mk hT
  have TB := Aside0.mk hTab
  have SZ := Aside0.mk hs
  have z1 : decide (1048576 < (s.size : Int)) = false := decide_eq_false (by omega)
  have z2 : decide (1048576 < s.size) = false := decide_eq_false (by omega)
  clear hT hTab hs
  refine (callsIn_wide (n := 6)).1 ?_
  refine callsIn_of_wp_marks Try.func29 rfl trivial ?_ rfl
  simp only [Try.ntmps29, List.size_toArray, List.length_cons, List.length_nil, Nat.reduceAdd, Nat.reduceSub, Array.replicate_succ, Array.replicate_zero, List.push_toArray, List.append_toArray, List.nil_append, List.cons_append]
  refine wpIn_wide.2 ?_
  go_wp2_with (first
    | ((with_reducible refine gate_dst (N := 2) rfl ?_); refine box_event ?hg (N := 2) ?hd (cs := #[.pointer (some ⟨g, 0, none⟩)]) (t := 25) ?hr ?_; (case hd => rfl); (case hg => rfl); (case hr => first | (go_simp; done) | (go_simp; rfl)); intro g2 hg2 w2 hbox hb; have B2 := Aside0.mk hbox; have G2 := ge hg2 HB; replace HT := bb HT hb; replace HB := bh HB hb; clear hb hbox hg2; have c2 := zc1 B2)
    | ((with_reducible refine gate_callee (f := 45) rfl ?_); refine goesL_ (some 16) rfl rfl Try.func45 (by kernel_rfl) rfl #[] rfl (by (try simp only [List.map_toArray, List.map_cons, List.map_nil]); first | done | rfl) ?_; (with_reducible refine (first_calls _).mono ?_); rintro e w11 ⟨rfl, hb⟩; refine ⟨_, rfl, ?_⟩; replace B2 := bb B2 hb; replace HT := bb HT hb; replace HB := bh HB hb; (try clear hb))
    | (go_at_call 45; (with_reducible refine (first_calls _).mono ?_); rintro e w11 ⟨rfl, hb⟩; replace B2 := bb B2 hb; replace HT := bb HT hb; replace HB := bh HB hb; (try clear hb))
    | ((with_reducible refine gate_dst (N := 5) rfl ?_); refine box_event ?hg (N := 5) ?hd (cs := #[.string ⟨#[]⟩]) (t := 9) ?hr ?_; (case hd => rfl); (case hg => rfl); (case hr => first | (go_simp; done) | (go_simp; rfl)); intro g5 hg5 w5 hbox hb; have B5 := Aside0.mk hbox; have G5 := ge hg5 HB; have N25 := nl hg5 B2; have NT5 := nl hg5 HT; replace B2 := bb B2 hb; replace HT := bb HT hb; replace HB := bh HB hb; clear hb hbox hg5; have cz5 := blk_frozen B5.out 0; have c5 := zc1 B5)
    | (go_at_call 47; replace B5 := Aside0.mk (blk_put B5.out 0 (.string firstS) rfl); replace B2 := Aside0.mk (blk_far (p := ⟨g5, 0, none⟩) B2.out N25.out (.string firstS)); replace HT := Aside0.mk (blk_far (p := ⟨g5, 0, none⟩) HT.out NT5.out (.string firstS)); replace HB := Aside0.mk (below_set (j := 0) (v := .string firstS) HB.out G5.out); clear cz5 c5 c2; (generalize World.setCell _ ⟨g5, 0, none⟩ (.string firstS) = w6 at B5 B2 HT HB ⊢); (with_reducible refine (fill_calls s (Nat.le_trans SZ.out (by decide)) _).mono ?_); rintro e w11 ⟨rfl, hb⟩; replace B2 := bb B2 hb; replace B5 := bb B5 hb; replace HT := bb HT hb; replace HB := bh HB hb; (try clear hb))
    | ((with_reducible refine gate_callee (f := 46) rfl ?_); refine goesL_ (some 19) rfl rfl Try.func46 (by kernel_rfl) rfl #[.string (fillS s)] rfl (by (try simp only [List.map_toArray, List.map_cons, List.map_nil]); first | done | rfl) ?_; (with_reducible refine (cut_calls (fillS s) _).mono ?_); rintro e w9 ⟨gs, rfl, hgs, hbs, hb⟩; refine ⟨_, rfl, ?_⟩; have N2 := Aside0.mk (Nat.ne_of_lt (Nat.lt_of_lt_of_le (blk_lt B2.out) hgs)); have N5 := Aside0.mk (Nat.ne_of_lt (Nat.lt_of_lt_of_le (blk_lt B5.out) hgs)); have NT := Aside0.mk (Nat.ne_of_lt (Nat.lt_of_lt_of_le (blk_lt HT.out) hgs)); have GS := Aside0.mk (Nat.le_trans (below_size HB.out) hgs); have BS := Aside0.mk hbs; replace B2 := bb B2 hb; replace B5 := bb B5 hb; replace HT := bb HT hb; replace HB := bh HB hb; (try clear hb hbs hgs))
    | (go_at_call 46; (with_reducible refine (cut_calls (fillS s) _).mono ?_); rintro e w9 ⟨gs, rfl, hgs, hbs, hb⟩; have N2 := Aside0.mk (Nat.ne_of_lt (Nat.lt_of_lt_of_le (blk_lt B2.out) hgs)); have N5 := Aside0.mk (Nat.ne_of_lt (Nat.lt_of_lt_of_le (blk_lt B5.out) hgs)); have NT := Aside0.mk (Nat.ne_of_lt (Nat.lt_of_lt_of_le (blk_lt HT.out) hgs)); have GS := Aside0.mk (Nat.le_trans (below_size HB.out) hgs); have BS := Aside0.mk hbs; replace B2 := bb B2 hb; replace B5 := bb B5 hb; replace HT := bb HT hb; replace HB := bh HB hb; (try clear hb hbs hgs)))
  have hsz : g5 < w9.heap.size := blk_lt B5.out
  have hsz2 : g2 < w9.heap.size := blk_lt B2.out
  have hszg : g < w9.heap.size := blk_lt HT.out
  have hszs : gs < w9.heap.size := blk_lt BS.out
  refine (wpIn_wide (n := 6)).1 ?_
  refine range_on (F := Fence.wide) (α := ByteArray) rfl (by omega) (gf := 63) rfl trivial (enters_of Try.func63 (by kernel_rfl) rfl)
    (cut_gives 5 (by omega) (nB s.size) (by have := SZ.out; unfold nB; omega) (fillS s) (fillS_size s) gs w9 BS.out)
    (fun _ => rfl) (fun h1 h2 => Eq.trans h2 h1)
    (fun W l o o' hl hW hc => World.putObj_heap_other (by omega))
    (fun A B k o hs hk hA hc => (hs.block k (blk_lt hA) (by omega)).trans hA)
    (sumI (cutL (nB s.size) (fillS s)) (sumS s) ct g g2 g5 w9.heap.size w)
    (fun pre x b W => ∃ (rest : List ByteArray) (h : ByteArray), cutL (nB s.size) (fillS s) = pre ++ rest ∧ closeS (rest.foldl pressS h) = sumS s ∧ h.size = 64 ∧ W.heap[g5]? = some (.cells #[.string h] 9 (0, 0)) ∧ W.heap[g2]? = some (.cells #[.pointer (some ⟨g, 0, none⟩)] 25 (0, 0)) ∧ W.heap[g]? = some (.cells ct 67 (0, 0)) ∧ w9.heap.size ≤ W.heap.size ∧ Below w.heap.size w W ∧
      b = { tmps := #[.pointer (some ⟨g, 0, none⟩), .string s, .pointer (some ⟨g2, 0, none⟩), undef, .string ⟨#[]⟩, .pointer (some ⟨g5, 0, none⟩), .string x, undef, undef, .pointer (some ⟨g, 0, none⟩), .bool false, .bool false, .string s, .int .i64 (s.size : Int), .bool false, .bool false, .string firstS, .string s, .string (fillS s), .func (.func 63) #[] #[.pointer (some ⟨gs, 0, none⟩)], .string x, undef, undef, undef, undef, undef, undef, undef, undef, undef, undef, undef, undef, undef, undef], defers := [] })
    ?is ?ip ?ia ?ap ?h0 ?assign ?body ?done
  case is =>
    rintro s' A B ⟨rest, h, hx, ha, hh, h5, h2, hg, hz, hb⟩ hk
    exact ⟨rest, h, hx, ha, hh, (hk.block g5 (blk_lt h5) N5.out).trans h5, (hk.block g2 (blk_lt h2) N2.out).trans h2, (hk.block g (blk_lt hg) NT.out).trans hg, Nat.le_trans hz hk.size, Ks1.later hb hk GS.out (Nat.le_refl _)⟩
  case ip =>
    rintro s' W l o o' ⟨rest, h, hx, ha, hh, h5, h2, hg, hz, hb⟩ hl hW hc
    exact ⟨rest, h, hx, ha, hh, (World.putObj_heap_other (by omega)).trans h5, (World.putObj_heap_other (by omega)).trans h2, (World.putObj_heap_other (by omega)).trans hg, by simpa [World.putObj] using hz, below_putObj hb l o' (by have := below_size HB.out; omega)⟩
  case ia =>
    rintro s' W o ⟨rest, h, hx, ha, hh, h5, h2, hg, hz, hb⟩
    exact ⟨rest, h, hx, ha, hh, blk_alloc h5 _, blk_alloc h2 _, blk_alloc hg _, by rw [World.size_alloc]; omega, below_alloc hb _⟩
  case ap =>
    rintro s' x b W l o o' ⟨rest, h, hx, ha, hh, h5, h2, hg, hz, hb, he⟩ hl hW hc
    exact ⟨rest, h, hx, ha, hh, (World.putObj_heap_other (by omega)).trans h5, (World.putObj_heap_other (by omega)).trans h2, (World.putObj_heap_other (by omega)).trans hg, by simpa [World.putObj] using hz, below_putObj hb l o' (by have := below_size HB.out; omega), he⟩
  case h0 => exact ⟨_, firstS, rfl, rfl, firstS_size, B5.out, B2.out, HT.out, Nat.le_refl _, HB.out⟩
  case assign =>
    rintro l pre x W K ⟨rest, h, hx, ha, hh, h5, h2, hg, hz, hb⟩ hpx hK
    dsimp only [encS]
    gi_wp2
    exact hK _ _ (KeepsOthers.refl _) rfl ⟨rest, h, hx, ha, hh, h5, h2, hg, hz, hb, rfl⟩
  case body =>
    rintro l pre x b W ⟨rest, h, hx, ha, hh, h5, h2, hg, hz, hb, rfl⟩ ⟨s', hs⟩
    have er : rest = x :: s' := by
      have := hs.trans hx
      rw [List.append_assoc, List.append_cancel_left_eq] at this
      exact this.symm
    subst er
    have hx2 : cutL (nB s.size) (fillS s) = pre ++ [x] ++ s' := by rw [hx, List.append_assoc, List.singleton_append]
    have hx64 : x.size = 64 := cutL_size _ _ (fillS_size s) x (by rw [hx]; exact List.mem_append_right _ (List.mem_cons_self))
    have HA2 := Aside0.mk (show closeS (s'.foldl pressS (pressS h x)) = sumS s from ha)
    have B5' := Aside0.mk h5
    have B2' := Aside0.mk h2
    have BG' := Aside0.mk hg
    have HZ := Aside0.mk hz
    have HBW := Aside0.mk hb
    have HH := Aside0.mk hh
    have HX := Aside0.mk hx64
    have HX2 := Aside0.mk hx2
    clear h5 h2 hg hz hb hh hx64 hx2 ha hs hx
    have c5 := zc1 B5'
    have c2 := zc1 B2'
    gi_wp2
    refine ⟨trivial, (CallsIn.inRound l (callsIn_wide.2 (press_calls ⟨ct, BG'.out, TB.out⟩ h x HH.out HX.out))).mono ?_⟩
    rintro e w2 ⟨rfl, hb2⟩
    clear c5 c2
    have C5 := Aside0.mk (blk_below B5'.out hb2)
    have C2 := Aside0.mk (blk_below B2'.out hb2)
    have CG := Aside0.mk (blk_below BG'.out hb2)
    have HB2 := Aside0.mk hb2
    clear hb2
    have c5 := zc1 C5
    have f5 := blk_frozen C5.out 0
    gi_wp2
    refine ⟨KeepsOthers.trans ⟨HB2.out.size, fun k o hk _ => (HB2.out.block k (blk_lt hk)).trans hk⟩ (KeepsOthers.setCell _ _ _), ?_, s', pressS h x, HX2.out, HA2.out, pressS_size _ _, blk_put C5.out 0 _ rfl, blk_far C2.out N25.out _, blk_far CG.out NT5.out _, ?_, below_set (below_step HBW.out HB2.out) G5.out⟩
    · have e2 : gs < W.heap.size := by have := HZ.out; omega
      exact (Below.heap_setCell _ _ _ gs (Ne.symm N5.out)).trans (HB2.out.block gs e2)
    · have h1 := (Below.refl 0 w2).setCell (p := ⟨g5, 0, none⟩) (Nat.zero_le _) (.string (pressS h x))
      exact Nat.le_trans HZ.out (Nat.le_trans HB2.out.size h1.size)
  case done =>
    rintro D W hD ⟨rest, h, hx, ha, hh, h5, h2, hg, hz, hb⟩ hK
    have er : rest = [] := by
      have h2 := congrArg List.length hx
      rw [List.length_append] at h2
      exact List.eq_nil_of_length_eq_zero (by omega)
    subst er
    have HA2 := Aside0.mk (show closeS h = sumS s from ha)
    have B5' := Aside0.mk h5
    have B2' := Aside0.mk h2
    have BG' := Aside0.mk hg
    have HBW := Aside0.mk hb
    have HH := Aside0.mk hh
    have HK := Aside0.mk hK
    clear h5 h2 hg hb hx hh ha hK
    have c5 := zc1 B5'
    have c2 := zc1 B2'
    gi_wp2
    go_wp2_with (first
      | ((with_reducible refine gate_callee (f := 49) rfl ?_); refine goesL_ (some 31) rfl rfl Try.func49 (by kernel_rfl) rfl #[.pointer (some ⟨g, 0, none⟩), .string h] rfl (by (try simp only [List.map_toArray, List.map_cons, List.map_nil]); first | done | rfl) ?_; (with_reducible refine (str_eq3 HA2.out (close_calls (TabAt.of BG'.out TB.out) h HH.out)).mono ?_); rintro e w3 ⟨rfl, hb⟩; refine ⟨_, rfl, ?_⟩; replace HBW := Aside0.mk (below_step HBW.out hb); replace HK := Aside0.mk ((hb.block D (blk_lt HK.out)).trans HK.out); clear hb c5 c2)
      | (go_at_call 49; (with_reducible refine (str_eq3 HA2.out (close_calls (TabAt.of BG'.out TB.out) h HH.out)).mono ?_); rintro e w3 ⟨rfl, hb⟩; replace HBW := Aside0.mk (below_step HBW.out hb); replace HK := Aside0.mk ((hb.block D (blk_lt HK.out)).trans HK.out); clear hb c5 c2))
    trace_state
    refine ⟨by simp, .inl ⟨_, _, rfl, run_takeDeferred HK.out, ?_⟩⟩
    exact ⟨_, results_tmp rfl _ _ _, rfl, below_putObj HBW.out D _ (by have := below_size HB.out; omega)⟩
end Go.Proofs.Ytmibjgjgfombaaa.P
end

section
/- sponge.Sum, in the print's form. Conditions: those that each theorem names. -/
set_option linter.unusedVariables false
set_option linter.unusedSimpArgs false
set_option maxRecDepth 100000
namespace Go.Proofs.Ytmibjgjgfombaaa.P
open Go.RowKit Go.Proofs.Ytmibjgjgfombaaa.Br Go.Proofs.YtmibjgjgfombaaaX Go.Proofs.YtmibjgjgfombaaaW.PrintWords Go.Proofs.YtmibjgjgfombaaaW.PrintLast Go.Proofs.YtmibjgjgfombaaaW.PrintMore
def sponge_Sum.f (_ : Int) (s : ByteArray) : Option ByteArray := if s.size ≤ 1048576 then some (sumS s) else none
theorem sponge_Sum.calls (a0 : Int) (a1 : ByteArray) (r : ByteArray) (w : World) (gT : Nat) (hT : TabAt w gT) (h : sponge_Sum.f a0 a1 = some r) :
  Calls Try.prog 29 #[.pointer (some ⟨gT, 0, none⟩), .string a1] w fun e w' => e = .returned (.string r) ∧ Below w.heap.size w w' := by
 unfold sponge_Sum.f at h
 by_cases c : a1.size ≤ 1048576
 · rw [if_pos c] at h
   obtain rfl := Option.some.inj h
   exact sum_calls hT a1 c
 · rw [if_neg c] at h
   cases h
end Go.Proofs.Ytmibjgjgfombaaa.P
end

section
/- perm.Make, in the print's form: the handle's number is 0. Conditions: those that each theorem names. -/
set_option linter.unusedVariables false
namespace Go.Proofs.Ytmibjgjgfombaaa.P
open Go.RowKit Go.Proofs.Ytmibjgjgfombaaa.Br Go.Proofs.YtmibjgjgfombaaaX Go.Proofs.YtmibjgjgfombaaaW.PrintWords
def perm_Make.f : Option Int := some 0
theorem perm_Make.calls (r : Int) (w : World) (h : perm_Make.f = some r) : Calls Try.prog 11 #[] w fun e w' => ∃ g : Nat, e = .returned (.pointer (some ⟨g, 0, none⟩)) ∧ TabAt w' g ∧ Below w.heap.size w w' := make_tab w
end Go.Proofs.Ytmibjgjgfombaaa.P
end
