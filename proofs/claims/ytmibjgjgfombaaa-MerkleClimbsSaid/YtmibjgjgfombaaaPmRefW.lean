/- The document's ways over 64 bytes are the code's (layer 10). Conditions: those that each theorem names. -/
import Derived.Test.YtmibjgjgfombaaaPmFwd
import Derived.Test.YtmibjgjgfombaaaPx11
import Derived.Test.YtmibjgjgfombaaaPx12
import Derived.Test.YtmibjgjgfombaaaPx9
set_option linter.unusedVariables false
namespace Go.Proofs.Ytmibjgjgfombaaa.Br
open Go.RowKit Go.Proofs.YtmibjgjgfombaaaT Go.Proofs.Ytmibjgjgfombaaa.P Go.Proofs.YtmibjgjgfombaaaW.PrintWords Go.Proofs.YtmibjgjgfombaaaW.PrintLast Go.Proofs.YtmibjgjgfombaaaW.PrintMore
/-- A product of bytes. -/
def tN (q b : Nat) : Nat := enc 3 (dec 3 q * dec 3 b)
theorem tN_lt (q b : Nat) : tN q b < 256 := enc_lt 3 _
theorem tN_ml (q b : Nat) (hb : b < 256) (hq : q ∈ mixL) : tN q b = mlN q b := (mlN_eq b q hb hq).symm
theorem refTimes_all (q b : Nat) (hq : q < 256) (hb : b < 256) : Ev (fun k => steepleref10_Times.f k (q : Int) (b : Int)) (tN q b : Int) := by
  obtain ⟨x, x0, x1⟩ := byte_el q hq
  obtain ⟨y, y0, y1⟩ := byte_el b hb
  have of_byte : ∀ (z : T 7) (n : Nat), hiW z = 0 → loW z = (n : Int) → enc 7 z = n := by
    intro z n z0 z1
    have e1 : enc 6 z.1 = 0 := Int.ofNat.inj z0
    have e2 : enc 6 z.2 = n := Int.ofNat.inj z1
    rw [enc7, e1, e2, Nat.zero_mul, Nat.zero_add]
  have emb_byte : ∀ (z : T 7) (n : Nat), enc 7 z = n → n < 256 → z = emb 7 3 (dec 3 n) := by
    intro z n hz hn
    refine enc_inj ?_
    rw [enc_emb (by decide), byte_enc hn, hz]
  have ex := emb_byte x q (of_byte x q x0 x1) hq
  have ey := emb_byte y b (of_byte y b y0 y1) hb
  have e7 : enc 7 (x * y) = tN q b := by rw [ex, ey, ← emb_mul (by decide), enc_emb (by decide)]; rfl
  have h2 : loW (x * y) = (tN q b : Int) := by
    have h := enc_lo (x * y)
    rw [e7, Nat.mod_eq_of_lt (Nat.lt_of_lt_of_le (tN_lt q b) (by decide))] at h
    show ((enc 6 (x * y).2 : Nat) : Int) = _
    rw [← h]
  have hp := Product_ev x y
  rw [x0, x1, y0, y1] at hp
  unfold steepleref10_Times.f
  rw [wrap_u64 q (by omega), wrap_u64 b (by omega)]
  refine Ev.bind hp ?_
  have e2 : wrap64 (loW (x * y)) = (tN q b : Int) := by
    rw [h2]
    have := tN_lt q b
    unfold wrap64
    omega
  show Ev (fun k => some (wrap64 (loW (x * y)))) _
  rw [e2]
  exact Ev.now _
theorem map_snoc (F : Nat → Int) (n : Nat) : (List.range n).map F ++ [F n] = (List.range (n + 1)).map F := by rw [List.range_succ, List.map_append]; rfl
theorem wrap_s1 {n : Nat} (h : n < 1000) : wrap64 ((n : Int) + 1) = ((n + 1 : Nat) : Int) := by unfold wrap64; omega
def bl : List Int := (List.range 256).map fun b => (bxN b : Int)
def tRow (q : Nat) : List Int := (List.range 256).map fun b => (tN q b : Int)
def tl : List (List Int) := (List.range 8).map tRow
theorem make_l2 (q : Nat) (hq : q < 8) (B : List Int) (C : List (List Int)) (hC : C.length < 1000) (R : List Int × List (List Int)) (h : Ev (fun k => steepleref10_Make.l1 k ((q + 1 : Nat) : Int) B (C ++ [tRow q])) R) : ∀ m n : Nat, n + m = 256 → Ev (fun k => steepleref10_Make.l2 k (q : Int) ((List.range n).map fun b => (tN q b : Int)) (n : Int) B C) R
  | 0, n, e => by
    obtain rfl : n = 256 := by omega
    refine Ev.succ ?_
    unfold steepleref10_Make.l2
    refine Ev.neg (by omega) (Ev.pos (by omega) ?_)
    rw [wrap_s1 (by omega)]
    exact h
  | m + 1, n, e => by
    refine Ev.succ ?_
    unfold steepleref10_Make.l2
    refine Ev.pos (by omega) (Ev.bind (refTimes_all q n (by omega) (by omega)) (Ev.pos (by rw [List.length_map, List.length_range]; omega) ?_))
    rw [wrap_s1 (by omega), map_snoc (fun b => (tN q b : Int)) n]
    exact make_l2 q hq B C hC R h m (n + 1) (by omega)
theorem tl_snoc (n : Nat) : (List.range n).map tRow ++ [tRow n] = (List.range (n + 1)).map tRow := by rw [List.range_succ, List.map_append]; rfl
theorem make_l1 (B : List Int) : ∀ m n : Nat, n + m = 8 → Ev (fun k => steepleref10_Make.l1 k (n : Int) B ((List.range n).map tRow)) (B, tl)
  | 0, n, e => by
    obtain rfl : n = 8 := by omega
    refine Ev.succ ?_
    unfold steepleref10_Make.l1
    exact Ev.neg (by omega) (Ev.now _)
  | m + 1, n, e => by
    refine Ev.succ ?_
    unfold steepleref10_Make.l1
    refine Ev.pos (by omega) ?_
    refine make_l2 n (by omega) B _ (by rw [List.length_map, List.length_range]; omega) _ ?_ 256 0 rfl
    rw [tl_snoc]
    exact make_l1 B m (n + 1) (by omega)
theorem make_l0 : ∀ m n : Nat, n + m = 256 → Ev (fun k => steepleref10_Make.l0 k (n : Int) ((List.range n).map fun b => (bxN b : Int))) (bl, tl)
  | 0, n, e => by
    obtain rfl : n = 256 := by omega
    refine Ev.succ ?_
    unfold steepleref10_Make.l0
    exact Ev.neg (by omega) (make_l1 bl 8 0 rfl)
  | m + 1, n, e => by
    refine Ev.succ ?_
    unfold steepleref10_Make.l0
    refine Ev.pos (by omega) (Ev.bind (refBox_ev n (by omega)) (Ev.pos (by rw [List.length_map, List.length_range]; omega) ?_))
    rw [wrap_s1 (by omega), map_snoc (fun b => (bxN b : Int)) n]
    exact make_l0 m (n + 1) (by omega)
theorem Make_ev : Ev (fun k => steepleref10_Make.f k) (bl, tl) := make_l0 256 0 rfl
/-! A round. -/
theorem rd_range (F : Nat → Int) {n i : Nat} (h : i < n) : rd ((List.range n).map F) (i : Int) = F i := by
  unfold rd
  rw [Int.toNat_natCast, List.getD_eq_getElem?_getD, List.getElem?_map, List.getElem?_range h]
  rfl
theorem rdL_range {n i : Nat} (h : i < n) : rd_L5 ((List.range n).map tRow) (i : Int) = tRow i := by
  unfold rd_L5
  rw [Int.toNat_natCast, List.getD_eq_getElem?_getD, List.getElem?_map, List.getElem?_range h]
  rfl
theorem i64_xor (a b : Nat) (ha : a < 256) (hb : b < 256) : Go.bits .xor .i64 (a : Int) (b : Int) = ((a ^^^ b : Nat) : Int) := by
  have h : a ^^^ b < 256 := xor_lt ha hb
  have e1 : (BitVec.ofInt 64 (a : Int)).toNat = a := by rw [BitVec.toNat_ofInt]; omega
  have e2 : (BitVec.ofInt 64 (b : Int)).toNat = b := by rw [BitVec.toNat_ofInt]; omega
  show IntKind.i64.wrap (((BitVec.ofInt 64 (a : Int)) ^^^ (BitVec.ofInt 64 (b : Int))).toNat : Int) = _
  rw [BitVec.toNat_xor, e1, e2, i64_w]
  unfold wrap64
  omega
theorem tmod8 (n : Nat) : Int.tmod (n : Int) 8 = ((n % 8 : Nat) : Int) := by rw [Int.tmod_eq_emod_of_nonneg (by omega)]; omega
theorem tdiv8 (n : Nat) : Int.tdiv (n : Int) 8 = ((n / 8 : Nat) : Int) := by rw [Int.tdiv_eq_ediv_of_nonneg (by omega)]; omega
/-- A state as the document has it. -/
def sL (f : Nat → Nat) : List Int := (List.range 64).map fun n => (f n : Int)
theorem sL_len (f : Nat → Nat) : (sL f).length = 64 := by unfold sL; rw [List.length_map, List.length_range]
theorem bl_len : bl.length = 256 := by unfold bl; rw [List.length_map, List.length_range]
theorem tl_len : tl.length = 8 := by unfold tl; rw [List.length_map, List.length_range]
theorem tRow_len (q : Nat) : (tRow q).length = 256 := by unfold tRow; rw [List.length_map, List.length_range]
def aL (q : Bool) (r : Nat) (f : Nat → Nat) (n : Nat) : List Int := (List.range n).map fun m => (bxN (addF q r f m) : Int)
theorem num_r {n r : Nat} (hn : n < 64) (hr : r < 6) : Int.tmod (wrap64 ((wrap64 (16 * (wrap64 (Int.tdiv (n : Int) 8)))) + (r : Int))) 256 = (((16 * (n / 8) + r) % 256 : Nat) : Int) := by
  rw [tdiv8]
  have e1 : wrap64 ((n / 8 : Nat) : Int) = ((n / 8 : Nat) : Int) := by unfold wrap64; omega
  have e2 : wrap64 (16 * ((n / 8 : Nat) : Int)) = ((16 * (n / 8) : Nat) : Int) := by unfold wrap64; omega
  have e3 : wrap64 (((16 * (n / 8) : Nat) : Int) + (r : Int)) = ((16 * (n / 8) + r : Nat) : Int) := by unfold wrap64; omega
  rw [e1, e2, e3, Int.tmod_eq_emod_of_nonneg (by omega)]
  omega
theorem round_l0 (f : Nat → Nat) (hf : Byt f) (q : Bool) {r : Nat} (hr : r < 6) (x9 x10 R : List Int) (h : Ev (fun k => steepleref10_round.l1 k x9 x10 (aL q r f 64) [] 0 bl tl) R) : ∀ m n : Nat, n + m = 64 → Ev (fun k => steepleref10_round.l0 k (sL f) q (r : Int) x9 x10 (aL q r f n) (n : Int) bl tl) R
  | 0, n, e => by
    obtain rfl : n = 64 := by omega
    refine Ev.succ ?_
    unfold steepleref10_round.l0
    exact Ev.neg (by omega) h
  | m + 1, n, e => by
    have hn : n < 64 := by omega
    have hb := hf n hn
    have hx := addF_byt q r hf n hn
    have hc : (16 * (n / 8) + r) % 256 < 256 := Nat.mod_lt _ (by decide)
    have hl : (aL q r f n).length < 17592186044416 := by unfold aL; rw [List.length_map, List.length_range]; omega
    have hnext : ∀ v : Int, v = (addF q r f n : Int) → aL q r f n ++ [rd bl v] = aL q r f (n + 1) := fun v hv => by
      rw [hv, show rd bl (addF q r f n : Int) = (bxN (addF q r f n) : Int) from rd_range (fun b => (bxN b : Int)) hx]
      exact map_snoc (fun m => (bxN (addF q r f m) : Int)) n
    have hgo : ∀ v : Int, v = (addF q r f n : Int) → Ev (fun k => if 0 ≤ v then (if v < (bl.length : Int) then (if (aL q r f n).length < 17592186044416 then (steepleref10_round.l0 k (sL f) q (r : Int) x9 x10 (aL q r f n ++ [rd bl v]) (wrap64 ((n : Int) + 1)) bl tl) else none) else none) else none) R := by
      intro v hv
      refine Ev.pos (by omega) (Ev.pos (by rw [bl_len, hv]; omega) (Ev.pos hl ?_))
      rw [wrap_s1 (by omega), hnext v hv]
      exact round_l0 f hf q hr x9 x10 R h m (n + 1) (by omega)
    have hrd : rd (sL f) (n : Int) = (f n : Int) := rd_range (fun n => (f n : Int)) hn
    refine Ev.succ ?_
    unfold steepleref10_round.l0
    refine Ev.pos (by omega) (Ev.pos (by omega) (Ev.pos (by rw [sL_len]; omega) ?_))
    rw [hrd, num_r hn hr, tmod8]
    cases q
    · refine Ev.neg (by decide) ?_
      by_cases c : n % 8 = 0
      · refine Ev.pos (by omega) (hgo _ ?_)
        rw [i64_xor _ _ hb hc]
        unfold addF
        rw [if_pos (show n % 8 = rowF false from c)]
        rfl
      · refine Ev.neg (by omega) (hgo _ ?_)
        unfold addF
        rw [if_neg (show ¬ n % 8 = rowF false from c)]
        rfl
    · refine Ev.pos rfl ?_
      have h255 : Go.bits .xor .i64 (f n : Int) 255 = ((f n ^^^ 255 : Nat) : Int) := i64_xor (f n) 255 hb (by decide)
      rw [h255]
      by_cases c : n % 8 = 7
      · refine Ev.pos (by omega) (hgo _ ?_)
        rw [i64_xor _ _ (xor_lt hb (by decide)) hc]
        unfold addF
        rw [if_pos (show n % 8 = rowF true from c)]
        rfl
      · refine Ev.neg (by omega) (hgo _ ?_)
        unfold addF
        rw [if_neg (show ¬ n % 8 = rowF true from c)]
        rfl
def tuL (q : Bool) : List Int := if q then [1, 3, 5, 7, 0, 2, 4, 6] else [0, 1, 2, 3, 4, 5, 6, 7]
theorem tuL_rd (q : Bool) : ∀ i : Nat, i < 8 → rd (tuL q) (i : Int) = (tOf q i : Int) := by cases q <;> decide
theorem tuL_len (q : Bool) : (tuL q).length = 8 := by cases q <;> rfl
def mxL : List Int := [2, 2, 3, 4, 5, 3, 5, 7]
theorem mxL_rd : ∀ i : Nat, i < 8 → rd mxL (i : Int) = (mixL.getD i 0 : Int) := by decide
/-- What stands ahead of mixing. -/
def preF (q : Bool) (r : Nat) (f : Nat → Nat) : Nat → Nat := fun n => bxN (addF q r f n)
theorem preF_byt {f : Nat → Nat} (q : Bool) (r : Nat) (hf : Byt f) : Byt (preF q r f) := bx_byt (addF_byt q r hf)
theorem idx_e (n k t : Nat) (hn : n < 64) (hk : k < 8) (ht : t < 8) : wrap64 ((wrap64 (8 * (Int.tmod (wrap64 ((wrap64 ((n / 8 : Nat) : Int)) + (t : Int))) 8))) + (((n % 8 + k) % 8 : Nat) : Int)) = ((8 * ((n / 8 + t) % 8) + (n % 8 + k) % 8 : Nat) : Int) := by
  have e1 : wrap64 ((n / 8 : Nat) : Int) = ((n / 8 : Nat) : Int) := by unfold wrap64; omega
  have e2 : wrap64 (((n / 8 : Nat) : Int) + (t : Int)) = ((n / 8 + t : Nat) : Int) := by unfold wrap64; omega
  rw [e1, e2, tmod8]
  have e3 : wrap64 (8 * (((n / 8 + t) % 8 : Nat) : Int)) = ((8 * ((n / 8 + t) % 8) : Nat) : Int) := by unfold wrap64; omega
  rw [e3]
  unfold wrap64
  omega
theorem round_l2 (q : Bool) (r : Nat) (f : Nat → Nat) (hf : Byt f) (x14 R : List Int) {n : Nat} (hn : n < 64) (h14 : x14.length < 1000)
    (h : Ev (fun k => steepleref10_round.l1 k (tuL q) mxL (aL q r f 64) (x14 ++ [(mixF mlN (turnF q false (preF q r f)) n : Int)]) ((n + 1 : Nat) : Int) bl tl) R) :
    ∀ m j : Nat, j + m = 8 → Ev (fun k => steepleref10_round.l2 k (tuL q) mxL (aL q r f 64) x14 (n : Int) (mixP mlN (turnF q false (preF q r f)) n j : Int) (j : Int) bl tl) R
  | 0, j, e => by
    obtain rfl : j = 8 := by omega
    refine Ev.succ ?_
    unfold steepleref10_round.l2
    refine Ev.neg (by omega) (Ev.pos (by omega) ?_)
    rw [wrap_s1 (by omega)]
    exact h
  | m + 1, j, e => by
    have hj : j < 8 := by omega
    have hp := preF_byt q r hf
    have ht := tOf_lt q ((n % 8 + j) % 8)
    have hmj : mixL.getD j 0 ∈ mixL := by rw [mixL_getD hj]; exact List.getElem_mem hj
    have hm7 := mixL_le hmj
    have e0 : wrap64 (((n % 8 : Nat) : Int) + (j : Int)) = ((n % 8 + j : Nat) : Int) := by unfold wrap64; omega
    have hi : 8 * ((n / 8 + tOf q ((n % 8 + j) % 8)) % 8) + (n % 8 + j) % 8 < 64 := by omega
    have hrd : rd (aL q r f 64) ((8 * ((n / 8 + tOf q ((n % 8 + j) % 8)) % 8) + (n % 8 + j) % 8 : Nat) : Int) = (preF q r f (8 * ((n / 8 + tOf q ((n % 8 + j) % 8)) % 8) + (n % 8 + j) % 8) : Int) := rd_range (fun m => (bxN (addF q r f m) : Int)) hi
    have hv := hp _ hi
    have hal : (aL q r f 64).length = 64 := by unfold aL; rw [List.length_map, List.length_range]
    refine Ev.succ ?_
    unfold steepleref10_round.l2
    rw [tmod8, e0, tmod8, tdiv8, tuL_rd q ((n % 8 + j) % 8) (Nat.mod_lt _ (by omega)), mxL_rd j hj, idx_e n j _ hn hj ht, hrd, show rd_L5 tl ((mixL.getD j 0 : Nat) : Int) = tRow (mixL.getD j 0) from rdL_range (by omega), tRow_len]
    refine Ev.pos (by omega) (Ev.pos (by omega) (Ev.pos (by rw [tuL_len]; omega) (Ev.pos (by omega) (Ev.pos (by show (j : Int) < ((8 : Nat) : Int); omega) (Ev.pos (by omega) (Ev.pos (by rw [tl_len]; omega) (Ev.pos (by omega) (Ev.pos (by rw [hal]; omega) (Ev.pos (by omega) (Ev.pos (by omega) ?_))))))))))
    have hT : rd (tRow (mixL.getD j 0)) ((preF q r f (8 * ((n / 8 + tOf q ((n % 8 + j) % 8)) % 8) + (n % 8 + j) % 8) : Nat) : Int) = (mlN (mixL.getD j 0) (preF q r f (8 * ((n / 8 + tOf q ((n % 8 + j) % 8)) % 8) + (n % 8 + j) % 8)) : Int) := by
      rw [show rd (tRow (mixL.getD j 0)) ((preF q r f (8 * ((n / 8 + tOf q ((n % 8 + j) % 8)) % 8) + (n % 8 + j) % 8) : Nat) : Int) = (tN (mixL.getD j 0) (preF q r f (8 * ((n / 8 + tOf q ((n % 8 + j) % 8)) % 8) + (n % 8 + j) % 8)) : Int) from rd_range (fun b => (tN (mixL.getD j 0) b : Int)) hv, tN_ml _ _ hv hmj]
    rw [hT, i64_xor _ _ (mixP_lt mlN_lt (turnF_byt q false hp) hn (by omega)) (mlN_lt _ _ hv hmj), wrap_s1 (by omega)]
    have eP : mixP mlN (turnF q false (preF q r f)) n j ^^^ mlN (mixL.getD j 0) (preF q r f (8 * ((n / 8 + tOf q ((n % 8 + j) % 8)) % 8) + (n % 8 + j) % 8)) = mixP mlN (turnF q false (preF q r f)) n (j + 1) := by
      show _ = mixP mlN (turnF q false (preF q r f)) n j ^^^ mlN (mixL.getD j 0) (turnF q false (preF q r f) (8 * (n / 8) + (n % 8 + j) % 8))
      unfold turnF
      simp only [Bool.false_eq_true, if_false]
      rw [show (8 * (n / 8) + (n % 8 + j) % 8) % 8 = (n % 8 + j) % 8 by omega, show (8 * (n / 8) + (n % 8 + j) % 8) / 8 = n / 8 by omega]
    rw [eP]
    exact round_l2 q r f hf x14 R hn h14 h m (j + 1) (by omega)
def oL (q : Bool) (r : Nat) (f : Nat → Nat) (n : Nat) : List Int := (List.range n).map fun m => (rF q r f m : Int)
theorem round_l1 (q : Bool) (r : Nat) (f : Nat → Nat) (hf : Byt f) : ∀ m n : Nat, n + m = 64 → Ev (fun k => steepleref10_round.l1 k (tuL q) mxL (aL q r f 64) (oL q r f n) (n : Int) bl tl) (sL (rF q r f))
  | 0, n, e => by
    obtain rfl : n = 64 := by omega
    refine Ev.succ ?_
    unfold steepleref10_round.l1
    exact Ev.neg (by omega) (Ev.now _)
  | m + 1, n, e => by
    refine Ev.succ ?_
    unfold steepleref10_round.l1
    refine Ev.pos (by omega) ?_
    refine round_l2 q r f hf _ _ (by omega) (by unfold oL; rw [List.length_map, List.length_range]; omega) ?_ 8 0 rfl
    rw [show oL q r f n ++ [(mixF mlN (turnF q false (preF q r f)) n : Int)] = oL q r f (n + 1) from map_snoc (fun m => (rF q r f m : Int)) n]
    exact round_l1 q r f hf m (n + 1) (by omega)
theorem round_ev (q : Bool) {r : Nat} (hr : r < 6) (f : Nat → Nat) (hf : Byt f) : Ev (fun k => steepleref10_round.f k bl tl (sL f) q (r : Int)) (sL (rF q r f)) := by
  have h : Ev (fun k => steepleref10_round.l0 k (sL f) q (r : Int) (tuL q) mxL [] 0 bl tl) (sL (rF q r f)) := round_l0 f hf q hr (tuL q) mxL _ (round_l1 q r f hf 64 0 rfl) 64 0 rfl
  unfold steepleref10_round.f
  refine Ev.bind (Ev.now _) ?_
  cases q
  · refine Ev.neg (by decide) (Ev.succ ?_)
    unfold steepleref10_round.j0
    exact h
  · refine Ev.pos rfl (Ev.succ ?_)
    unfold steepleref10_round.j0
    exact h
theorem bt_bF (s : ByteArray) {n : Nat} (h : n < s.size) : bt s (n : Int) = (bF s n : Int) := by
  unfold bt bF
  rw [Int.toNat_natCast, dif_pos h, List.getD_eq_getElem?_getD, List.getElem?_eq_getElem (by rw [Array.length_toList]; exact h)]
  rfl
theorem way_l2 (f : Nat → Nat) (hf : Byt f) : ∀ m n : Nat, n + m = 64 → Ev (fun k => steepleref10_Way.l2 k (sL f) ((List.range n).map fun m => (f m : Int)) (n : Int)) (strF f)
  | 0, n, e => by
    obtain rfl : n = 64 := by omega
    refine Ev.succ ?_
    unfold steepleref10_Way.l2
    exact Ev.neg (by omega) (Ev.now _)
  | m + 1, n, e => by
    have hn : n < 64 := by omega
    have hb := hf n hn
    refine Ev.succ ?_
    unfold steepleref10_Way.l2
    refine Ev.pos (by omega) (Ev.pos (by omega) (Ev.pos (by rw [sL_len]; omega) (Ev.pos (by rw [List.length_map, List.length_range]; omega) ?_)))
    rw [show rd (sL f) (n : Int) = (f n : Int) from rd_range (fun n => (f n : Int)) hn, Int.emod_eq_of_lt (by omega) (by omega), wrap_s1 (by omega), map_snoc (fun m => (f m : Int)) n]
    exact way_l2 f hf m (n + 1) (by omega)
theorem way_l1 (q : Bool) (f : Nat → Nat) (hf : Byt f) : Ev (fun k => steepleref10_Way.l1 k q (sL f) 0 bl tl) (strF (wayF bxN mlN q f)) := by
  have b1 := rF_byt q 0 hf
  have b2 := rF_byt q 1 b1
  have b3 := rF_byt q 2 b2
  have b4 := rF_byt q 3 b3
  have b5 := rF_byt q 4 b4
  have b6 := rF_byt q 5 b5
  have st : ∀ (r : Nat) (g : Nat → Nat) (R : ByteArray), r < 6 → Byt g → Ev (fun k => steepleref10_Way.l1 k q (sL (rF q r g)) ((r + 1 : Nat) : Int) bl tl) R → Ev (fun k => steepleref10_Way.l1 k q (sL g) (r : Int) bl tl) R := by
    intro r g R hr hg h
    refine Ev.succ ?_
    unfold steepleref10_Way.l1
    refine Ev.pos (by omega) (Ev.bind (round_ev q hr g hg) ?_)
    rw [wrap_s1 (by omega)]
    exact h
  refine st 0 _ _ (by decide) hf (st 1 _ _ (by decide) b1 (st 2 _ _ (by decide) b2 (st 3 _ _ (by decide) b3 (st 4 _ _ (by decide) b4 (st 5 _ _ (by decide) b5 ?_)))))
  refine Ev.succ ?_
  unfold steepleref10_Way.l1
  exact Ev.neg (by omega) (way_l2 _ b6 64 0 rfl)
theorem way_l0 (s : ByteArray) (hs : s.size = 64) (q : Bool) : ∀ m n : Nat, n + m = 64 → Ev (fun k => steepleref10_Way.l0 k s q ((List.range n).map fun m => (bF s m : Int)) (n : Int) bl tl) (strF (wayF bxN mlN q (bF s)))
  | 0, n, e => by
    obtain rfl : n = 64 := by omega
    refine Ev.succ ?_
    unfold steepleref10_Way.l0
    exact Ev.neg (by omega) (way_l1 q (bF s) (fun n _ => bF_lt s n))
  | m + 1, n, e => by
    have hn : n < 64 := by omega
    have hb := bF_lt s n
    refine Ev.succ ?_
    unfold steepleref10_Way.l0
    refine Ev.pos (by omega) (Ev.pos (by omega) (Ev.pos (by rw [hs]; omega) (Ev.pos (by rw [List.length_map, List.length_range]; omega) ?_)))
    rw [bt_bF s (by omega), show wrap64 (bF s n : Int) = (bF s n : Int) by unfold wrap64; omega, wrap_s1 (by omega), map_snoc (fun m => (bF s m : Int)) n]
    exact way_l0 s hs q m (n + 1) (by omega)
theorem Way_ev (s : ByteArray) (hs : s.size = 64) (q : Bool) : Ev (fun k => steepleref10_Way.f k bl tl s q) (strF (wayF bxN mlN q (bF s))) := way_l0 s hs q 64 0 rfl
end Go.Proofs.Ytmibjgjgfombaaa.Br
