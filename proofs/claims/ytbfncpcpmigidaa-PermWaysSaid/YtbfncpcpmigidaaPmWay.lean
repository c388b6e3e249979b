/- Both ways over 64 bytes lead back and forth (layer 10), in plain Lean. Conditions: those that each theorem names. -/
import Derived.Test.YtbfncpcpmigidaaPmAlg
import Derived.Test.YtbfncpcpmigidaaPmMul
import Derived.Test.YtbfncpcpmigidaaHWalkB
set_option linter.unusedVariables false
namespace Go.Proofs.Ytbfncpcpmigidaa.Br
open Go.RowKit Go.Proofs.YtbfncpcpmigidaaT Go.Proofs.Ytbfncpcpmigidaa.P Go.Proofs.YtbfncpcpmigidaaW.PrintWords Go.Proofs.YtbfncpcpmigidaaW.PrintLast Go.Proofs.YtbfncpcpmigidaaW.PrintMore
/-- By what columns are mixed. -/
def cM (j : Nat) : T 3 := dec 3 (mixL.getD j 0)
theorem mixP_dec (f : Nat → Nat) (hf : ∀ n, n < 64 → f n < 256) {n : Nat} (hn : n < 64) : ∀ k, k ≤ 8 → dec 3 (mixP mlN f n k) = sumT k fun j => cM j * dec 3 (f (8 * (n / 8) + (n % 8 + 1 * j) % 8))
  | 0, _ => dec_zero 3
  | k + 1, hk => by
    have hm : mixL.getD k 0 ∈ mixL := by
      rw [mixL_getD hk]
      exact List.getElem_mem hk
    show dec 3 (mixP mlN f n k ^^^ mlN (mixL.getD k 0) (f (8 * (n / 8) + (n % 8 + k) % 8))) = _
    rw [dec_xor, mixP_dec f hf hn k (by omega), mlN_dec _ _ (hf _ (by omega)) hm]
    show _ = sumT k (fun j => cM j * dec 3 (f (8 * (n / 8) + (n % 8 + 1 * j) % 8))) + cM k * dec 3 (f (8 * (n / 8) + (n % 8 + 1 * k) % 8))
    rw [Nat.one_mul k]
    rfl
theorem mixF_dec (f : Nat → Nat) (hf : ∀ n, n < 64 → f n < 256) {n : Nat} (hn : n < 64) : dec 3 (mixF mlN f n) = Mx cM 1 (fun m => dec 3 (f m)) n := mixP_dec f hf hn 8 (Nat.le_refl _)
/-- Bytes. -/
def Byt (f : Nat → Nat) : Prop := ∀ n, n < 64 → f n < 256
def Eq64 (f g : Nat → Nat) : Prop := ∀ n, n < 64 → f n = g n
theorem Eq64.refl (f : Nat → Nat) : Eq64 f f := fun _ _ => rfl
theorem Eq64.trans {f g h : Nat → Nat} (a : Eq64 f g) (b : Eq64 g h) : Eq64 f h := fun n hn => (a n hn).trans (b n hn)
theorem Eq64.symm {f g : Nat → Nat} (a : Eq64 f g) : Eq64 g f := fun n hn => (a n hn).symm
theorem mixF_byt {f : Nat → Nat} (hf : Byt f) : Byt (mixF mlN f) := fun n hn => mixP_lt mlN_lt hf hn (Nat.le_refl _)
theorem mixP_congr {f g : Nat → Nat} (h : Eq64 f g) {n : Nat} (hn : n < 64) : ∀ k, mixP mlN f n k = mixP mlN g n k
  | 0 => rfl
  | k + 1 => by
    show mixP mlN f n k ^^^ mlN _ (f _) = mixP mlN g n k ^^^ mlN _ (g _)
    rw [mixP_congr h hn k, h _ (by omega)]
theorem mixF_congr {f g : Nat → Nat} (h : Eq64 f g) : Eq64 (mixF mlN f) (mixF mlN g) := fun n hn => mixP_congr h hn 8
theorem mixN_byt {f : Nat → Nat} (hf : Byt f) : ∀ k, Byt (mixN mlN f k)
  | 0 => hf
  | k + 1 => mixF_byt (mixN_byt hf k)
theorem mixN_shift (f : Nat → Nat) : ∀ k, mixN mlN (mixF mlN f) k = mixN mlN f (k + 1)
  | 0 => rfl
  | k + 1 => congrArg (mixF mlN) (mixN_shift f k)
theorem mix_step {f : Nat → Nat} (hf : Byt f) {V : Nat → T 3} (h : ∀ n, n < 64 → dec 3 (f n) = V n) : ∀ n, n < 64 → dec 3 (mixF mlN f n) = Mx cM 1 V n := fun n hn => (mixF_dec f hf hn).trans (Mx_congr h hn)
theorem mixN_8 {f : Nat → Nat} (hf : Byt f) {n : Nat} (hn : n < 64) : dec 3 (mixN mlN f 8 n) = frob 3 (sumT 8 cM) * dec 3 (f n) := by
  have h0 : ∀ n, n < 64 → dec 3 (f n) = (fun m => dec 3 (f m)) n := fun _ _ => rfl
  have h8 := mix_step (mixN_byt hf 7) (mix_step (mixN_byt hf 6) (mix_step (mixN_byt hf 5) (mix_step (mixN_byt hf 4) (mix_step (mixN_byt hf 3) (mix_step (mixN_byt hf 2) (mix_step (mixN_byt hf 1) (mix_step (f := f) hf h0)))))))
  exact (h8 n hn).trans (Mx_eight cM (fun m => dec 3 (f m)) hn)
theorem three_mix : 3 ∈ mixL := by decide
theorem three_inv : dec 3 3 * frob 3 (sumT 8 cM) = 1 := by decide +kernel
/-- Times 3. -/
def iv3 (b : Nat) : Nat := mlN 3 b
theorem unmix_mix {f : Nat → Nat} (hf : Byt f) : Eq64 (fun n => iv3 (mixN mlN (mixF mlN f) 7 n)) f := fun n hn => by
  show mlN 3 (mixN mlN (mixF mlN f) 7 n) = f n
  rw [mixN_shift f 7]
  have hb := mixN_byt hf 8 n hn
  refine dec_inj (mlN_lt _ _ hb three_mix) (hf n hn) ?_
  rw [mlN_dec _ _ hb three_mix, mixN_8 hf hn, ← mul_assoc, three_inv, one_mul]
theorem mix_unmix {f : Nat → Nat} (hf : Byt f) : Eq64 (mixF mlN (fun n => iv3 (mixN mlN f 7 n))) f := fun n hn => by
  have hb7 := mixN_byt hf 7
  have hb : Byt (fun n => iv3 (mixN mlN f 7 n)) := fun m hm => mlN_lt _ _ (hb7 m hm) three_mix
  refine dec_inj (mixF_byt hb n hn) (hf n hn) ?_
  rw [mix_step hb (V := fun m => dec 3 3 * dec 3 (mixN mlN f 7 m)) (fun m hm => mlN_dec _ _ (hb7 m hm) three_mix) n hn, Mx_mul, ← mixF_dec _ hb7 hn]
  show dec 3 3 * dec 3 (mixN mlN f 8 n) = _
  rw [mixN_8 hf hn, ← mul_assoc, three_inv, one_mul]
/-! Turning. -/
theorem turnF_byt {f : Nat → Nat} (q back : Bool) (hf : Byt f) : Byt (turnF q back f) := fun n hn => by
  have := tOf_lt q (n % 8)
  cases back
  · exact hf _ (by simp only [Bool.false_eq_true, if_false]; omega)
  · exact hf _ (by simp only [if_true]; omega)
theorem turnF_congr {f g : Nat → Nat} (q back : Bool) (h : Eq64 f g) : Eq64 (turnF q back f) (turnF q back g) := fun n hn => by
  have := tOf_lt q (n % 8)
  cases back
  · exact h _ (by simp only [Bool.false_eq_true, if_false]; omega)
  · exact h _ (by simp only [if_true]; omega)
theorem turn_back (q : Bool) (f : Nat → Nat) : Eq64 (turnF q true (turnF q false f)) f := fun n hn => by
  have ht := tOf_lt q (n % 8)
  unfold turnF
  simp only [if_true, Bool.false_eq_true, if_false]
  rw [show (8 * ((n / 8 + 8 - tOf q (n % 8)) % 8) + n % 8) % 8 = n % 8 by omega]
  congr 1
  omega
theorem back_turn (q : Bool) (f : Nat → Nat) : Eq64 (turnF q false (turnF q true f)) f := fun n hn => by
  have ht := tOf_lt q (n % 8)
  unfold turnF
  simp only [if_true, Bool.false_eq_true, if_false]
  rw [show (8 * ((n / 8 + tOf q (n % 8)) % 8) + n % 8) % 8 = n % 8 by omega]
  congr 1
  omega
/-! Adding. -/
theorem addF_byt {f : Nat → Nat} (q : Bool) (r : Nat) (hf : Byt f) : Byt (addF q r f) := fun n hn => by
  have h1 := hf n hn
  have h2 : (if q then f n ^^^ 255 else f n) < 256 := by
    cases q
    · exact h1
    · exact xor_lt h1 (by decide)
  unfold addF
  by_cases c : n % 8 = rowF q
  · rw [if_pos c]
    exact xor_lt h2 (Nat.mod_lt _ (by decide))
  · rw [if_neg c]
    exact h2
theorem addF_congr {f g : Nat → Nat} (q : Bool) (r : Nat) (h : Eq64 f g) : Eq64 (addF q r f) (addF q r g) := fun n hn => by
  unfold addF
  rw [h n hn]
theorem add_add (q : Bool) (r : Nat) (f : Nat → Nat) : Eq64 (addF q r (addF q r f)) f := fun n hn => by
  have x3 : ∀ a b : Nat, a ^^^ b ^^^ b = a := fun a b => by rw [Nat.xor_assoc, Nat.xor_self, Nat.xor_zero]
  unfold addF
  by_cases c : n % 8 = rowF q
  · simp only [if_pos c]
    cases q
    · simp only [Bool.false_eq_true, if_false]
      rw [x3]
    · simp only [if_true]
      generalize (16 * (n / 8) + r) % 256 = z
      rw [Nat.xor_assoc (f n ^^^ 255) z 255, Nat.xor_comm z 255, ← Nat.xor_assoc, x3, x3]
  · simp only [if_neg c]
    cases q
    · rfl
    · exact x3 _ _
/-! Boxes. -/
def ubN (b : Nat) : Nat := unboxL.getD b 0
theorem ub_bx (b : Nat) (hb : b < 256) : ubN (bxN b) = b := by
  have := all_at unbox_all hb
  rw [Bool.and_eq_true, beq_iff_eq] at this
  exact this.1
theorem bx_ub_all : (List.range 256).all (fun b : Nat => bxN (ubN b) == b && decide (ubN b < 256)) = true := by decide +kernel
theorem bx_ub (b : Nat) (hb : b < 256) : bxN (ubN b) = b := by
  have := all_at bx_ub_all hb
  rw [Bool.and_eq_true, beq_iff_eq] at this
  exact this.1
theorem ubN_lt (b : Nat) (hb : b < 256) : ubN b < 256 := by
  have := all_at bx_ub_all hb
  rw [Bool.and_eq_true, decide_eq_true_eq] at this
  exact this.2
/-! Rounds. -/
def rF (q : Bool) (r : Nat) (f : Nat → Nat) : Nat → Nat := roundF bxN mlN q r f
def rB (q : Bool) (r : Nat) (f : Nat → Nat) : Nat → Nat := roundB iv3 ubN mlN q r f
theorem bx_byt {f : Nat → Nat} (hf : Byt f) : Byt (fun n => bxN (f n)) := fun n hn => bxN_lt _ (hf n hn)
theorem ub_byt {f : Nat → Nat} (hf : Byt f) : Byt (fun n => ubN (f n)) := fun n hn => ubN_lt _ (hf n hn)
theorem rF_byt {f : Nat → Nat} (q : Bool) (r : Nat) (hf : Byt f) : Byt (rF q r f) := mixF_byt (turnF_byt q false (bx_byt (addF_byt q r hf)))
theorem iv3_byt {f : Nat → Nat} (hf : Byt f) : Byt (fun n => iv3 (mixN mlN f 7 n)) := fun m hm => mlN_lt _ _ (mixN_byt hf 7 m hm) three_mix
theorem rB_byt {f : Nat → Nat} (q : Bool) (r : Nat) (hf : Byt f) : Byt (rB q r f) := addF_byt q (5 - r) (ub_byt (turnF_byt q true (iv3_byt hf)))
theorem rF_congr {f g : Nat → Nat} (q : Bool) (r : Nat) (h : Eq64 f g) : Eq64 (rF q r f) (rF q r g) :=
  mixF_congr (turnF_congr q false (fun n hn => congrArg bxN (addF_congr q r h n hn)))
theorem mixN_congr {f g : Nat → Nat} (h : Eq64 f g) : ∀ k, Eq64 (mixN mlN f k) (mixN mlN g k)
  | 0 => h
  | k + 1 => mixF_congr (mixN_congr h k)
theorem rB_congr {f g : Nat → Nat} (q : Bool) (r : Nat) (h : Eq64 f g) : Eq64 (rB q r f) (rB q r g) :=
  addF_congr q (5 - r) (fun n hn => congrArg ubN (turnF_congr q true (fun m hm => congrArg iv3 (mixN_congr h 7 m hm)) n hn))
/-- A round and the round that takes it back. -/
theorem rB_rF {f : Nat → Nat} (q : Bool) {r s : Nat} (hs : 5 - s = r) (hf : Byt f) : Eq64 (rB q s (rF q r f)) f := by
  have a1 := addF_byt q r hf
  have a2 := turnF_byt q false (bx_byt a1)
  unfold rB roundB rF roundF
  rw [hs]
  refine (addF_congr q r (fun n hn => ?_)).trans (add_add q r f)
  show ubN (turnF q true (fun n => iv3 (mixN mlN (mixF mlN (turnF q false fun n => bxN (addF q r f n))) 7 n)) n) = addF q r f n
  rw [((turnF_congr q true (unmix_mix a2)).trans (turn_back q _)) n hn]
  exact ub_bx _ (a1 n hn)
theorem rF_rB {f : Nat → Nat} (q : Bool) {r s : Nat} (hs : 5 - s = r) (hf : Byt f) : Eq64 (rF q r (rB q s f)) f := by
  have a1 := iv3_byt hf
  have a2 := turnF_byt q true a1
  unfold rB roundB rF roundF
  rw [hs]
  refine (mixF_congr ((turnF_congr q false (fun n hn => ?_)).trans (back_turn q _))).trans (mix_unmix hf)
  show bxN (addF q r (addF q r fun n => ubN (turnF q true (fun n => iv3 (mixN mlN f 7 n)) n)) n) = turnF q true (fun n => iv3 (mixN mlN f 7 n)) n
  rw [add_add q r _ n hn]
  exact bx_ub _ (a2 n hn)
theorem back_way {f : Nat → Nat} (q : Bool) (hf : Byt f) : Eq64 (backF iv3 ubN mlN q (wayF bxN mlN q f)) f := by
  have b1 := rF_byt q 0 hf
  have b2 := rF_byt q 1 b1
  have b3 := rF_byt q 2 b2
  have b4 := rF_byt q 3 b3
  have b5 := rF_byt q 4 b4
  show Eq64 (rB q 5 (rB q 4 (rB q 3 (rB q 2 (rB q 1 (rB q 0 (rF q 5 (rF q 4 (rF q 3 (rF q 2 (rF q 1 (rF q 0 f)))))))))))) f
  refine (rB_congr q 5 ?_).trans (rB_rF q (r := 0) (s := 5) rfl hf)
  refine (rB_congr q 4 ?_).trans (rB_rF q (r := 1) (s := 4) rfl b1)
  refine (rB_congr q 3 ?_).trans (rB_rF q (r := 2) (s := 3) rfl b2)
  refine (rB_congr q 2 ?_).trans (rB_rF q (r := 3) (s := 2) rfl b3)
  refine (rB_congr q 1 ?_).trans (rB_rF q (r := 4) (s := 1) rfl b4)
  exact rB_rF q (r := 5) (s := 0) rfl b5
theorem way_back {f : Nat → Nat} (q : Bool) (hf : Byt f) : Eq64 (wayF bxN mlN q (backF iv3 ubN mlN q f)) f := by
  have b1 := rB_byt q 0 hf
  have b2 := rB_byt q 1 b1
  have b3 := rB_byt q 2 b2
  have b4 := rB_byt q 3 b3
  have b5 := rB_byt q 4 b4
  show Eq64 (rF q 5 (rF q 4 (rF q 3 (rF q 2 (rF q 1 (rF q 0 (rB q 5 (rB q 4 (rB q 3 (rB q 2 (rB q 1 (rB q 0 f)))))))))))) f
  refine (rF_congr q 5 ?_).trans (rF_rB q (r := 5) (s := 0) rfl hf)
  refine (rF_congr q 4 ?_).trans (rF_rB q (r := 4) (s := 1) rfl b1)
  refine (rF_congr q 3 ?_).trans (rF_rB q (r := 3) (s := 2) rfl b2)
  refine (rF_congr q 2 ?_).trans (rF_rB q (r := 2) (s := 3) rfl b3)
  refine (rF_congr q 1 ?_).trans (rF_rB q (r := 1) (s := 4) rfl b4)
  exact rF_rB q (r := 0) (s := 5) rfl b5
theorem wayF_byt {f : Nat → Nat} (q : Bool) (hf : Byt f) : Byt (wayF bxN mlN q f) := rF_byt q 5 (rF_byt q 4 (rF_byt q 3 (rF_byt q 2 (rF_byt q 1 (rF_byt q 0 hf)))))
theorem backF_byt {f : Nat → Nat} (q : Bool) (hf : Byt f) : Byt (backF iv3 ubN mlN q f) := rB_byt q 5 (rB_byt q 4 (rB_byt q 3 (rB_byt q 2 (rB_byt q 1 (rB_byt q 0 hf)))))
theorem wayF_congr {f g : Nat → Nat} (q : Bool) (h : Eq64 f g) : Eq64 (wayF bxN mlN q f) (wayF bxN mlN q g) := rF_congr q 5 (rF_congr q 4 (rF_congr q 3 (rF_congr q 2 (rF_congr q 1 (rF_congr q 0 h)))))
theorem backF_congr {f g : Nat → Nat} (q : Bool) (h : Eq64 f g) : Eq64 (backF iv3 ubN mlN q f) (backF iv3 ubN mlN q g) := rB_congr q 5 (rB_congr q 4 (rB_congr q 3 (rB_congr q 2 (rB_congr q 1 (rB_congr q 0 h)))))
/-! Texts. -/
theorem strF_size (f : Nat → Nat) : (strF f).size = 64 := by
  unfold strF
  rw [strOfNums_size, List.length_map, List.length_range]
theorem bF_strF {f : Nat → Nat} (hf : Byt f) : Eq64 (bF (strF f)) f := fun n hn => by
  unfold bF strF
  rw [strOfNums_data, List.getD_eq_getElem?_getD, List.getElem?_map, List.getElem?_map, List.getElem?_range hn]
  show (UInt8.ofNat ((f n : Nat) : Int).toNat).toNat = f n
  rw [Int.toNat_natCast, UInt8.toNat_ofNat']
  exact Nat.mod_eq_of_lt (hf n hn)
theorem strF_congr {f g : Nat → Nat} (h : Eq64 f g) : strF f = strF g := by
  unfold strF
  congr 1
  refine List.map_congr_left fun n hn => ?_
  rw [h n (List.mem_range.1 hn)]
theorem strF_bF {s : ByteArray} (hs : s.size = 64) : strF (bF s) = s := by
  have hl : s.data.toList.length = 64 := by rw [Array.length_toList]; exact hs
  have e : (strF (bF s)).data.toList = s.data.toList := by
    unfold strF
    rw [strOfNums_data]
    apply List.ext_getElem?
    intro n
    rw [List.getElem?_map, List.getElem?_map]
    by_cases hn : n < 64
    · rw [List.getElem?_range hn, List.getElem?_eq_getElem (by omega)]
      show some (UInt8.ofNat ((bF s n : Nat) : Int).toNat) = some (s.data.toList[n])
      unfold bF
      rw [Int.toNat_natCast, List.getD_eq_getElem?_getD, List.getElem?_eq_getElem (by omega)]
      show some (UInt8.ofNat (s.data.toList[n]).toNat) = _
      rw [UInt8.ofNat_toNat]
    · rw [List.getElem?_eq_none (by rw [List.length_range]; omega), List.getElem?_eq_none (by omega)]
      rfl
  rcases s with ⟨⟨l⟩⟩
  generalize strF (bF ⟨⟨l⟩⟩) = t at e
  rcases t with ⟨⟨m⟩⟩
  have : m = l := e
  rw [this]
theorem back_str (q : Bool) (s : ByteArray) (hs : s.size = 64) : strF (backF iv3 ubN mlN q (bF (strF (wayF bxN mlN q (bF s))))) = s := by
  have hb : Byt (bF s) := fun n _ => bF_lt s n
  rw [strF_congr ((backF_congr q (bF_strF (wayF_byt q hb))).trans (back_way q hb)), strF_bF hs]
theorem way_str (q : Bool) (s : ByteArray) (hs : s.size = 64) : strF (wayF bxN mlN q (bF (strF (backF iv3 ubN mlN q (bF s))))) = s := by
  have hb : Byt (bF s) := fun n _ => bF_lt s n
  rw [strF_congr ((wayF_congr q (bF_strF (backF_byt q hb))).trans (way_back q hb)), strF_bF hs]
theorem pow3 : tower_Pow.f 30 3 0 3 8 = some (0, 2) := by decide +kernel
theorem inv2 : tower_Inv.f 30 3 0 2 = some (0, 3) := by decide +kernel
theorem mul3 (b : Nat) (hb : b < 256) : perm_mul.f 30 ((3 : Nat) : Int) (b : Int) = some (iv3 b : Int) := (mulPair_f b 3 hb three_mix).2.2
theorem iv3_lt (b : Nat) (hb : b < 256) : iv3 b < 256 := mlN_lt b 3 hb three_mix
theorem unbox_cells {cs : Array Value} (h : Tab bxN mlN 256 256 256 0 cs) (b : Nat) (hb : b < 256) : cs[256 + b]? = some (.int .u8 (ubN b : Int)) := by
  have := h.back (ubN b) (ubN_lt b hb)
  rw [bx_ub b hb] at this
  exact this
end Go.Proofs.Ytbfncpcpmigidaa.Br
