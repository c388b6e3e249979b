/- Sums of texts: the document's are the code's (layer 11). Conditions: those that each theorem names. -/
import Derived.Test.YtmibjgjgfombaaaPmSp
import Derived.Test.YtmibjgjgfombaaaPmRefW
import Derived.Test.YtmibjgjgfombaaaPx10
import Derived.Test.YtmibjgjgfombaaaPx12
import Derived.Test.YtmibjgjgfombaaaPx9
set_option linter.unusedVariables false
namespace Go.Proofs.Ytmibjgjgfombaaa.Br
open Go.RowKit Go.Proofs.YtmibjgjgfombaaaT Go.Proofs.Ytmibjgjgfombaaa.P Go.Proofs.YtmibjgjgfombaaaW.PrintWords Go.Proofs.YtmibjgjgfombaaaW.PrintLast Go.Proofs.YtmibjgjgfombaaaW.PrintMore
theorem str_ext {a b : ByteArray} (h : a.data.toList = b.data.toList) : a = b := ByteArray.ext (Array.toList_inj.1 h)
theorem add_l0 (a b : ByteArray) (ha : a.size = 64) (hb : b.size = 64) : ∀ m n : Nat, n + m = 64 → Ev (fun k => steepleref11_Add.l0 k a b ((List.range n).map fun i => ((bF a i ^^^ bF b i : Nat) : Int)) (n : Int)) (xorS a b)
  | 0, n, e => by
    obtain rfl : n = 64 := by omega
    refine Ev.succ ?_
    unfold steepleref11_Add.l0
    exact Ev.neg (by omega) (Ev.now _)
  | m + 1, n, e => by
    have hn : n < 64 := by omega
    have h1 := bF_lt a n
    have h2 := bF_lt b n
    refine Ev.succ ?_
    unfold steepleref11_Add.l0
    refine Ev.pos (by omega) (Ev.pos (by omega) (Ev.pos (by omega) (Ev.pos (by rw [List.length_map, List.length_range]; omega) ?_)))
    rw [bt_bF a (by omega), bt_bF b (by omega), Go.Proofs.Ytmibjgjgfombaaa.P.u8_xor _ _ h1 h2, wrap_s1 (by omega), map_snoc (fun i => ((bF a i ^^^ bF b i : Nat) : Int)) n]
    exact add_l0 a b ha hb m (n + 1) (by omega)
theorem Add_ev (a b : ByteArray) (ha : a.size = 64) (hb : b.size = 64) : Ev (fun k => steepleref11_Add.f k a b) (xorS a b) := add_l0 a b ha hb 64 0 rfl
theorem Press_ev (h m : ByteArray) (hh : h.size = 64) (hm : m.size = 64) : Ev (fun k => steepleref11_Press.f k bl tl h m) (pressS h m) := by
  unfold steepleref11_Press.f
  refine Ev.bind (Add_ev h m hh hm) (Ev.bind (Way_ev _ (xorS_size _ _) false) (Ev.bind (Way_ev m hm true) (Ev.bind (Add_ev _ _ (strF_size _) (strF_size _)) (Ev.bind (Add_ev _ _ (xorS_size _ _) hh) ?_))))
  exact Ev.now _
theorem Close_ev (h : ByteArray) (hh : h.size = 64) : Ev (fun k => steepleref11_Close.f k bl tl h) (closeS h) := by
  unfold steepleref11_Close.f
  refine Ev.bind (Way_ev h hh false) (Ev.bind (Add_ev _ _ (strF_size _) hh) (Ev.pos ?_ ?_))
  · rw [xorS_size]
    decide
  · have e : (xorS (strF (wayF bxN mlN false (bF h))) h).size = 64 := xorS_size _ _
    unfold closeS
    show Ev (fun _ => some ((xorS (strF (wayF bxN mlN false (bF h))) h).extract 32 (xorS (strF (wayF bxN mlN false (bF h))) h).size)) _
    rw [e]
    exact Ev.now _
def zS (n : Nat) : ByteArray := ⟨(List.replicate n (0 : UInt8)).toArray⟩
theorem zS_size (n : Nat) : (zS n).size = n := by
  show (List.replicate n (0 : UInt8)).toArray.size = n
  rw [List.size_toArray, List.length_replicate]
theorem zeros_l0 (n : Nat) (hn : n < 1000) : ∀ m i : Nat, i + m = n → Ev (fun k => steepleref11_zeros.l0 k (n : Int) (List.replicate i 0) (i : Int)) (zS n)
  | 0, i, e => by
    obtain rfl : i = n := by omega
    refine Ev.succ ?_
    unfold steepleref11_zeros.l0
    refine Ev.neg (by omega) ?_
    have h : strOfNums (List.replicate i 0) = zS i := str_ext (by
      rw [strOfNums_data, List.map_replicate]
      rfl)
    rw [h]
    exact Ev.now _
  | m + 1, i, e => by
    refine Ev.succ ?_
    unfold steepleref11_zeros.l0
    refine Ev.pos (by omega) (Ev.pos (by rw [List.length_replicate]; omega) ?_)
    rw [wrap_s1 (by omega), show (List.replicate i (0 : Int)) ++ [0] = List.replicate (i + 1) 0 from (List.replicate_succ' ..).symm]
    exact zeros_l0 n hn m (i + 1) (by omega)
theorem zeros_ev (n : Nat) (hn : n < 1000) : Ev (fun k => steepleref11_zeros.f k (n : Int)) (zS n) := zeros_l0 n hn n 0 (Nat.zero_add _)
/-! Filling. -/
/-- The last bytes so far: those from j on stand. -/
def tailZ (n j : Nat) : List Int := (List.range 8).map fun i => if j ≤ i then ((n / 2 ^ (8 * (7 - i)) % 256 : Nat) : Int) else 0
theorem tailZ_len (n j : Nat) : (tailZ n j).length = 8 := by unfold tailZ; rw [List.length_map, List.length_range]
theorem tailZ_set (n : Nat) {j : Nat} (hj : j < 8) : (tailZ n (j + 1)).set j ((n / 2 ^ (8 * (7 - j)) % 256 : Nat) : Int) = tailZ n j := by
  apply List.ext_getElem?
  intro i
  rw [List.getElem?_set]
  by_cases hi : i < 8
  · unfold tailZ
    rw [List.getElem?_map, List.getElem?_map, List.getElem?_range hi, List.length_map, List.length_range]
    by_cases c : j = i
    · subst c
      rw [if_pos rfl, if_pos hj]
      simp
    · rw [if_neg c]
      simp only [Option.map_some]
      by_cases c2 : j + 1 ≤ i
      · rw [if_pos c2, if_pos (by omega)]
      · rw [if_neg c2, if_neg (by omega)]
  · rw [List.getElem?_eq_none (by rw [tailZ_len]; omega), List.getElem?_eq_none (by rw [tailZ_len]; omega)]
    rw [tailZ_len, if_neg (by omega)]
theorem tail_str (n : Nat) : (strOfNums (tailZ n 0)).data.toList = tailB n 8 := by
  rw [strOfNums_data]
  unfold tailZ tailB
  rw [List.map_map]
  refine List.map_congr_left fun i _ => ?_
  show UInt8.ofNat (if 0 ≤ i then ((n / 2 ^ (8 * (7 - i)) % 256 : Nat) : Int) else 0).toNat = _
  rw [if_pos (Nat.zero_le _), Int.toNat_natCast]
theorem fill_l2 (t : ByteArray) (n : Nat) (hn : n < 1000000000000) (ht : t.size + 8 ≤ 9223372036854775807) : ∀ (j : Nat), j ≤ 8 → Ev (fun k => steepleref11_Fill.l2 k t ((n / 2 ^ (8 * (8 - j)) : Nat) : Int) (tailZ n j) ((j : Int) - 1)) (t ++ strOfNums (tailZ n 0))
  | 0, _ => by
    refine Ev.succ ?_
    unfold steepleref11_Fill.l2
    refine Ev.neg (by omega) (Ev.pos ?_ (Ev.now _))
    rw [strOfNums_size, tailZ_len]
    exact ht
  | j + 1, hj => by
    have e0 : (((j + 1 : Nat) : Int) - 1) = (j : Int) := by omega
    rw [e0]
    refine Ev.succ ?_
    unfold steepleref11_Fill.l2
    refine Ev.pos (by omega) (Ev.pos (by omega) (Ev.pos (by rw [tailZ_len]; omega) ?_))
    obtain ⟨q, hq⟩ : ∃ q, q = n / 2 ^ (8 * (8 - (j + 1))) := ⟨_, rfl⟩
    have hqn : q ≤ n := by rw [hq]; exact Nat.div_le_self _ _
    have e1 : wrap64 (Int.tdiv (q : Int) 256) = ((q / 256 : Nat) : Int) := by
      rw [Int.tdiv_eq_ediv_of_nonneg (by omega)]
      unfold wrap64
      omega
    have e2 : Int.tmod (q : Int) 256 % 256 = ((q % 256 : Nat) : Int) := by
      rw [Int.tmod_eq_emod_of_nonneg (by omega)]
      omega
    have e3 : wrap64 ((j : Int) - 1) = (j : Int) - 1 := by unfold wrap64; omega
    have e4 : q / 256 = n / 2 ^ (8 * (8 - j)) := by
      rw [hq, Nat.div_div_eq_div_mul, show (256 : Nat) = 2 ^ 8 by rfl, ← Nat.pow_add]
      congr 2
      omega
    have e5 : q % 256 = n / 2 ^ (8 * (7 - j)) % 256 := by
      rw [hq, show 8 - (j + 1) = 7 - j by omega]
    rw [← hq, e1, e2, e3, Int.toNat_natCast, e4, e5, tailZ_set n (by omega)]
    exact fill_l2 t n hn ht j (by omega)
theorem fill_l1 (t : ByteArray) (n : Nat) (hn : n < 1000000000000) (ht : t.size + 8 ≤ 9223372036854775807) : ∀ m i : Nat, i + m = 8 → Ev (fun k => steepleref11_Fill.l1 k t (n : Int) (List.replicate i 0) (i : Int)) (t ++ strOfNums (tailZ n 0))
  | 0, i, e => by
    obtain rfl : i = 8 := by omega
    refine Ev.succ ?_
    unfold steepleref11_Fill.l1
    refine Ev.neg (by omega) ?_
    have h := fill_l2 t n hn ht 8 (Nat.le_refl _)
    rw [show n / 2 ^ (8 * (8 - 8)) = n by rw [show 8 * (8 - 8) = 0 by rfl, Nat.pow_zero, Nat.div_one]] at h
    exact h
  | m + 1, i, e => by
    refine Ev.succ ?_
    unfold steepleref11_Fill.l1
    refine Ev.pos (by omega) (Ev.pos (by rw [List.length_replicate]; omega) ?_)
    rw [wrap_s1 (by omega), show (List.replicate i (0 : Int)) ++ [0] = List.replicate (i + 1) 0 from (List.replicate_succ' ..).symm]
    exact fill_l1 t n hn ht m (i + 1) (by omega)
theorem fill_t {z i : Nat} (hz : z < 1000000000000) (hi : i < 1000) : Int.tmod (wrap64 ((wrap64 ((wrap64 ((z : Int) + 1)) + (i : Int))) + 8)) 64 = (((z + i + 9) % 64 : Nat) : Int) := by
  have e1 : wrap64 ((z : Int) + 1) = ((z + 1 : Nat) : Int) := by unfold wrap64; omega
  have e2 : wrap64 (((z + 1 : Nat) : Int) + (i : Int)) = ((z + 1 + i : Nat) : Int) := by unfold wrap64; omega
  have e3 : wrap64 (((z + 1 + i : Nat) : Int) + 8) = ((z + i + 9 : Nat) : Int) := by unfold wrap64; omega
  rw [e1, e2, e3, Int.tmod_eq_emod_of_nonneg (by omega)]
  omega
theorem fill_n {n : Nat} (hn : n < 1000000000000) (h1 : 1 ≤ n) : wrap64 (Int.tdiv (wrap64 (((64 * n - 8 : Nat) : Int) + 8)) 64) = (n : Int) := by
  have a1 : wrap64 (((64 * n - 8 : Nat) : Int) + 8) = ((64 * n : Nat) : Int) := by unfold wrap64; omega
  rw [a1, Int.tdiv_eq_ediv_of_nonneg (by omega)]
  unfold wrap64
  omega
theorem fill_str (s : ByteArray) {n i : Nat} (hn : n = nB s.size) (hi : i = 64 * n - s.size - 9) : ((s ++ (⟨#[128]⟩ : ByteArray)) ++ zS i) ++ strOfNums (tailZ n 0) = fillS s := str_ext (by
  subst hn hi
  rw [ByteArray.data_append, ByteArray.data_append, ByteArray.data_append, Array.toList_append, Array.toList_append, Array.toList_append, tail_str]
  rfl)
theorem Fill_l0 (s : ByteArray) (hs : s.size < 1000000000) (n : Nat) (hn : n = nB s.size) (h1 : s.size + 9 ≤ 64 * n) (h2 : 64 * n ≤ s.size + 72) (m : Nat) : ∀ i : Nat, i + m = 64 * n - s.size - 9 → Ev (fun k => steepleref11_Fill.l0 k s (i : Int)) (fillS s) := by
  induction m with
  | zero =>
    intro i e
    have hi : i = 64 * n - s.size - 9 := e
    have hi3 : i < 1000 := by omega
    have ht := fill_t (z := s.size) (i := i) (by omega) (by omega)
    have hz : (s ++ (⟨#[128]⟩ : ByteArray)).size = s.size + 1 := by rw [ByteArray.size_append]; rfl
    have hz2 : ((s ++ (⟨#[128]⟩ : ByteArray)) ++ zS i).size = 64 * n - 8 := by rw [ByteArray.size_append, hz, zS_size]; omega
    have h3 : s.size + 1 ≤ 9223372036854775807 := by omega
    have h4 : (s ++ (⟨#[128]⟩ : ByteArray)).size + (zS i).size ≤ 9223372036854775807 := by rw [hz, zS_size]; omega
    have h5 : (((s.size + i + 9) % 64 : Nat) : Int) = 0 := by omega
    have h := fill_l1 ((s ++ (⟨#[128]⟩ : ByteArray)) ++ zS i) n (by omega) (by rw [hz2]; omega) 8 0 rfl
    rw [fill_str s hn hi] at h
    have e5 := fill_n (n := n) (by omega) (by omega)
    rw [← hz2] at e5
    refine Ev.succ ?_
    unfold steepleref11_Fill.l0
    rw [ht]
    refine Ev.pos h5 (Ev.pos h3 (Ev.bind (zeros_ev i hi3) (Ev.pos h4 ?_)))
    rw [e5]
    exact h
  | succ m ih =>
    intro i e
    have ht := fill_t (z := s.size) (i := i) (by omega) (by omega)
    have h5 : ¬ (((s.size + i + 9) % 64 : Nat) : Int) = 0 := by omega
    have hi := ih (i + 1) (by omega)
    refine Ev.succ ?_
    unfold steepleref11_Fill.l0
    rw [ht]
    refine Ev.neg h5 ?_
    rw [wrap_s1 (by omega)]
    exact hi
theorem Fill_ev (s : ByteArray) (hs : s.size < 1000000000) : Ev (fun k => steepleref11_Fill.f k s) (fillS s) := Fill_l0 s hs (nB s.size) rfl (nB_le _) (nB_lt _) _ 0 (Nat.zero_add _)
/-! Sums. -/
theorem sum_w {i : Nat} (h : i < 1000000000) : wrap64 (((64 * i : Nat) : Int) + 64) = ((64 * (i + 1) : Nat) : Int) := by unfold wrap64; omega
theorem cut_ex {f : ByteArray} {i m : Nat} (hf : f.size = 64 * (i + (m + 1))) : (f.extract (64 * i) f.size).extract 0 64 = f.extract (64 * i) (64 * (i + 1)) := by
  rw [ByteArray.extract_extract, Nat.add_zero, Nat.min_eq_left (by omega), Nat.mul_succ]
theorem cut_ex2 {f : ByteArray} {i m : Nat} (hf : f.size = 64 * (i + (m + 1))) : (f.extract (64 * i) f.size).extract 64 (f.extract (64 * i) f.size).size = f.extract (64 * (i + 1)) f.size := by
  rw [ByteArray.extract_extract, ByteArray.size_extract, Nat.mul_succ]
  congr 1
  omega
theorem cutL_succ (m : Nat) (s : ByteArray) : cutL (m + 1) s = s.extract 0 64 :: cutL m (s.extract 64 s.size) := rfl
theorem Sum_l0 (f : ByteArray) (m : Nat) : ∀ (i : Nat) (h : ByteArray), f.size = 64 * (i + m) → i + m < 1000000000 → h.size = 64 → Ev (fun k => steepleref11_Sum.l0 k h f ((64 * i : Nat) : Int) bl tl) (closeS ((cutL m (f.extract (64 * i) f.size)).foldl pressS h)) := by
  induction m with
  | zero =>
    intro i h hf hm hh
    have e1 := sum_w (i := i) (by omega)
    refine Ev.succ ?_
    unfold steepleref11_Sum.l0
    rw [e1]
    have hlt : ¬ ((64 * (i + 1) : Nat) : Int) ≤ (f.size : Int) := by omega
    refine Ev.neg hlt (Ev.bind (Close_ev h hh) ?_)
    exact Ev.now _
  | succ m ih =>
    intro i h hf hm hh
    have e1 := sum_w (i := i) (by omega)
    have h1 : ((64 * (i + 1) : Nat) : Int) ≤ (f.size : Int) := by omega
    have h2 : (0 : Int) ≤ ((64 * i : Nat) : Int) := by omega
    have h3 : ((64 * i : Nat) : Int) ≤ ((64 * (i + 1) : Nat) : Int) := by omega
    have hz : (f.extract (64 * i) (64 * (i + 1))).size = 64 := by
      rw [ByteArray.size_extract]
      omega
    have hi := ih (i + 1) (pressS h (f.extract (64 * i) (64 * (i + 1)))) (by omega) (by omega) (pressS_size _ _)
    rw [cutL_succ, cut_ex hf, cut_ex2 hf, List.foldl_cons]
    refine Ev.succ ?_
    unfold steepleref11_Sum.l0
    rw [e1, Int.toNat_natCast, Int.toNat_natCast]
    exact Ev.pos h1 (Ev.pos h2 (Ev.pos h3 (Ev.bind (Press_ev h _ hh hz) hi)))
theorem Sum_ev (s : ByteArray) (hs : s.size < 1000000000) : Ev (fun k => steepleref11_Sum.f k bl tl s) (sumS s) := by
  have h2 := nB_lt s.size
  unfold steepleref11_Sum.f
  refine Ev.bind (zeros_ev 62 (by decide)) (Ev.pos (by rw [zS_size]; decide) (Ev.bind (Fill_ev s (by omega)) ?_))
  have ef : zS 62 ++ (⟨#[1, 0]⟩ : ByteArray) = firstS := by
    apply ByteArray.ext
    rw [ByteArray.data_append]
    rfl
  rw [ef]
  have hsum := Sum_l0 (fillS s) (nB s.size) 0 firstS (by rw [fillS_size]; omega) (by omega) firstS_size
  have e0 : (fillS s).extract (64 * 0) (fillS s).size = fillS s := by
    rw [Nat.mul_zero]
    exact ByteArray.extract_zero_size
  rw [e0] at hsum
  exact hsum
end Go.Proofs.Ytmibjgjgfombaaa.Br
