/- All rows of digests (merkle.Rows), in the print's form. Conditions: those that each theorem names. Printed by gen_rows.py. -/
import Derived.Test.YtmibjgjgfombaaaHSu
import Derived.Test.YtmibjgjgfombaaaPx4
set_option linter.unusedVariables false
set_option linter.unusedSimpArgs false
set_option maxRecDepth 100000
namespace Go.Proofs.Ytmibjgjgfombaaa.P
open Go.RowKit Go.Proofs.Ytmibjgjgfombaaa.Br Go.Proofs.YtmibjgjgfombaaaX Go.Proofs.YtmibjgjgfombaaaW.PrintWords Go.Proofs.YtmibjgjgfombaaaW.PrintLast Go.Proofs.YtmibjgjgfombaaaW.PrintMore
def leafS (s : ByteArray) : ByteArray := sumS ((⟨#[0]⟩ : ByteArray) ++ s)
def nodeS (a b : ByteArray) : ByteArray := sumS (((⟨#[1]⟩ : ByteArray) ++ a) ++ b)
theorem leaf_f (k : Int) {s : ByteArray} (h : s.size ≤ 1000000) : merkle_Leaf.f k s = some (leafS s) := by
  have e1 : ((⟨#[0]⟩ : ByteArray) ++ s).size = 1 + s.size := ByteArray.size_append
  unfold merkle_Leaf.f merkle_leafText.f
  rw [if_pos (by omega), Option.bind_some]
  unfold sponge_Sum.f
  rw [if_pos (by omega), Option.bind_some]
  rfl
theorem node_f (k : Int) {a b : ByteArray} (ha : a.size = 32) (hb : b.size = 32) : merkle_Node.f k a b = some (nodeS a b) := by
  have e1 : ((⟨#[1]⟩ : ByteArray) ++ a).size = 1 + a.size := ByteArray.size_append
  have e2 : (((⟨#[1]⟩ : ByteArray) ++ a) ++ b).size = ((⟨#[1]⟩ : ByteArray) ++ a).size + b.size := ByteArray.size_append
  unfold merkle_Node.f merkle_nodeText.f
  rw [if_pos (by omega), if_pos (by omega), Option.bind_some]
  unfold sponge_Sum.f
  rw [if_pos (by omega), Option.bind_some]
  rfl
theorem leafS_size (s : ByteArray) : (leafS s).size = 32 := sumS_size _
theorem nodeS_size (a b : ByteArray) : (nodeS a b).size = 32 := sumS_size _
/-- The row above. -/
def upAt (row : List ByteArray) (j : Nat) : ByteArray := nodeS (row.getD (2 * j) ByteArray.empty) (row.getD (2 * j + 1) ByteArray.empty)
def upL (row : List ByteArray) : List ByteArray := (List.range (row.length / 2)).map (upAt row)
def rowsL : Nat → List ByteArray → List (List ByteArray)
  | 0, row => [row]
  | h + 1, row => row :: rowsL h (upL row)
theorem upL_len (row : List ByteArray) : (upL row).length = row.length / 2 := by unfold upL; rw [List.length_map, List.length_range]
theorem upL_32 (row : List ByteArray) : ∀ t ∈ upL row, t.size = 32 := by
  intro t ht
  obtain ⟨j, _, rfl⟩ := List.mem_map.1 ht
  exact nodeS_size _ _
def heightN (n : Nat) : Option Nat := (List.range 13).find? (fun h => n == 2 ^ h)
theorem height_some : ∀ h : Nat, h < 13 → merkle_height.f 14 ((2 ^ h : Nat) : Int) = some (h : Int) := by decide +kernel
theorem heightN_some {n h : Nat} (e : heightN n = some h) : h < 13 ∧ n = 2 ^ h := by
  unfold heightN at e
  have h1 := List.find?_some e
  have h2 := List.mem_of_find?_eq_some e
  exact ⟨List.mem_range.1 h2, by simpa using h1⟩
theorem heightN_none {n : Nat} (e : heightN n = none) : ∀ h, h < 13 → n ≠ 2 ^ h := by
  intro h hh en
  unfold heightN at e
  rw [List.find?_eq_none] at e
  exact e h (List.mem_range.2 hh) (by simp [en])
theorem height_step (n : Nat) (k j : Nat) (hj : j < 13) (hn : n ≠ 2 ^ j) : merkle_height.l0 (k + 1) (n : Int) (j : Int) = merkle_height.l0 k (n : Int) ((j + 1 : Nat) : Int) := by
  have hs : ∀ j : Nat, j < 13 → shl .i64 1 (j : Int) = ((2 ^ j : Nat) : Int) := by decide +kernel
  have hw : wrap64 ((j : Int) + 1) = ((j + 1 : Nat) : Int) := by unfold wrap64; omega
  simp only [merkle_height.l0]
  rw [if_pos (by omega), if_pos (by omega), hs j hj, if_neg (by omega), hw]
theorem height_none {n : Nat} (e : heightN n = none) : merkle_height.f 14 (n : Int) = some (-1) := by
  have h := heightN_none e
  have key : ∀ d j : Nat, j + d = 13 → merkle_height.l0 (d + 1) (n : Int) (j : Int) = some (-1) := by
    intro d
    induction d with
    | zero =>
      intro j hj
      simp only [merkle_height.l0]
      rw [if_neg (by omega)]
    | succ d ih =>
      intro j hj
      rw [height_step n (d + 1) j (by omega) (h j (by omega))]
      exact ih (j + 1) (by omega)
  exact key 13 0 rfl
def merkle_Rows.f (_ : Int) (l : List ByteArray) : Option (List (List ByteArray) × Int) :=
  match heightN l.length with
  | none => some ([], 6)
  | some h => if l.all (fun t => decide (t.size ≤ 1000000)) then some (rowsL h (l.map leafS), 0) else none
theorem cell_row {A : Addr} {w : World} {xs : List ByteArray} (h : Kd.C Kd.string w (some A) xs.length xs) (i : Nat) (hi : i < xs.length) : w.cell? (A.add i) = some (.string (xs.getD i ByteArray.empty)) := by
  obtain ⟨ad, e, hx⟩ := Kd.at_string h (i : Int) (by omega) (by omega)
  cases e
  exact hx
def rws17T : Bool × List (List Nat × List Nat) := (true, [([], []), ([], []), ([], []), ([], []), ([2, 3], [2, 3]), ([4], [4]), ([], []), ([], []), ([7], [7]), ([6, 8], [6, 8]), ([9], [9]), ([1, 5, 10], [1, 5, 10]), ([11], [11]), ([0, 12, 11], [0, 12]), ([13, 13, 0, 1, 2, 3, 4, 5, 6, 7, 8, 9, 10, 11, 12, 13], [0, 13])])
def rws17B : List Nat := [0, 0, 0, 0, 12, 28, 0, 0, 128, 448, 960, 2046, 4094, 8191, 16383]
theorem rws17tab : rtab .any (opsOf Try.f12 17) = rws17T := by kernel_rfl
theorem rws17bits : waitsOk rws17T.2 rws17B = true := by kernel_rfl
set_option maxHeartbeats 8000000 in
set_option maxRecDepth 100000 in
theorem rows_none (A1 : Option Addr) (c1 : Nat) (l1 : List ByteArray) (w : World) (gT : Nat) (h : heightN l1.length = none) :
  Calls Try.prog 12 #[.pointer (some ⟨gT, 0, none⟩), .slice A1 l1.length c1] w fun e w' => e = .returned (.tuple #[.slice none 0 0, .int .i64 6]) ∧ Below w.heap.size w w' := by
 have HH := Aside0.mk (height_none h)
 have HB := Aside0.mk (Below.refl w.heap.size w)
 clear h
 go_enter Try.func12, Try.ntmps12
 go_wp2_with (first
  | ((with_reducible refine gate_callee (f := 33) rfl ?_); refine goesL_ (some 18) rfl rfl Try.func33 (by kernel_rfl) rfl #[.int .i64 (l1.length : Int)] rfl (by (try simp only [List.map_toArray, List.map_cons, List.map_nil]); first | done | rfl) ?_; (with_reducible refine (merkle_height.calls 14 (l1.length : Int) (-1) _ HH.out).mono ?_); rintro e w11 ⟨rfl, hd⟩; refine ⟨_, rfl, ?_⟩; have hb := hd.below; clear hd; replace HB := bh HB hb; clear hb)
  | (go_at_call 33; (with_reducible refine (merkle_height.calls 14 (l1.length : Int) (-1) _ HH.out).mono ?_); rintro e w11 ⟨rfl, hd⟩; have hb := hd.below; clear hd; replace HB := bh HB hb; clear hb))
 go_ret2
 exact ⟨by first | rfl | (simp; done) | (simp [*]; done), HB.out⟩
set_option maxHeartbeats 8000000 in
set_option maxRecDepth 100000 in
theorem rows_some (A1 : Option Addr) (c1 : Nat) (l1 : List ByteArray) (w : World) (gT : Nat) (hT : TabAt w gT) (hr1 : Kd.C Kd.string w A1 l1.length l1) (hc1 : l1.length ≤ c1) (h : Nat) (hh : h < 13) (hl : l1.length = 2 ^ h) (hz : ∀ t ∈ l1, t.size ≤ 1000000) :
  Calls Try.prog 12 #[.pointer (some ⟨gT, 0, none⟩), .slice A1 l1.length c1] w fun e w' => ∃ v0 : Value, e = .returned (.tuple #[v0, .int .i64 0]) ∧ Kd.S (Kd.slice 9 Kd.string) 22 w' w.heap.size (fun _ => True) v0 (rowsL h (l1.map leafS)) ∧ Below w.heap.size w w' := by
 have HH : Aside0 (merkle_height.f 14 (l1.length : Int) = some (h : Int)) := ⟨by rw [hl]; exact height_some h hh⟩
 have HT := Aside0.mk hT
 have HR1 := Aside0.mk hr1
 have HC1 := Aside0.mk hc1
 have HL := Aside0.mk hl
 have HHB := Aside0.mk hh
 have HZ := Aside0.mk hz
 have n0 : decide ((h : Int) < 0) = false := decide_eq_false (by omega)
 have HB := Aside0.mk (Below.refl w.heap.size w)
 clear hT hr1 hc1 hl hh hz
 go_enter Try.func12, Try.ntmps12
 go_wp2_with (first
  | ((with_reducible refine gate_callee (f := 33) rfl ?_); refine goesL_ (some 18) rfl rfl Try.func33 (by kernel_rfl) rfl #[.int .i64 (l1.length : Int)] rfl (by (try simp only [List.map_toArray, List.map_cons, List.map_nil]); first | done | rfl) ?_; (with_reducible refine (merkle_height.calls 14 (l1.length : Int) (h : Int) _ HH.out).mono ?_); rintro e w11 ⟨rfl, hd⟩; refine ⟨_, rfl, ?_⟩; have hb := hd.below; clear hd; replace HB := bh HB hb; clear hb)
  | (go_at_call 33; (with_reducible refine (merkle_height.calls 14 (l1.length : Int) (h : Int) _ HH.out).mono ?_); rintro e w11 ⟨rfl, hd⟩; have hb := hd.below; clear hd; replace HB := bh HB hb; clear hb))
 go_loopg [6, 22] l1.length (fun kq v6 v22 w' => ∃ i : Nat, v22 = .int .i64 (i : Int) ∧ Aside0 (i + kq = l1.length) ∧ Aside0 (Kd.R Kd.string 9 w' w.heap.size (fun _ => True) v6 ((l1.take i).map leafS)) ∧ Aside0 (Below w.heap.size w w'))
 case atStart => exact ⟨0, rfl, ⟨Nat.zero_add _⟩, ⟨Kd.R_nil _ _ _ _ _⟩, HB⟩
 case round =>
  clear HB
  obtain ⟨i, rfl, HK, HR6, HB⟩ := hrel
  cases gk with
  | succ gko =>
   have e0 := HK.out
   have hi : i < l1.length := by omega
   have d1 : decide ((i : Int) < (l1.length : Int)) = true := decide_eq_true (by omega)
   have d2 : decide (i < l1.length) = true := decide_eq_true hi
   obtain ⟨ad1, e1, hx1⟩ := Kd.at_string (Kd.C_below HR1.out HB.out) (i : Int) (by omega) (by omega)
   cases e1
   have et : rdOf ByteArray.empty l1 (i : Int) = l1[i] := by
     unfold rdOf
     rw [Int.toNat_natCast, List.getD_eq_getElem?_getD, List.getElem?_eq_getElem hi, Option.getD_some]
   rw [et] at hx1
   simp only [Int.toNat_natCast] at hx1
   have LF := Aside0.mk (leaf_f 0 (HZ.out l1[i] (List.getElem_mem hi)))
   have ET : Aside0 ((l1.take i).map leafS ++ [leafS l1[i]] = (l1.take (i + 1)).map leafS) := ⟨by rw [List.take_succ_eq_append_getElem hi, List.map_append]; rfl⟩
   have h13 : l1.length ≤ 4096 := by rw [HL.out]; exact Nat.pow_le_pow_right (by decide) (show h ≤ 12 by have := HHB.out; omega)
   have LL : Aside0 ((((l1.take i).map leafS).length + 1) * 16 ≤ 140737488355328) := ⟨by rw [List.length_map, List.length_take]; omega⟩
   have e9 : wrap64 ((i : Int) + 1) = ((i + 1 : Nat) : Int) := by unfold wrap64; omega
   obtain ⟨t, ht⟩ : ∃ t, t = l1[i] := ⟨_, rfl⟩
   rw [← ht] at hx1 LF ET
   have p1 := eq_true (show 0 ≤ (i : Int) by omega)
   have q1 := eq_true (show (i : Int) < (l1.length : Int) by omega)
   have HK2 := Aside0.mk (show (i + 1) + gko = l1.length by omega)
   clear hi e0 ht et h13
   go_wp2_with (first
      | ((with_reducible refine gate_callee (f := 26) rfl ?_); refine goesL_ (some 29) rfl rfl Try.func26 (by kernel_rfl) rfl #[.pointer (some ⟨gT, 0, none⟩), .string t] rfl (by (try simp only [List.map_toArray, List.map_cons, List.map_nil]); first | done | rfl) ?_; (with_reducible refine (merkle_Leaf.calls (gT := gT) (hT := HT.out.below HB.out) 0 t (leafS t) _ LF.out).mono ?_); rintro e w11 ⟨rfl, hb⟩; refine ⟨_, rfl, ?_⟩; replace HR6 := kb HR6 hb; replace HB := bh HB hb; clear hb)
      | (go_at_call 26; (with_reducible refine (merkle_Leaf.calls (gT := gT) (hT := HT.out.below HB.out) 0 t (leafS t) _ LF.out).mono ?_); rintro e w11 ⟨rfl, hb⟩; replace HR6 := kb HR6 hb; replace HB := bh HB hb; clear hb)
      | ((with_reducible refine gate_builtin (b := .append) (xs := #[.tmp 26, .tmp 30]) rfl ?_); (try (refine gate_guard (by rfl) ?_; dsimp only)); at_builtin; refine Kd.R_append Kd.string (w0 := w) w.heap.size rfl (.tmp 26) (.tmp 30) 22 9 (.string ⟨#[]⟩) 16 rfl Try.underlying22 info9 rfl (by decide) (by omega) u6 ((l1.take i).map leafS) (leafS t) [.string (leafS t)] (fun _ => True) (fun _ => False) rfl rfl ?aP (fun _ hk => hk.elim) ?aF ?aO ?aB ?aS ?aL ?_; (case aP => exact rfl); (case aB => exact HB.out); (case aF => exact (fun _ _ => trivial)); (case aO => exact HR6.out); (case aS => exact (below_size HB.out)); (case aL => exact LL.out); intro v181 w25 ho hb hg hat; rw [ET.out] at ho; have HO := Aside0.mk ho; replace HB := Aside0.mk hb; clear HR6; clear ho hb hg hat))
   go_roundg gko
   case measure => exact Nat.lt_succ_self _
   case rel => exact ⟨i + 1, by first | rfl | (simp; done) | (simp [*]; done), HK2, HO, HB⟩
  | zero =>
   have e0 := HK.out
   have d1 : decide ((i : Int) < (l1.length : Int)) = false := decide_eq_false (by omega)
   have d2 : decide (i < l1.length) = false := decide_eq_false (by omega)
   have hR := HR6.out
   rw [List.take_of_length_le (by omega)] at hR
   obtain ⟨row, erow⟩ : ∃ row, row = l1.map leafS := ⟨_, rfl⟩
   rw [← erow] at hR
   have hrl : row.length = 2 ^ h := by rw [erow, List.length_map, HL.out]
   obtain ⟨A6, c6, rfl⟩ := Kd.R_slice hR
   have R6 := Aside0.mk hR
   have ER := Aside0.mk erow
   have HRL := Aside0.mk hrl
   clear hR hrl erow e0 HR6
   have R32 : Aside0 (∀ t ∈ row, t.size = 32) := ⟨by
     intro t ht
     rw [ER.out] at ht
     obtain ⟨u, _, rfl⟩ := List.mem_map.1 ht
     exact leafS_size u⟩
   go_wp2_with (first
      | ((with_reducible refine gate_dst (N := 34) rfl ?_); refine Kd.R_lit (Kd.tag (fun _ => 0) (Kd.slice 9 Kd.string)) (w0 := w) w.heap.size 22 ?hg (N := 34) ?hd (xs := [(row, 0)]) (inner := [.slice A6 row.length c6]) (ok := fun _ => True) (okp := fun _ => True) ?hr ?hp (fun _ hk => hk) trivial HB.out (below_size HB.out) (by simp) ?_; (case hd => rfl); (case hg => rfl); (case hr => first | (go_simp; done) | (go_simp; rfl)); (case hp => exact Reps.one (show (Kd.tag (fun _ => 0) (Kd.slice 9 Kd.string)).M _ _ _ (row, 0) [.slice A6 row.length c6] from ⟨_, rfl, Kd.R_mono R6.out (fun _ _ => ⟨trivial, rfl⟩)⟩) (Reps.none _ _)); intro v9 w12 ho hb hg_ hnew_; have S9 : Aside0 (Kd.S (Kd.slice 9 Kd.string) 22 w12 w.heap.size (fun _ => True) v9 ([] ++ [row])) := ⟨⟨fun _ => 0, ho⟩⟩; replace R6 := Aside0.mk (Kd.R_step R6.out (fun k _ hk => hg_.block k hk (by simp))); replace HB := Aside0.mk hb; clear ho hb hg_ hnew_))
   go_loopg [6, 9] h (fun kq v6 v9 w' => ∃ (rw_ : List ByteArray) (dn : List (List ByteArray)), Aside0 (dn ++ rowsL kq rw_ = rowsL h row) ∧ Aside0 (rw_.length = 2 ^ kq) ∧ Aside0 (∀ t ∈ rw_, t.size = 32) ∧ Aside0 (dn.length + kq = h) ∧ Aside0 (Kd.R Kd.string 9 w' w.heap.size (fun _ => True) v6 rw_) ∧ Aside0 (Kd.S (Kd.slice 9 Kd.string) 22 w' w.heap.size (fun _ => True) v9 (dn ++ [rw_])) ∧ Aside0 (Below w.heap.size w w'))
   case atStart => exact ⟨row, [], ⟨rfl⟩, HRL, R32, ⟨Nat.zero_add _⟩, R6, S9, HB⟩
   case round =>
    clear R6 S9 HB R32 HRL
    obtain ⟨ro, dn, EQ, RL, R32, DL, R6, S9, HB⟩ := hrel
    have h12 := HHB.out
    have e1 := RL.out
    have e2 := DL.out
    obtain ⟨A9, c9, rfl⟩ := Kd.S_slice S9.out
    obtain ⟨n9, en9⟩ : ∃ n9, n9 = (dn ++ [ro]).length := ⟨_, rfl⟩
    have EN9 := Aside0.mk en9
    rw [← en9] at S9 ⊢
    cases gk with
    | zero =>
     obtain ⟨A6, c6, rfl⟩ := Kd.R_slice R6.out
     have d1 : decide (1 < (ro.length : Int)) = false := decide_eq_false (by rw [e1]; decide)
     have d2 : decide (1 < ro.length) = false := decide_eq_false (by rw [e1]; decide)
     have hfin : dn ++ [ro] = rowsL h (l1.map leafS) := by rw [← ER.out]; exact EQ.out
     have HF := Aside0.mk hfin
     clear e1 e2 h12 hfin en9
     go_wp2
     go_ret2
     exact ⟨_, rfl, by rw [← HF.out]; exact S9.out, HB.out⟩
    | succ g =>
     have em : (2 : Nat) ^ (g + 1) = 2 * 2 ^ g := by rw [Nat.pow_succ, Nat.mul_comm]
     obtain ⟨m, hm⟩ : ∃ m : Nat, m = 2 ^ g := ⟨_, rfl⟩
     rw [em, ← hm] at e1
     have m0 : 0 < m := by rw [hm]; exact Nat.pow_pos (by decide)
     have m1 : m ≤ 4096 := by rw [hm]; exact Nat.pow_le_pow_right (by decide) (show g ≤ 12 by omega)
     obtain ⟨gr, cr, er, _, _, _⟩ := Kd.R_form R6.out (by omega)
     obtain ⟨AR, hAR⟩ : ∃ AR : Addr, AR = ⟨gr, 0, none⟩ := ⟨_, rfl⟩
     rw [← hAR] at er
     subst er
     have HC6 := Aside0.mk (Kd.R_reads' R6.out).2.2
     obtain ⟨z, ez⟩ : ∃ z, z = ro.length := ⟨_, rfl⟩
     have d1 : decide (1 < (z : Int)) = true := decide_eq_true (by omega)
     have d2 : decide (1 < z) = true := decide_eq_true (by omega)
     have EZ := Aside0.mk ez
     have E1 : Aside0 (z = 2 * m) := ⟨ez.trans e1⟩
     have EM := Aside0.mk hm
     have M0 := Aside0.mk m0
     have M1 := Aside0.mk m1
     have G12 := Aside0.mk (show dn.length ≤ 12 by omega)
     rw [← ez] at R6 ⊢
     clear e1 e2 h12 em hm m0 m1 hAR ez en9
     go_wp2
     generalize wr = W1 at R6 S9 HB HC6 ⊢
     go_loopg [10, 11] m (fun kq v10 v11 w' => ∃ j x : Nat, v11 = .int .i64 (x : Int) ∧ Aside0 (x = 2 * j) ∧ Aside0 (j + kq = m) ∧ Aside0 (Kd.R Kd.string 9 w' W1.heap.size (fun _ => True) v10 ((List.range j).map (upAt ro))) ∧ Aside0 (Below W1.heap.size W1 w'))
     case atStart => exact ⟨0, 0, rfl, ⟨rfl⟩, ⟨Nat.zero_add _⟩, ⟨Kd.R_nil _ _ _ _ _⟩, ⟨Below.refl _ _⟩⟩
     case round =>
      obtain ⟨j, x, rfl, EX, HK, RU, HB2⟩ := hrel
      have f1 := EX.out
      have f2 := HK.out
      have f3 := E1.out
      have f4 := M1.out
      cases gk with
      | zero =>
       have d3 : decide ((x : Int) < (z : Int)) = false := decide_eq_false (by omega)
       have d4 : decide (x < z) = false := decide_eq_false (by omega)
       have hu : (List.range j).map (upAt ro) = upL ro := by unfold upL; rw [← EZ.out, show z / 2 = j by omega]
       rw [hu] at RU
       obtain ⟨AU, cU, rfl⟩ := Kd.R_slice RU.out
       have RL0 := Aside0.mk (Kd.R_lower RU.out (below_size HB.out))
       have hlt := Kd.R_lt (Kd.S_R S9.out)
       have hbs := Kd.R_base RU.out
       have AK : Aside0 (∀ k, some k = (Value.slice AU (upL ro).length cU).ownBlock → True ∧ some k ≠ (Value.slice A9 n9 c9).ownBlock) := ⟨fun k hk => ⟨trivial, fun he => by have := hbs k hk.symm; have := hlt k he.symm; omega⟩⟩
       have SO := Aside0.mk (Kd.S_elder' S9.out hbs HB2.out)
       have RN := Aside0.mk (Kd.R_new' RU.out hlt)
       have HB3 := Aside0.mk (below_step HB.out HB2.out)
       have LL : Aside0 (((dn ++ [ro]).length + 1) * 24 ≤ 140737488355328) := ⟨by rw [List.length_append, List.length_singleton]; have := G12.out; omega⟩
       obtain ⟨zu, ezu⟩ : ∃ zu, zu = (upL ro).length := ⟨_, rfl⟩
       rw [← ezu] at RL0 AK SO RN ⊢
       have ZU := Aside0.mk ezu
       clear f1 f2 f3 f4 hu hlt hbs ezu
       go_wp2_with (first
          | ((with_reducible refine gate_builtin (b := .append) (xs := #[.tmp 58, .tmp 60]) rfl ?_); (try (refine gate_guard (by rfl) ?_; dsimp only)); at_builtin; refine Kd.S_append (Kd.slice 9 Kd.string) (w0 := w) w.heap.size rfl (.tmp 58) (.tmp 60) 27 22 (.slice none 0 0) 24 rfl Try.underlying27 info22 rfl (by decide) (by omega) (.slice A9 n9 c9) (dn ++ [ro]) (upL ro) [.slice AU zu cU] (fun _ => True) (fun k => some k = (Value.slice AU zu cU).ownBlock) rfl rfl ?aP ?aK ?aF ?aO ?aB ?aS ?aL ?_; (case aP => exact Kd.M_row (Kd.R_tight rfl RL0.out)); (case aK => exact AK.out); (case aB => exact HB3.out); (case aF => exact (fun _ _ => trivial)); (case aO => exact SO.out); (case aS => exact (below_size HB3.out)); (case aL => exact LL.out); intro v61 w13 ho hb hg hat; have S92 := Aside0.mk ho; have RN2 := Aside0.mk (Kd.R_mono (Kd.R_lower (Kd.R_after RN.out hg hat) (below_size HB.out)) (fun _ _ => trivial)); have HB4 := Aside0.mk hb; clear ho hb hg hat))
       go_roundg g
       case measure => exact Nat.lt_succ_self _
       case rel =>
        have hup := upL_len ro
        rw [← EZ.out] at hup
        exact ⟨upL ro, dn ++ [ro], ⟨by rw [List.append_assoc]; exact EQ.out⟩, ⟨by rw [hup, E1.out, EM.out]; omega⟩, ⟨upL_32 ro⟩, ⟨by rw [List.length_append, List.length_singleton]; have := DL.out; omega⟩, RN2, S92, HB4⟩
      | succ gj =>
       have d3 : decide ((x : Int) < (z : Int)) = true := decide_eq_true (by omega)
       have d4 : decide (x < z) = true := decide_eq_true (by omega)
       obtain ⟨y, ey⟩ : ∃ y : Nat, y = x + 1 := ⟨_, rfl⟩
       have w1 : wrap64 ((x : Int) + 1) = (y : Int) := by unfold wrap64; omega
       obtain ⟨x2, ex2⟩ : ∃ x2 : Nat, x2 = x + 2 := ⟨_, rfl⟩
       have w2 : wrap64 ((x : Int) + 2) = (x2 : Int) := by unfold wrap64; omega
       have p1 := eq_true (show 0 ≤ (x : Int) by omega)
       have q1 := eq_true (show (x : Int) < (z : Int) by omega)
       have p2 := eq_true (show 0 ≤ (y : Int) by omega)
       have q2 := eq_true (show (y : Int) < (z : Int) by omega)
       have hx := Aside0.mk (show x < ro.length by rw [← EZ.out]; omega)
       have hy := Aside0.mk (show y < ro.length by rw [← EZ.out]; omega)
       obtain ⟨xa, exa⟩ : ∃ xa, xa = ro.getD x ByteArray.empty := ⟨_, rfl⟩
       obtain ⟨xb, exb⟩ : ∃ xb, xb = ro.getD y ByteArray.empty := ⟨_, rfl⟩
       have C1 : ∀ w', Below W1.heap.size W1 w' → w'.cell? (AR.add x) = some (.string xa) ∧ w'.cell? (AR.add y) = some (.string xb) := fun w' hb => ⟨(cell_row (Kd.C_below HC6.out hb) x hx.out).trans (by rw [exa]), (cell_row (Kd.C_below HC6.out hb) y hy.out).trans (by rw [exb])⟩
       have CC := Aside0.mk C1
       have za : xa.size = 32 := by rw [exa, List.getD_eq_getElem?_getD, List.getElem?_eq_getElem hx.out]; exact R32.out _ (List.getElem_mem _)
       have zb : xb.size = 32 := by rw [exb, List.getD_eq_getElem?_getD, List.getElem?_eq_getElem hy.out]; exact R32.out _ (List.getElem_mem _)
       have NF := Aside0.mk (node_f 0 za zb)
       have ET : Aside0 ((List.range j).map (upAt ro) ++ [nodeS xa xb] = (List.range (j + 1)).map (upAt ro)) := ⟨by rw [List.range_succ, List.map_append, exa, exb, ey, f1]; rfl⟩
       have LL : Aside0 ((((List.range j).map (upAt ro)).length + 1) * 16 ≤ 140737488355328) := ⟨by rw [List.length_map, List.length_range]; omega⟩
       have EX2 := Aside0.mk (show x2 = 2 * (j + 1) by omega)
       have HK2 := Aside0.mk (show (j + 1) + gj = m by omega)
       clear f1 f2 f3 f4 C1 za zb exa exb ey ex2 EX HK
       go_wp2
       replace HB2 := Aside0.mk (below_drew1 HB2.out)
       replace RU := Aside0.mk (Kd.R_drew RU.out)
       refine start_ (n := 15) (S := fun w' => w'.cell? (AR.add x) = some (.string xa) ∧ w'.cell? (AR.add y) = some (.string xb)) (ds := [14]) #[false, false, false, false, false, false, false, false, false, false, false, false, false, false, false] (by kernel_rfl) rfl rfl (CC.out _ HB2.out) (fun hHeld => ?_); refine with_tabW rws17tab rws17bits (fun HT_ HW_ => ?_)
       generalize wr.drew = w4 at HB2 RU hHeld ⊢
       refine pure_ (i := 0) (N := some 44) (v := ?_) (a' := ?_) #[true, false, false, false, false, false, false, false, false, false, false, false, false, false, false] rfl rfl (any_of HT_.out (by kernel_rfl)) (fun _ _ _ h => h) (Or.inl ⟨by rfl, ?_⟩) ?_ ?_
       rotate_left
       · intro w'
         go_simp
         with_reducible rfl
       rotate_left
       · simp only [Act.put, List.setIfInBounds_toArray, List.set_cons_zero, List.set_cons_succ, i64_w, i32_w]
         rfl
       refine pure_ (i := 1) (N := some 45) (v := ?_) (a' := ?_) #[true, true, false, false, false, false, false, false, false, false, false, false, false, false, false] rfl rfl (any_of HT_.out (by kernel_rfl)) (fun _ _ _ h => h) (Or.inl ⟨by rfl, ?_⟩) ?_ ?_
       rotate_left
       · intro w'
         go_simp
         with_reducible rfl
       rotate_left
       · simp only [Act.put, List.setIfInBounds_toArray, List.set_cons_zero, List.set_cons_succ, i64_w, i32_w]
         rfl
       refine pure_ (i := 2) (N := some 46) (v := ?_) (a' := ?_) #[true, true, true, false, false, false, false, false, false, false, false, false, false, false, false] rfl rfl (any_of HT_.out (by kernel_rfl)) (fun _ _ _ h => h) (Or.inl ⟨by rfl, ?_⟩) ?_ ?_
       rotate_left
       · intro w'
         go_simp
         with_reducible rfl
       rotate_left
       · simp only [Act.put, List.setIfInBounds_toArray, List.set_cons_zero, List.set_cons_succ, i64_w, i32_w]
         rfl
       refine pure_ (i := 3) (N := some 47) (v := ?_) (a' := ?_) #[true, true, true, true, false, false, false, false, false, false, false, false, false, false, false] rfl rfl (any_of HT_.out (by kernel_rfl)) (fun _ _ _ h => h) (Or.inl ⟨by rfl, ?_⟩) ?_ ?_
       rotate_left
       · intro w'
         go_simp
         with_reducible rfl
       rotate_left
       · simp only [Act.put, List.setIfInBounds_toArray, List.set_cons_zero, List.set_cons_succ, i64_w, i32_w]
         rfl
       refine pure_ (i := 4) (N := some 48) (v := ?_) (a' := ?_) #[true, true, true, true, true, false, false, false, false, false, false, false, false, false, false] rfl rfl (any_of HT_.out (by kernel_rfl)) (fun _ _ _ h => h) (Or.inl ⟨by rfl, ?_⟩) ?_ ?_
       rotate_left
       · intro w'
         go_simp
         with_reducible rfl
       rotate_left
       · simp only [Act.put, List.setIfInBounds_toArray, List.set_cons_zero, List.set_cons_succ, i64_w, i32_w]
         rfl
       refine pure_ (i := 6) (N := some 50) (v := ?_) (a' := ?_) #[true, true, true, true, true, false, true, false, false, false, false, false, false, false, false] rfl rfl (any_of HT_.out (by kernel_rfl)) (fun _ _ _ h => h) (Or.inl ⟨by rfl, ?_⟩) ?_ ?_
       rotate_left
       · intro w'
         go_simp
         with_reducible rfl
       rotate_left
       · simp only [Act.put, List.setIfInBounds_toArray, List.set_cons_zero, List.set_cons_succ, i64_w, i32_w]
         rfl
       refine pure_ (i := 7) (N := some 51) (v := ?_) (a' := ?_) #[true, true, true, true, true, false, true, true, false, false, false, false, false, false, false] rfl rfl (any_of HT_.out (by kernel_rfl)) (fun _ _ _ h => h) (Or.inl ⟨by rfl, ?_⟩) ?_ ?_
       rotate_left
       · intro w'
         go_simp
         with_reducible rfl
       rotate_left
       · simp only [Act.put, List.setIfInBounds_toArray, List.set_cons_zero, List.set_cons_succ, i64_w, i32_w]
         rfl
       refine pure_ (i := 8) (N := some 52) (v := ?_) (a' := ?_) #[true, true, true, true, true, false, true, true, true, false, false, false, false, false, false] rfl rfl (any_of HT_.out (by kernel_rfl)) (fun _ _ _ h => h) (Or.inl ⟨by rfl, ?_⟩) ?_ ?_
       rotate_left
       · intro w'
         go_simp
         with_reducible rfl
       rotate_left
       · simp only [Act.put, List.setIfInBounds_toArray, List.set_cons_zero, List.set_cons_succ, i64_w, i32_w]
         rfl
       refine pure_ (i := 9) (N := some 53) (v := ?_) (a' := ?_) #[true, true, true, true, true, false, true, true, true, true, false, false, false, false, false] rfl rfl (any_of HT_.out (by kernel_rfl)) (fun _ _ _ h => h) (Or.inl ⟨by rfl, ?_⟩) ?_ ?_
       rotate_left
       · intro w'
         go_simp
         with_reducible rfl
       rotate_left
       · simp only [Act.put, List.setIfInBounds_toArray, List.set_cons_zero, List.set_cons_succ, i64_w, i32_w]
         rfl
       refine take_ (i := 5) (N := some 49) (v := ?_) (a' := ?_) #[true, true, true, true, true, true, true, true, true, true, false, false, false, false, false] rfl rfl (take_ofW HT_.out HW_.out (by kernel_rfl)) (fun _ _ _ h => h) (Or.inl ⟨by rfl, ?_⟩) hHeld ?_ ?_
       rotate_left
       · rintro w' ⟨s0, s1⟩
         go_simp
         with_reducible rfl
       rotate_left
       · simp only [Act.put, List.setIfInBounds_toArray, List.set_cons_zero, List.set_cons_succ, i64_w, i32_w]
         rfl
       refine take_ (i := 10) (N := some 54) (v := ?_) (a' := ?_) #[true, true, true, true, true, true, true, true, true, true, true, false, false, false, false] rfl rfl (take_ofW HT_.out HW_.out (by kernel_rfl)) (fun _ _ _ h => h) (Or.inl ⟨by rfl, ?_⟩) hHeld ?_ ?_
       rotate_left
       · rintro w' ⟨s0, s1⟩
         go_simp
         with_reducible rfl
       rotate_left
       · simp only [Act.put, List.setIfInBounds_toArray, List.set_cons_zero, List.set_cons_succ, i64_w, i32_w]
         rfl
       refine one_ (i := 11) (N := some 55) #[true, true, true, true, true, true, true, true, true, true, true, true, false, false, false] rfl rfl (one_of HT_.out (by kernel_rfl)) (by decide) (fun K hK => ?_)
       refine goes_ Try.func28 (by kernel_rfl) rfl #[.pointer (some ⟨gT, 0, none⟩), .string xa, .string xb] (by rfl) rfl rfl (by (try simp only [List.map_toArray, List.map_cons, List.map_nil]); first | done | rfl) ?_
       with_reducible refine (merkle_Node.calls (gT := gT) (hT := HT.out.below (below_step HB.out HB2.out)) 0 xa xb (nodeS xa xb) _ NF.out).mono ?_
       rintro e w5 ⟨rfl, hb⟩
       refine ⟨_, rfl, ?_⟩
       replace RU := kb RU hb
       replace HB2 := Aside0.mk (below_step HB2.out hb)
       clear hb
       refine hK.out _ _ (CC.out _ HB2.out) (fun hHeld => ?_)
       clear hK K
       refine norm_ (a' := ?_) ?_ ?_
       rotate_left
       · show Act.put _ (some 55) _ = _
         simp only [Act.put, List.setIfInBounds_toArray, List.set_cons_zero, List.set_cons_succ, i64_w, i32_w]
         rfl
       refine one_ (i := 12) (N := some 56) #[true, true, true, true, true, true, true, true, true, true, true, true, true, false, false] rfl rfl (one_of HT_.out (by kernel_rfl)) (by decide) (fun K hK => ?_)
       refine value_ (w1 := ?_) (v := ?_) (by rfl) rfl ?_ ?_
       rotate_left 2
       · go_simp
         constructor
         · rfl
         · rfl
       refine hK.out _ _ (CC.out _ (below_alloc HB2.out _)) (fun hHeld => ?_)
       clear hK K
       refine norm_ (a' := ?_) ?_ ?_
       rotate_left
       · show Act.put _ (some 56) _ = _
         simp only [Act.put, List.setIfInBounds_toArray, List.set_cons_zero, List.set_cons_succ, i64_w, i32_w]
         rfl
       refine one_ (i := 13) (N := some 57) #[true, true, true, true, true, true, true, true, true, true, true, true, true, true, false] rfl rfl (one_of HT_.out (by kernel_rfl)) (by decide) (fun K hK => ?_)
       refine Kd.R_append_step Kd.string (w0 := W1) W1.heap.size (by rfl) (.tmp 44) (.tmp 56) 22 9 (.string ⟨#[]⟩) 16 rfl Try.underlying22 info9 rfl (by decide) (by omega) _ ((List.range j).map (upAt ro)) (nodeS xa xb) [.string (nodeS xa xb)] (fun _ => True) (fun _ => False) rfl rfl ?aP (fun _ hk => hk.elim) ?aF ?aO ?aB ?aS ?aL ?_
       (case aP => exact rfl)
       (case aB => exact HB2.out)
       (case aF => exact (fun _ _ => trivial))
       (case aO => exact RU.out)
       (case aS => exact (below_size HB2.out))
       (case aL => exact LL.out)
       intro v57 w8 ho hb hg hat
       rw [ET.out] at ho
       replace RU := Aside0.mk ho
       replace HB2 := Aside0.mk hb
       clear ho hb hg hat
       refine hK.out _ _ (CC.out _ HB2.out) (fun hHeld => ?_)
       clear hK K
       refine norm_ (a' := ?_) ?_ ?_
       rotate_left
       · show Act.put _ (some 57) _ = _
         simp only [Act.put, List.setIfInBounds_toArray, List.set_cons_zero, List.set_cons_succ, i64_w, i32_w]
         rfl
       refine pure_ (i := 14) (N := some 10) (v := ?_) (a' := ?_) #[true, true, true, true, true, true, true, true, true, true, true, true, true, true, true] rfl rfl (any_of HT_.out (by kernel_rfl)) (fun _ _ _ h => h) (Or.inl ⟨by rfl, ?_⟩) ?_ ?_
       rotate_left
       · intro w'
         go_simp
         with_reducible rfl
       rotate_left
       · simp only [Act.put, List.setIfInBounds_toArray, List.set_cons_zero, List.set_cons_succ, i64_w, i32_w]
         rfl
       refine done_ (done_of HT_.out (by kernel_rfl)) ?_
       clear HT_ HW_
       go_wp2
       go_roundg gj
       case measure => exact Nat.lt_succ_self _
       case rel => exact ⟨j + 1, x2, by first | rfl | (simp; done) | (simp [*]; done), EX2, HK2, RU, HB2⟩
theorem merkle_Rows.calls (a0 : Int) (A1 : Option Addr) (c1 : Nat) (l1 : List ByteArray) (r1 : List (List ByteArray)) (r2 : Int) (w : World) (gT : Nat) (hT : TabAt w gT) (hr1 : Kd.C Kd.string w A1 l1.length l1) (hc1 : l1.length ≤ c1) (h : merkle_Rows.f a0 l1 = some (r1, r2)) :
  Calls Try.prog 12 #[.pointer (some ⟨gT, 0, none⟩), .slice A1 l1.length c1] w fun e w' => ∃ v0 : Value, e = .returned (.tuple #[v0, .int .i64 r2]) ∧ Kd.S (Kd.slice 9 Kd.string) 22 w' w.heap.size (fun _ => True) v0 r1 ∧ Below w.heap.size w w' := by
 unfold merkle_Rows.f at h
 cases hn : heightN l1.length with
 | none =>
   rw [hn] at h
   obtain ⟨rfl, rfl⟩ : ([] : List (List ByteArray)) = r1 ∧ (6 : Int) = r2 := by simpa using h
   refine (rows_none A1 c1 l1 w gT hn).mono ?_
   rintro e w' ⟨he, hb⟩
   exact ⟨_, he, Kd.S_nil _ _ _ _ _, hb⟩
 | some k =>
   rw [hn] at h
   obtain ⟨hk, hl⟩ := heightN_some hn
   by_cases hz : (l1.all fun t => decide (t.size ≤ 1000000)) = true
   · simp only [if_pos hz] at h
     obtain ⟨rfl, rfl⟩ : rowsL k (l1.map leafS) = r1 ∧ (0 : Int) = r2 := by injection h with h; injection h with h1 h2; exact ⟨h1, h2⟩
     exact rows_some A1 c1 l1 w gT hT hr1 hc1 k hk hl (fun t ht => of_decide_eq_true (List.all_eq_true.1 hz t ht))
   · simp only [if_neg hz] at h
     cases h
end Go.Proofs.Ytmibjgjgfombaaa.P
