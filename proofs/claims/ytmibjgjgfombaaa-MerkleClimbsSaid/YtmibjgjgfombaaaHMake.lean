/- A byte's tables are made (perm.Make). Conditions: those that the theorem names. Printed by gen_make.py. -/
import Derived.Test.YtmibjgjgfombaaaHTab
set_option linter.unusedVariables false
set_option linter.unusedSimpArgs false
set_option maxRecDepth 100000
namespace Go.Proofs.Ytmibjgjgfombaaa.P
open Go.RowKit Go.Proofs.YtmibjgjgfombaaaX Go.Proofs.YtmibjgjgfombaaaW.PrintWords Go.Proofs.YtmibjgjgfombaaaW.PrintLast Go.Proofs.YtmibjgjgfombaaaW.PrintMore
def make6T : Bool × List (List Nat × List Nat) := (true, [([], []), ([], []), ([], []), ([2], [2]), ([0], [0]), ([4], [4]), ([5, 1, 0, 1, 2, 3], [1, 5]), ([6, 3, 3, 0, 1, 2, 3], [3, 6])])
def make6B : List Nat := [0, 0, 0, 4, 1, 17, 63, 127]
theorem make6tab : rtab .any (opsOf Try.f11 6) = make6T := by kernel_rfl
theorem make6bits : waitsOk make6T.2 make6B = true := by kernel_rfl
def make7T : Bool × List (List Nat × List Nat) := (true, [([], []), ([], []), ([], []), ([1], [1]), ([3], [3]), ([4, 2], [2, 4]), ([5], [5]), ([], []), ([0], [0]), ([8], [8]), ([9, 6, 0, 1, 2, 3, 4, 5, 6, 7], [6, 9]), ([10, 7, 0, 1, 2, 3, 4, 5, 6, 7], [7, 10])])
def make7B : List Nat := [0, 0, 0, 2, 10, 30, 62, 0, 1, 257, 1023, 2047]
theorem make7tab : rtab .any (opsOf Try.f11 7) = make7T := by kernel_rfl
theorem make7bits : waitsOk make7T.2 make7B = true := by kernel_rfl
def make11T : Bool × List (List Nat × List Nat) := (true, [([], []), ([], []), ([], []), ([], []), ([], []), ([3, 4], [3, 4]), ([0], [0]), ([6], [6]), ([7, 1], [1, 7]), ([8, 2, 0, 1, 2, 3, 4, 5], [2, 8]), ([9, 5, 5, 0, 1, 2, 3, 4, 5], [5, 9])])
def make11B : List Nat := [0, 0, 0, 0, 0, 24, 1, 65, 195, 511, 1023]
theorem make11tab : rtab .any (opsOf Try.f11 11) = make11T := by kernel_rfl
theorem make11bits : waitsOk make11T.2 make11B = true := by kernel_rfl
theorem zero_tab (w : World) : Sem.run Try.prog (zeroValue 67) w = .ok (.agg zTab) w := by
  have hi := zTab_info
  cases h : Try.prog.info? 67 with
  | none => rw [h] at hi; cases hi
  | some t =>
    rw [h] at hi
    simp only [Option.map_some, Option.some.injEq, Prod.mk.injEq] at hi
    unfold zeroValue
    simp [typeInfo, h, hi.1]
attribute [local go_sem] zero_tab
theorem mix_index {a : Act} {o : Oper} {W : World} {j : Nat} (hj : j < 8) (x y : Operand) (ho : o.op = .index 69 x y) (hx : a.eval x = .agg #[.int .u8 2, .int .u8 2, .int .u8 3, .int .u8 4, .int .u8 5, .int .u8 3, .int .u8 5, .int .u8 7]) (hy : a.eval y = .int .i64 (j : Int)) : (execOp a.eval o).run Try.prog W = .ok (.value (.int .u8 ((mixL[j]'hj : Nat) : Int))) W := by
  have c : j = 0 ∨ j = 1 ∨ j = 2 ∨ j = 3 ∨ j = 4 ∨ j = 5 ∨ j = 6 ∨ j = 7 := by omega
  unfold execOp
  simp only [ho, hx, hy]
  rcases c with rfl | rfl | rfl | rfl | rfl | rfl | rfl | rfl
  all_goals go_simp
  all_goals rfl
set_option maxHeartbeats 8000000 in
set_option maxRecDepth 100000 in
theorem make_calls (k : Nat) (bx : Nat → Nat) (ml : Nat → Nat → Nat) (hbx : ∀ b : Nat, b < 256 → perm_box.f k (b : Int) = some (bx b : Int)) (hml : ∀ b q : Nat, b < 256 → q ∈ mixL → perm_mul.f k (q : Int) (b : Int) = some (ml q b : Int)) (hb8 : ∀ b, b < 256 → bx b < 256) (hinj : ∀ b c, b < 256 → c < 256 → bx b = bx c → b = c) (w : World) :
  Calls Try.prog 11 #[] w fun e w' => ∃ g cs, e = .returned (.pointer (some ⟨g, 0, none⟩)) ∧ w.heap.size ≤ g ∧ w'.heap[g]? = some (.cells cs 67 (0, 0)) ∧ Tab bx ml 256 256 256 0 cs ∧ Below w.heap.size w w' := by
 have HB := Aside0.mk (Below.refl w.heap.size w)
 have HBX := Aside0.mk hbx
 have HML := Aside0.mk hml
 have HB8 := Aside0.mk hb8
 have HINJ := Aside0.mk hinj
 clear hbx hml hb8 hinj
 go_enter Try.func11, Try.ntmps11
 go_wp2_with (first
  | ((with_reducible refine gate_dst (N := 7) rfl ?_); refine box_event ?hg (N := 7) ?hd (cs := zTab) (t := 67) ?hr ?_; (case hd => rfl); (case hg => rfl); (case hr => first | (go_simp; done) | (go_simp; rfl)); intro g hg w1 hbox hb; have HC := Aside0.mk hbox; have GE := ge hg HB; replace HB := bh HB hb; clear hb hbox hg))
 go_loopg [8] 256 (fun kq v8 w' => ∃ (i : Nat) (cs : Array Value), v8 = .int .i64 (i : Int) ∧ Aside0 (i + kq = 256) ∧ Aside0 (w'.heap[g]? = some (.cells cs 67 (0, 0))) ∧ Aside0 (Tab bx ml i i i 0 cs) ∧ Aside0 (Below w.heap.size w w'))
 case atStart => exact ⟨0, _, rfl, ⟨rfl⟩, HC, ⟨Tab.start bx ml⟩, HB⟩
 case round =>
  clear HC HB
  obtain ⟨i, cs, rfl, HM, HC, HT, HB⟩ := hrel
  cases gk with
  | zero =>
   obtain rfl : i = 256 := by have := HM.out; omega
   go_wp2
   go_ret
   exact ⟨g, rfl, GE.out, cs, HC.out, HT.out, HB.out⟩
  | succ k2 =>
   have hi : i < 256 := by have := HM.out; omega
   have HI := Aside0.mk hi
   have d0 : decide ((i : Int) < 256) = true := decide_eq_true (by omega)
   have d1 : decide (i < 256) = true := decide_eq_true hi
   have m0 : (i : Int) % 256 = (i : Int) := by omega
   have p0 : ((i : Int) < 256) = True := eq_true (by omega)
   clear hi
   go_wp2
   replace HC := Aside0.mk (blk_drew HC.out)
   replace HB := Aside0.mk (below_drew1 HB.out)
   refine start_ (n := 8) (S := fun w' => ∃ cs, w'.heap[g]? = some (.cells cs 67 (0, 0))) (ds := [7]) #[false, false, false, false, false, false, false, false] (by kernel_rfl) rfl rfl ⟨_, HC.out⟩ (fun hHeld => ?_); refine with_tabW make6tab make6bits (fun HT_ HW_ => ?_)
   generalize wr.drew = w4 at HC HB hHeld ⊢
   refine pure_ (i := 0) (N := some 13) (v := ?_) (a' := ?_) #[true, false, false, false, false, false, false, false] rfl rfl (any_of HT_.out (by kernel_rfl)) (fun _ _ _ h => h) (Or.inl ⟨by rfl, ?_⟩) ?_ ?_
   rotate_left
   · intro w'
     go_simp
     with_reducible rfl
   rotate_left
   · simp only [Act.put, List.setIfInBounds_toArray, List.set_cons_zero, List.set_cons_succ, i64_w, i32_w]
     rfl
   refine pure_ (i := 1) (N := some 14) (v := ?_) (a' := ?_) #[true, true, false, false, false, false, false, false] rfl rfl (any_of HT_.out (by kernel_rfl)) (fun _ _ _ h => h) (Or.inl ⟨by rfl, ?_⟩) ?_ ?_
   rotate_left
   · intro w'
     go_simp
     with_reducible rfl
   rotate_left
   · simp only [Act.put, List.setIfInBounds_toArray, List.set_cons_zero, List.set_cons_succ, i64_w, i32_w]
     rfl
   refine pure_ (i := 2) (N := some 15) (v := ?_) (a' := ?_) #[true, true, true, false, false, false, false, false] rfl rfl (any_of HT_.out (by kernel_rfl)) (fun _ _ _ h => h) (Or.inl ⟨by rfl, ?_⟩) ?_ ?_
   rotate_left
   · intro w'
     go_simp
     with_reducible rfl
   rotate_left
   · simp only [Act.put, List.setIfInBounds_toArray, List.set_cons_zero, List.set_cons_succ, i64_w, i32_w]
     rfl
   refine pure_ (i := 4) (N := some 17) (v := ?_) (a' := ?_) #[true, true, true, false, true, false, false, false] rfl rfl (any_of HT_.out (by kernel_rfl)) (fun _ _ _ h => h) (Or.inl ⟨by rfl, ?_⟩) ?_ ?_
   rotate_left
   · intro w'
     go_simp
     with_reducible rfl
   rotate_left
   · simp only [Act.put, List.setIfInBounds_toArray, List.set_cons_zero, List.set_cons_succ, i64_w, i32_w]
     rfl
   refine pure_ (i := 5) (N := some 18) (v := ?_) (a' := ?_) #[true, true, true, false, true, true, false, false] rfl rfl (any_of HT_.out (by kernel_rfl)) (fun _ _ _ h => h) (Or.inl ⟨by rfl, ?_⟩) ?_ ?_
   rotate_left
   · intro w'
     go_simp
     with_reducible rfl
   rotate_left
   · simp only [Act.put, List.setIfInBounds_toArray, List.set_cons_zero, List.set_cons_succ, i64_w, i32_w]
     rfl
   refine one_ (i := 3) (N := some 16) #[true, true, true, true, true, true, false, false] rfl rfl (one_of HT_.out (by kernel_rfl)) (by decide) (fun K hK => ?_)
   refine goes_ Try.func30 (by kernel_rfl) rfl #[.int .u8 (i : Int)] (by rfl) rfl rfl (by (try simp only [List.map_toArray, List.map_cons, List.map_nil]); first | done | rfl) ?_
   with_reducible refine (perm_box.calls k (i : Int) (bx i : Int) _ (HBX.out i HI.out)).mono ?_
   rintro e w18 ⟨rfl, hb⟩
   refine ⟨_, rfl, ?_⟩
   replace HC := bb HC hb
   replace HB := bh HB hb
   clear hb
   refine hK.out _ _ ⟨_, HC.out⟩ (fun hHeld => ?_)
   clear hK K
   refine norm_ (a' := ?_) ?_ ?_
   rotate_left
   · show Act.put _ (some 16) _ = _
     simp only [Act.put, List.setIfInBounds_toArray, List.set_cons_zero, List.set_cons_succ, i64_w, i32_w]
     rfl
   refine pure_ (i := 6) (N := some 19) (v := ?_) (a' := ?_) #[true, true, true, true, true, true, true, false] rfl rfl (any_of HT_.out (by kernel_rfl)) (fun _ _ _ h => h) (Or.inl ⟨by rfl, ?_⟩) ?_ ?_
   rotate_left
   · intro w'
     go_simp
     with_reducible rfl
   rotate_left
   · simp only [Act.put, List.setIfInBounds_toArray, List.set_cons_zero, List.set_cons_succ, i64_w, i32_w]
     rfl
   refine last_ (i := 7) (N := none) #[true, true, true, true, true, true, true, true] rfl rfl (one_of HT_.out (by kernel_rfl)) (by decide) (fun K hK => ?_)
   obtain ⟨vo, hvo⟩ := HT.out.cell i (by have := HI.out; omega)
   have hc := (blk_cell HC.out i).trans hvo
   have hf := blk_frozen HC.out i
   refine skip_ (w1 := ?_) (by rfl) rfl ?_ ?_
   rotate_left
   · go_simp
     rfl
   clear hc hf
   have C3 := Aside0.mk (blk_put HC.out i (.int .u8 (bx i : Int)) rfl)
   have T3 := Aside0.mk (HT.out.set_box HI.out)
   have CB := Aside0.mk (below_set (j := i) (v := .int .u8 (bx i : Int)) HB.out GE.out)
   refine hK.out _ _ ?_
   clear hK K HC HB HT hvo vo
   generalize w18.setCell ⟨g, i, none⟩ (.int .u8 (bx i : Int)) = w5 at C3 CB ⊢
   generalize cs.setIfInBounds i (.int .u8 (bx i : Int)) = cs5 at C3 T3
   rename_i HT_ HW_
   refine done_ (done_of HT_.out (by kernel_rfl)) ?_
   clear HT_ HW_
   have HC := C3
   have HB := CB
   have HT := T3
   clear C3 CB T3
   have p1 : ((bx i : Int) < 256) = True := eq_true (by have := HB8.out i HI.out; omega)
   go_wp2
   replace HC := Aside0.mk (blk_drew HC.out)
   replace HB := Aside0.mk (below_drew1 HB.out)
   refine start_ (n := 12) (S := fun w' => w'.cell? ⟨g, i, none⟩ = some (.int .u8 (bx i : Int))) (ds := [11]) #[false, false, false, false, false, false, false, false, false, false, false, false] (by kernel_rfl) rfl rfl ((blk_cell HC.out i).trans (HT.out.box i (Nat.lt_succ_self i))) (fun hHeld => ?_); refine with_tabW make7tab make7bits (fun HT_ HW_ => ?_)
   generalize w5.drew = w6 at HC HB hHeld ⊢
   refine pure_ (i := 0) (N := some 20) (v := ?_) (a' := ?_) #[true, false, false, false, false, false, false, false, false, false, false, false] rfl rfl (any_of HT_.out (by kernel_rfl)) (fun _ _ _ h => h) (Or.inl ⟨by rfl, ?_⟩) ?_ ?_
   rotate_left
   · intro w'
     go_simp
     with_reducible rfl
   rotate_left
   · simp only [Act.put, List.setIfInBounds_toArray, List.set_cons_zero, List.set_cons_succ, i64_w, i32_w]
     rfl
   refine pure_ (i := 1) (N := some 21) (v := ?_) (a' := ?_) #[true, true, false, false, false, false, false, false, false, false, false, false] rfl rfl (any_of HT_.out (by kernel_rfl)) (fun _ _ _ h => h) (Or.inl ⟨by rfl, ?_⟩) ?_ ?_
   rotate_left
   · intro w'
     go_simp
     with_reducible rfl
   rotate_left
   · simp only [Act.put, List.setIfInBounds_toArray, List.set_cons_zero, List.set_cons_succ, i64_w, i32_w]
     rfl
   refine pure_ (i := 2) (N := some 22) (v := ?_) (a' := ?_) #[true, true, true, false, false, false, false, false, false, false, false, false] rfl rfl (any_of HT_.out (by kernel_rfl)) (fun _ _ _ h => h) (Or.inl ⟨by rfl, ?_⟩) ?_ ?_
   rotate_left
   · intro w'
     go_simp
     with_reducible rfl
   rotate_left
   · simp only [Act.put, List.setIfInBounds_toArray, List.set_cons_zero, List.set_cons_succ, i64_w, i32_w]
     rfl
   refine pure_ (i := 3) (N := some 23) (v := ?_) (a' := ?_) #[true, true, true, true, false, false, false, false, false, false, false, false] rfl rfl (any_of HT_.out (by kernel_rfl)) (fun _ _ _ h => h) (Or.inl ⟨by rfl, ?_⟩) ?_ ?_
   rotate_left
   · intro w'
     go_simp
     with_reducible rfl
   rotate_left
   · simp only [Act.put, List.setIfInBounds_toArray, List.set_cons_zero, List.set_cons_succ, i64_w, i32_w]
     rfl
   refine pure_ (i := 4) (N := some 24) (v := ?_) (a' := ?_) #[true, true, true, true, true, false, false, false, false, false, false, false] rfl rfl (any_of HT_.out (by kernel_rfl)) (fun _ _ _ h => h) (Or.inl ⟨by rfl, ?_⟩) ?_ ?_
   rotate_left
   · intro w'
     go_simp
     with_reducible rfl
   rotate_left
   · simp only [Act.put, List.setIfInBounds_toArray, List.set_cons_zero, List.set_cons_succ, i64_w, i32_w]
     rfl
   refine pure_ (i := 5) (N := some 25) (v := ?_) (a' := ?_) #[true, true, true, true, true, true, false, false, false, false, false, false] rfl rfl (any_of HT_.out (by kernel_rfl)) (fun _ _ _ h => h) (Or.inl ⟨by rfl, ?_⟩) ?_ ?_
   rotate_left
   · intro w'
     go_simp
     with_reducible rfl
   rotate_left
   · simp only [Act.put, List.setIfInBounds_toArray, List.set_cons_zero, List.set_cons_succ, i64_w, i32_w]
     rfl
   refine take_ (i := 6) (N := some 26) (v := ?_) (a' := ?_) #[true, true, true, true, true, true, true, false, false, false, false, false] rfl rfl (take_ofW HT_.out HW_.out (by kernel_rfl)) (fun _ _ _ h => h) (Or.inl ⟨by rfl, ?_⟩) hHeld ?_ ?_
   rotate_left
   · rintro w' s0
     go_simp
     with_reducible rfl
   rotate_left
   · simp only [Act.put, List.setIfInBounds_toArray, List.set_cons_zero, List.set_cons_succ, i64_w, i32_w]
     rfl
   refine pure_ (i := 7) (N := some 27) (v := ?_) (a' := ?_) #[true, true, true, true, true, true, true, true, false, false, false, false] rfl rfl (any_of HT_.out (by kernel_rfl)) (fun _ _ _ h => h) (Or.inl ⟨by rfl, ?_⟩) ?_ ?_
   rotate_left
   · intro w'
     go_simp
     with_reducible rfl
   rotate_left
   · simp only [Act.put, List.setIfInBounds_toArray, List.set_cons_zero, List.set_cons_succ, i64_w, i32_w]
     rfl
   refine pure_ (i := 8) (N := some 28) (v := ?_) (a' := ?_) #[true, true, true, true, true, true, true, true, true, false, false, false] rfl rfl (any_of HT_.out (by kernel_rfl)) (fun _ _ _ h => h) (Or.inl ⟨by rfl, ?_⟩) ?_ ?_
   rotate_left
   · intro w'
     go_simp
     with_reducible rfl
   rotate_left
   · simp only [Act.put, List.setIfInBounds_toArray, List.set_cons_zero, List.set_cons_succ, i64_w, i32_w]
     rfl
   refine pure_ (i := 9) (N := some 29) (v := ?_) (a' := ?_) #[true, true, true, true, true, true, true, true, true, true, false, false] rfl rfl (any_of HT_.out (by kernel_rfl)) (fun _ _ _ h => h) (Or.inl ⟨by rfl, ?_⟩) ?_ ?_
   rotate_left
   · intro w'
     go_simp
     with_reducible rfl
   rotate_left
   · simp only [Act.put, List.setIfInBounds_toArray, List.set_cons_zero, List.set_cons_succ, i64_w, i32_w]
     rfl
   refine pure_ (i := 10) (N := some 30) (v := ?_) (a' := ?_) #[true, true, true, true, true, true, true, true, true, true, true, false] rfl rfl (any_of HT_.out (by kernel_rfl)) (fun _ _ _ h => h) (Or.inl ⟨by rfl, ?_⟩) ?_ ?_
   rotate_left
   · intro w'
     go_simp
     with_reducible rfl
   rotate_left
   · simp only [Act.put, List.setIfInBounds_toArray, List.set_cons_zero, List.set_cons_succ, i64_w, i32_w]
     rfl
   refine last_ (i := 11) (N := none) #[true, true, true, true, true, true, true, true, true, true, true, true] rfl rfl (one_of HT_.out (by kernel_rfl)) (by decide) (fun K hK => ?_)
   obtain ⟨vo, hvo⟩ := HT.out.cell (256 + bx i) (by have := HB8.out i HI.out; omega)
   have hc := (blk_cell HC.out (256 + bx i)).trans hvo
   have hf := blk_frozen HC.out (256 + bx i)
   refine skip_ (w1 := ?_) (by rfl) rfl ?_ ?_
   rotate_left
   · go_simp
     rfl
   clear hc hf
   have C3 := Aside0.mk (blk_put HC.out (256 + bx i) (.int .u8 (i : Int)) rfl)
   have T3 := Aside0.mk (HT.out.set_back HI.out HB8.out HINJ.out)
   have CB := Aside0.mk (below_set (j := 256 + bx i) (v := .int .u8 (i : Int)) HB.out GE.out)
   refine hK.out _ _ ?_
   clear hK K HC HB HT hvo vo
   generalize w6.setCell ⟨g, 256 + bx i, none⟩ (.int .u8 (i : Int)) = w7 at C3 CB ⊢
   generalize cs5.setIfInBounds (256 + bx i) (.int .u8 (i : Int)) = cs7 at C3 T3
   rename_i HT_ HW_
   refine done_ (done_of HT_.out (by kernel_rfl)) ?_
   clear HT_ HW_
   have HC := C3
   have HB := CB
   have HT := T3
   clear C3 CB T3 p1
   go_wp2_with (first
     | ((with_reducible refine gate_callee (f := 31) rfl ?_); refine goesL_ (some 31) rfl rfl Try.func31 (by kernel_rfl) rfl #[] rfl (by (try simp only [List.map_toArray, List.map_cons, List.map_nil]); first | done | rfl) ?_; (with_reducible refine (perm_mixing.calls 2 2 3 4 5 3 5 7 _ rfl).mono ?_); rintro e w11 ⟨rfl, hb⟩; refine ⟨_, rfl, ?_⟩; replace HC := bb HC hb; replace HB := bh HB hb; clear hb)
     | (go_at_call 31; (with_reducible refine (perm_mixing.calls 2 2 3 4 5 3 5 7 _ rfl).mono ?_); rintro e w11 ⟨rfl, hb⟩; replace HC := bb HC hb; replace HB := bh HB hb; clear hb))
   go_loopg [32] 8 (fun kq v32 w' => ∃ (j : Nat) (cs : Array Value), v32 = .int .i64 (j : Int) ∧ Aside0 (j + kq = 8) ∧ Aside0 (w'.heap[g]? = some (.cells cs 67 (0, 0))) ∧ Aside0 (Tab bx ml (i + 1) (i + 1) i j cs) ∧ Aside0 (Below w.heap.size w w'))
   case atStart => exact ⟨0, _, rfl, ⟨rfl⟩, HC, HT, HB⟩
   case round =>
    clear HC HB HT
    obtain ⟨j, cs, rfl, HJ, HC, HT, HB⟩ := hrel
    cases gk with
    | zero =>
     obtain rfl : j = 8 := by have := HJ.out; omega
     go_wp2
     go_roundg k2
     case measure => omega
     case rel => exact ⟨i + 1, cs, rfl, ⟨by have := HM.out; omega⟩, HC, ⟨HT.out.round⟩, HB⟩
    | succ k3 =>
     have hj : j < 8 := by have := HJ.out; omega
     have HJ8 := Aside0.mk hj
     have d2 : decide ((j : Int) < 8) = true := decide_eq_true (by omega)
     have d3 : decide (j < 8) = true := decide_eq_true hj
     have q0 : ((j : Int) < 8) = True := eq_true (by omega)
     clear hj
     have hq : mixL[j]'HJ8.out ∈ mixL := List.getElem_mem HJ8.out
     obtain ⟨q, eq⟩ : ∃ q : Nat, q = mixL[j]'HJ8.out := ⟨_, rfl⟩
     have HQ := Aside0.mk eq
     have hq7 : q ∈ mixL := eq ▸ hq
     have HQM := Aside0.mk hq7
     have q1 : ((q : Int) < 8) = True := eq_true (by have := (mixL_le hq7).2.1; omega)
     clear hq hq7 eq
     go_wp2_with (first
      | ((with_reducible refine gate_dst (N := 34) rfl ?_); refine Kd.event_run (v := .int .u8 (q : Int)) rfl (HQ.out ▸ mix_index HJ8.out _ _ rfl rfl rfl) ?_))
   
     replace HC := Aside0.mk (blk_drew HC.out)
     replace HB := Aside0.mk (below_drew1 HB.out)
     refine start_ (n := 11) (S := fun w' => ∃ cs, w'.heap[g]? = some (.cells cs 67 (0, 0))) (ds := [10]) #[false, false, false, false, false, false, false, false, false, false, false] (by kernel_rfl) rfl rfl ⟨_, HC.out⟩ (fun hHeld => ?_); refine with_tabW make11tab make11bits (fun HT_ HW_ => ?_)
     generalize wr.drew = w8 at HC HB hHeld ⊢
     refine pure_ (i := 0) (N := some 35) (v := ?_) (a' := ?_) #[true, false, false, false, false, false, false, false, false, false, false] rfl rfl (any_of HT_.out (by kernel_rfl)) (fun _ _ _ h => h) (Or.inl ⟨by rfl, ?_⟩) ?_ ?_
     rotate_left
     · intro w'
       go_simp
       with_reducible rfl
     rotate_left
     · simp only [Act.put, List.setIfInBounds_toArray, List.set_cons_zero, List.set_cons_succ, i64_w, i32_w]
       rfl
     refine pure_ (i := 1) (N := some 36) (v := ?_) (a' := ?_) #[true, true, false, false, false, false, false, false, false, false, false] rfl rfl (any_of HT_.out (by kernel_rfl)) (fun _ _ _ h => h) (Or.inl ⟨by rfl, ?_⟩) ?_ ?_
     rotate_left
     · intro w'
       go_simp
       with_reducible rfl
     rotate_left
     · simp only [Act.put, List.setIfInBounds_toArray, List.set_cons_zero, List.set_cons_succ, i64_w, i32_w]
       rfl
     refine pure_ (i := 2) (N := some 37) (v := ?_) (a' := ?_) #[true, true, true, false, false, false, false, false, false, false, false] rfl rfl (any_of HT_.out (by kernel_rfl)) (fun _ _ _ h => h) (Or.inl ⟨by rfl, ?_⟩) ?_ ?_
     rotate_left
     · intro w'
       go_simp
       with_reducible rfl
     rotate_left
     · simp only [Act.put, List.setIfInBounds_toArray, List.set_cons_zero, List.set_cons_succ, i64_w, i32_w]
       rfl
     refine pure_ (i := 3) (N := some 38) (v := ?_) (a' := ?_) #[true, true, true, true, false, false, false, false, false, false, false] rfl rfl (any_of HT_.out (by kernel_rfl)) (fun _ _ _ h => h) (Or.inl ⟨by rfl, ?_⟩) ?_ ?_
     rotate_left
     · intro w'
       go_simp
       with_reducible rfl
     rotate_left
     · simp only [Act.put, List.setIfInBounds_toArray, List.set_cons_zero, List.set_cons_succ, i64_w, i32_w]
       rfl
     refine pure_ (i := 4) (N := some 39) (v := ?_) (a' := ?_) #[true, true, true, true, true, false, false, false, false, false, false] rfl rfl (any_of HT_.out (by kernel_rfl)) (fun _ _ _ h => h) (Or.inl ⟨by rfl, ?_⟩) ?_ ?_
     rotate_left
     · intro w'
       go_simp
       with_reducible rfl
     rotate_left
     · simp only [Act.put, List.setIfInBounds_toArray, List.set_cons_zero, List.set_cons_succ, i64_w, i32_w]
       rfl
     refine pure_ (i := 6) (N := some 41) (v := ?_) (a' := ?_) #[true, true, true, true, true, false, true, false, false, false, false] rfl rfl (any_of HT_.out (by kernel_rfl)) (fun _ _ _ h => h) (Or.inl ⟨by rfl, ?_⟩) ?_ ?_
     rotate_left
     · intro w'
       go_simp
       with_reducible rfl
     rotate_left
     · simp only [Act.put, List.setIfInBounds_toArray, List.set_cons_zero, List.set_cons_succ, i64_w, i32_w]
       rfl
     refine pure_ (i := 7) (N := some 42) (v := ?_) (a' := ?_) #[true, true, true, true, true, false, true, true, false, false, false] rfl rfl (any_of HT_.out (by kernel_rfl)) (fun _ _ _ h => h) (Or.inl ⟨by rfl, ?_⟩) ?_ ?_
     rotate_left
     · intro w'
       go_simp
       with_reducible rfl
     rotate_left
     · simp only [Act.put, List.setIfInBounds_toArray, List.set_cons_zero, List.set_cons_succ, i64_w, i32_w]
       rfl
     refine pure_ (i := 8) (N := some 43) (v := ?_) (a' := ?_) #[true, true, true, true, true, false, true, true, true, false, false] rfl rfl (any_of HT_.out (by kernel_rfl)) (fun _ _ _ h => h) (Or.inl ⟨by rfl, ?_⟩) ?_ ?_
     rotate_left
     · intro w'
       go_simp
       with_reducible rfl
     rotate_left
     · simp only [Act.put, List.setIfInBounds_toArray, List.set_cons_zero, List.set_cons_succ, i64_w, i32_w]
       rfl
     refine one_ (i := 5) (N := some 40) #[true, true, true, true, true, true, true, true, true, false, false] rfl rfl (one_of HT_.out (by kernel_rfl)) (by decide) (fun K hK => ?_)
     refine goes_ Try.func32 (by kernel_rfl) rfl #[.int .u8 (q : Int), .int .u8 (i : Int)] (by rfl) rfl rfl (by (try simp only [List.map_toArray, List.map_cons, List.map_nil]); first | done | rfl) ?_
     with_reducible refine (perm_mul.calls k (q : Int) (i : Int) (ml q i : Int) _ (HML.out i q HI.out HQM.out)).mono ?_
     rintro e w19 ⟨rfl, hb⟩
     refine ⟨_, rfl, ?_⟩
     replace HC := bb HC hb
     replace HB := bh HB hb
     clear hb
     refine hK.out _ _ ⟨_, HC.out⟩ (fun hHeld => ?_)
     clear hK K
     refine norm_ (a' := ?_) ?_ ?_
     rotate_left
     · show Act.put _ (some 40) _ = _
       simp only [Act.put, List.setIfInBounds_toArray, List.set_cons_zero, List.set_cons_succ, i64_w, i32_w]
       rfl
     refine pure_ (i := 9) (N := some 44) (v := ?_) (a' := ?_) #[true, true, true, true, true, true, true, true, true, true, false] rfl rfl (any_of HT_.out (by kernel_rfl)) (fun _ _ _ h => h) (Or.inl ⟨by rfl, ?_⟩) ?_ ?_
     rotate_left
     · intro w'
       go_simp
       with_reducible rfl
     rotate_left
     · simp only [Act.put, List.setIfInBounds_toArray, List.set_cons_zero, List.set_cons_succ, i64_w, i32_w]
       rfl
     refine last_ (i := 10) (N := none) #[true, true, true, true, true, true, true, true, true, true, true] rfl rfl (one_of HT_.out (by kernel_rfl)) (by decide) (fun K hK => ?_)
     obtain ⟨vo, hvo⟩ := HT.out.cell (512 + q * 256 + i) (by have := (mixL_le HQM.out).2.1; have := HI.out; omega)
     have hc := (blk_cell HC.out (512 + q * 256 + i)).trans hvo
     have hf := blk_frozen HC.out (512 + q * 256 + i)
     refine skip_ (w1 := ?_) (by rfl) rfl ?_ ?_
     rotate_left
     · go_simp
       rfl
     clear hc hf
     have C3 := Aside0.mk (blk_put HC.out (512 + q * 256 + i) (.int .u8 (ml q i : Int)) rfl)
     have T3 : Aside0 (Tab bx ml (i + 1) (i + 1) i (j + 1) (cs.setIfInBounds (512 + q * 256 + i) (.int .u8 (ml q i : Int)))) := by
       have t := HT.out.set_times HI.out HB8.out HJ8.out
       rw [← HQ.out, Nat.mul_comm 256 q] at t
       exact ⟨t⟩
     have CB := Aside0.mk (below_set (j := 512 + q * 256 + i) (v := .int .u8 (ml q i : Int)) HB.out GE.out)
     refine hK.out _ _ ?_
     clear hK K HC HB HT hvo vo
     generalize w19.setCell ⟨g, 512 + q * 256 + i, none⟩ (.int .u8 (ml q i : Int)) = w9 at C3 CB ⊢
     generalize cs.setIfInBounds (512 + q * 256 + i) (.int .u8 (ml q i : Int)) = cs9 at C3 T3
     rename_i HT_ HW_
     refine done_ (done_of HT_.out (by kernel_rfl)) ?_
     clear HT_ HW_
     go_wp2
     go_roundg k3
     case measure => omega
     case rel => exact ⟨j + 1, cs9, by rw [show wrap64 ((j : Int) + 1) = ((j + 1 : Nat) : Int) by have := HJ.out; unfold wrap64; omega], ⟨by have := HJ.out; omega⟩, C3, T3, CB⟩
end Go.Proofs.Ytmibjgjgfombaaa.P
