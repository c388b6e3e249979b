/- Mixing is taken back (layer 10). Conditions: those that each theorem names. Printed by gen_st.py. -/
import Derived.Test.YtbfncpcpmigidaaHMix
import Derived.Test.YtbfncpcpmigidaaPx1
import Derived.Test.YtbfncpcpmigidaaPx2
import Derived.Test.YtbfncpcpmigidaaPx4
set_option linter.unusedVariables false
set_option linter.unusedSimpArgs false
namespace Go.Proofs.Ytbfncpcpmigidaa.P
open Go.RowKit Go.Proofs.YtbfncpcpmigidaaX Go.Proofs.YtbfncpcpmigidaaW.PrintWords Go.Proofs.YtbfncpcpmigidaaW.PrintLast Go.Proofs.YtbfncpcpmigidaaW.PrintMore
def unm14T : Bool × List (List Nat × List Nat) := (true, [([], []), ([], []), ([], []), ([2], [2]), ([3], [3]), ([], []), ([], []), ([5], [5]), ([7, 6], [6, 7]), ([8], [8]), ([4, 9], [4, 9]), ([0], [0]), ([11, 1, 0, 1, 2, 3, 4, 5, 6, 7, 8, 9, 10], [1, 11]), ([12, 10, 10, 0, 1, 2, 3, 4, 5, 6, 7, 8, 9, 10], [10, 12])])
def unm14B : List Nat := [0, 0, 0, 4, 12, 0, 0, 32, 224, 480, 1020, 1, 4095, 8191]
theorem unm14tab : rtab .any (opsOf Try.f43 14) = unm14T := by kernel_rfl
theorem unm14bits : waitsOk unm14T.2 unm14B = true := by kernel_rfl
/-- Mixed so many times. -/
def mixN (ml : Nat → Nat → Nat) (f : Nat → Nat) : Nat → Nat → Nat
  | 0 => f
  | k + 1 => mixF ml (mixN ml f k)
def xorL : Nat → Nat
  | 0 => 0
  | k + 1 => xorL k ^^^ mixL.getD k 0
theorem xorL_lt : ∀ k, k ≤ 8 → xorL k < 256 := by decide
theorem mixL_lt {k : Nat} (h : k < 8) : mixL[k]'h < 256 := by have := mixL_le (List.getElem_mem h); omega
theorem xorL_8 : xorL 8 = 3 := by decide
theorem el_info (a b : Int) : (Try.prog.info? 59 ).map (·.size) = some #[Value.int .u64 a, Value.int .u64 b].size := by
  show (Try.prog.info? 59 ).map (·.size) = some 2
  kernel_rfl
theorem el_one (a b : Int) : #[Value.int .u64 a, Value.int .u64 b].all (·.oneCell') = true := by simp [Value.oneCell', Value.cells]
set_option maxHeartbeats 8000000 in
set_option maxRecDepth 100000 in
theorem unmix_calls {bx : Nat → Nat} {ml : Nat → Nat → Nat} {gt g : Nat} {ct cs : Array Value} {w : World} {f iv : Nat → Nat} {k c : Nat} {ph pl ih : Int} (hm8 : ∀ b q : Nat, b < 256 → q ∈ mixL → ml q b < 256) (hT : w.heap[gt]? = some (.cells ct 45 (0, 0))) (hTab : Tab bx ml 256 256 256 0 ct) (hg : gt < g) (hS : w.heap[g]? = some (.cells cs 67 (0, 0))) (hf : Sta f cs)
  (hpow : tower_Pow.f k 3 0 3 8 = some (ph, pl)) (hinv : tower_Inv.f k 3 ph pl = some (ih, (c : Int))) (hc8 : c < 256) (hmul : ∀ b : Nat, b < 256 → perm_mul.f k (c : Int) (b : Int) = some (iv b : Int)) (hiv : ∀ b, b < 256 → iv b < 256) :
  Calls Try.prog 43 #[.pointer (some ⟨g, 0, none⟩), .pointer (some ⟨gt, 0, none⟩)] w fun e w' => e = .returned (.tuple #[]) ∧ (∃ cs', w'.heap[g]? = some (.cells cs' 67 (0, 0)) ∧ Sta (fun n => iv (mixN ml f 7 n)) cs') ∧ Below g w w' := by
 have HB := Aside0.mk (Below.refl g w)
 have HS := Aside0.mk hS
 have HF := Aside0.mk hf
 have HGW := Aside0.mk (blk_lt hS)
 have HT := Aside0.mk hT
 have TB := Aside0.mk hTab
 have M8 := Aside0.mk hm8
 have TG := Aside0.mk hg
 have HP := Aside0.mk hpow
 have HV := Aside0.mk hinv
 have C8 := Aside0.mk hc8
 have HM := Aside0.mk hmul
 have V8 := Aside0.mk hiv
 clear hS hf hT hTab hm8 hg hpow hinv hc8 hmul hiv
 go_enter Try.func43, Try.ntmps43
 go_wp2
 go_loopg [9] 7 (fun kq v9 w' => ∃ (i : Nat) (cs : Array Value), v9 = .int .i64 (i : Int) ∧ Aside0 (i + kq = 7) ∧ Aside0 (w'.heap[g]? = some (.cells cs 67 (0, 0))) ∧ Aside0 (w'.heap[gt]? = some (.cells ct 45 (0, 0))) ∧ Aside0 (Sta (mixN ml f i) cs) ∧ Aside0 (Below g w w'))
 case atStart => exact ⟨0, _, rfl, ⟨rfl⟩, HS, HT, HF, HB⟩
 case round =>
  clear HS HB HT HF
  obtain ⟨i, cs, rfl, HK, HS, HT, HF, HB⟩ := hrel
  cases gk with
  | succ k2 =>
   have hi : i < 7 := by have := HK.out; omega
   have HI := Aside0.mk hi
   have d0 : decide ((i : Int) < 7) = true := decide_eq_true (by omega)
   have d1 : decide (i < 7) = true := decide_eq_true hi
   clear hi
   go_wp2_with (first
    | ((with_reducible refine gate_callee (f := 41) rfl ?_); refine goesL_ (some 13) rfl rfl Try.func41 (by kernel_rfl) rfl #[.pointer (some ⟨g, 0, none⟩), .pointer (some ⟨gt, 0, none⟩)] rfl (by (try simp only [List.map_toArray, List.map_cons, List.map_nil]); first | done | rfl) ?_; (with_reducible refine (mix_calls M8.out HT.out TB.out TG.out HS.out HF.out).mono ?_); rintro e w11 ⟨rfl, ⟨cs2, hs2, hf2⟩, hb⟩; refine ⟨_, rfl, ?_⟩; replace HS := Aside0.mk hs2; replace HF : Aside0 (Sta (mixN ml f (i + 1)) cs2) := ⟨hf2⟩; replace HT := Aside0.mk ((hb.block gt TG.out).trans HT.out); replace HB := Aside0.mk (HB.out.trans hb); clear hs2 hf2 hb)
    | (go_at_call 41; (with_reducible refine (mix_calls M8.out HT.out TB.out TG.out HS.out HF.out).mono ?_); rintro e w11 ⟨rfl, ⟨cs2, hs2, hf2⟩, hb⟩; replace HS := Aside0.mk hs2; replace HF : Aside0 (Sta (mixN ml f (i + 1)) cs2) := ⟨hf2⟩; replace HT := Aside0.mk ((hb.block gt TG.out).trans HT.out); replace HB := Aside0.mk (HB.out.trans hb); clear hs2 hf2 hb))
   go_roundg k2
   case measure => omega
   case rel =>
    have hi := HI.out
    exact ⟨i + 1, cs2, by rw [step_1 (by omega)], ⟨by have := HK.out; omega⟩, HS, HT, HF, HB⟩
  | zero =>
   obtain rfl : i = 7 := by have := HK.out; omega
   clear HK
   go_wp2_with (first
    | ((with_reducible refine gate_callee (f := 21) rfl ?_); refine goesL_ (some 15) rfl rfl Try.func21 (by kernel_rfl) rfl #[] rfl (by (try simp only [List.map_toArray, List.map_cons, List.map_nil]); first | done | rfl) ?_; (with_reducible refine (perm_mixing.calls 2 2 3 4 5 3 5 7 _ rfl).mono ?_); rintro e w11 ⟨rfl, hb⟩; refine ⟨_, rfl, ?_⟩; replace HS := Aside0.mk (blk_below HS.out hb); replace HT := Aside0.mk (blk_below HT.out hb); replace HB := Aside0.mk (below_far HB.out HGW.out hb); clear hb)
    | (go_at_call 21; (with_reducible refine (perm_mixing.calls 2 2 3 4 5 3 5 7 _ rfl).mono ?_); rintro e w11 ⟨rfl, hb⟩; replace HS := Aside0.mk (blk_below HS.out hb); replace HT := Aside0.mk (blk_below HT.out hb); replace HB := Aside0.mk (below_far HB.out HGW.out hb); clear hb))
   obtain ⟨wo, rfl⟩ : ∃ wo : World, wo = wr := ⟨_, rfl⟩
   go_loopg [4, 16] 8 (fun kq v4 v16 w' => ∃ i : Nat, v16 = .int .i64 (i : Int) ∧ v4 = .int .u8 (xorL i : Int) ∧ Aside0 (i + kq = 8) ∧ Aside0 (w'.heap[g]? = some (.cells cs 67 (0, 0))) ∧ Aside0 (w'.heap[gt]? = some (.cells ct 45 (0, 0))) ∧ Aside0 (Below g w w'))
   case atStart => exact ⟨0, rfl, rfl, ⟨rfl⟩, HS, HT, HB⟩
   case round =>
    clear HS HB HT
    obtain ⟨i, rfl, rfl, HK, HS, HT, HB⟩ := hrel
    cases gk with
    | succ k3 =>
     have hi : i < 8 := by have := HK.out; omega
     have HI := Aside0.mk hi
     have d0 : decide ((i : Int) < 8) = true := decide_eq_true (by omega)
     have d1 : decide (i < 8) = true := decide_eq_true hi
     have hx := u8_xor (xorL i) (mixL[i]'hi) (xorL_lt i (by omega)) (mixL_lt hi)
     obtain ⟨q, eq⟩ : ∃ q : Nat, q = mixL[i]'HI.out := ⟨_, rfl⟩
     have HQ := Aside0.mk eq
     rw [← eq] at hx
     have HX := Aside0.mk hx
     obtain ⟨x, ex⟩ : ∃ x : Nat, x = xorL i := ⟨_, rfl⟩
     have EX := Aside0.mk ex
     rw [← ex]
     clear hi hx eq ex
     go_wp2_with (first
      | ((with_reducible refine gate_dst (N := 18) rfl ?_); refine Kd.event_run (v := .int .u8 (q : Int)) rfl (HQ.out ▸ mix_index HI.out _ _ rfl rfl rfl) ?_))
     go_roundg k3
     case measure => omega
     case rel =>
      have hi := HI.out
      refine ⟨i + 1, by rw [step_1 (by omega)], ?_, ⟨by have := HK.out; omega⟩, HS, HT, HB⟩
      show Value.int .u8 _ = Value.int .u8 ((xorL i ^^^ mixL.getD i 0 : Nat) : Int)
      rw [mixL_getD hi, ← HQ.out, EX.out, HX.out]
    | zero =>
     obtain rfl : i = 8 := by have := HK.out; omega
     clear HK
     rw [xorL_8]
     go_wp2_with (first
      | ((with_reducible refine gate_callee (f := 53) rfl ?_); refine goesL_ (some 26) rfl rfl Try.func53 (by kernel_rfl) rfl #[.int .i64 3, .agg #[.int .u64 0, .int .u64 3], .int .u64 8] rfl (by (try simp only [List.map_toArray, List.map_cons, List.map_nil]); first | done | rfl) ?_; (with_reducible refine (tower_Pow.calls k 3 0 3 8 ph pl _ HP.out).mono ?_); rintro e w11 ⟨rfl, hb⟩; refine ⟨_, rfl, ?_⟩; replace HS := Aside0.mk (blk_below HS.out hb); replace HT := Aside0.mk (blk_below HT.out hb); replace HB := Aside0.mk (below_far HB.out HGW.out hb); clear hb)
      | (go_at_call 53; (with_reducible refine (tower_Pow.calls k 3 0 3 8 ph pl _ HP.out).mono ?_); rintro e w11 ⟨rfl, hb⟩; replace HS := Aside0.mk (blk_below HS.out hb); replace HT := Aside0.mk (blk_below HT.out hb); replace HB := Aside0.mk (below_far HB.out HGW.out hb); clear hb)
      | ((with_reducible refine gate_callee (f := 30) rfl ?_); refine goesL_ (some 27) rfl rfl Try.func30 (by kernel_rfl) rfl #[.int .i64 3, .agg #[.int .u64 ph, .int .u64 pl]] rfl (by (try simp only [List.map_toArray, List.map_cons, List.map_nil]); first | done | rfl) ?_; (with_reducible refine (tower_Inv.calls k 3 ph pl ih (c : Int) _ HV.out).mono ?_); rintro e w11 ⟨rfl, hb⟩; refine ⟨_, rfl, ?_⟩; replace HS := Aside0.mk (blk_below HS.out hb); replace HT := Aside0.mk (blk_below HT.out hb); replace HB := Aside0.mk (below_far HB.out HGW.out hb); clear hb)
      | (go_at_call 30; (with_reducible refine (tower_Inv.calls k 3 ph pl ih (c : Int) _ HV.out).mono ?_); rintro e w11 ⟨rfl, hb⟩; replace HS := Aside0.mk (blk_below HS.out hb); replace HT := Aside0.mk (blk_below HT.out hb); replace HB := Aside0.mk (below_far HB.out HGW.out hb); clear hb)
      | ((with_reducible refine gate_dst (N := 7) rfl ?_); refine box_event ?hg (N := 7) ?hd (cs := #[.int .u64 0, .int .u64 0]) (t := 59) ?hr ?_; (case hd => rfl); (case hg => rfl); (case hr => first | (go_simp; done) | (go_simp; rfl)); intro g3 hg3 w3 hbox hb; have B3 := Aside0.mk hbox; have NG := Aside0.mk (show g ≠ g3 by have := blk_lt HS.out; omega); have G3 := Aside0.mk (show g ≤ g3 by have := blk_lt HS.out; omega); clear hbox hg3; replace HS := Aside0.mk (blk_below HS.out hb); replace HT := Aside0.mk (blk_below HT.out hb); replace HB := Aside0.mk (below_far HB.out HGW.out hb); clear hb)
      | ((with_reducible refine gate_store (t := 59) (p := 7) rfl ?_); refine wpList_store_row rfl 59 (.tmp 7) (.tmp 27) rfl g3 #[.int .u64 ih, .int .u64 (c : Int)] (by rfl) (by rfl) 59 _ B3.out (el_info ih (c : Int)) rfl (el_one ih (c : Int)) ?_; replace HS := Aside0.mk (blk_setRow HS.out NG.out #[.int .u64 ih, .int .u64 (c : Int)]); replace HB := Aside0.mk (below_setRow HB.out G3.out #[.int .u64 ih, .int .u64 (c : Int)]); replace B3 := Aside0.mk (setRow_heap _ g3 _ #[.int .u64 ih, .int .u64 (c : Int)] 59 (0, 0) B3.out); clear HT; (generalize World.setRow _ g3 #[.int .u64 ih, .int .u64 (c : Int)] = w4 at HS HB B3 ⊢)))
     obtain ⟨f7, e7⟩ : ∃ f7, f7 = mixN ml f 7 := ⟨_, rfl⟩
     rw [← e7] at HF
     have E7 := Aside0.mk e7
     clear e7
     go_loopg [28] 64 (fun kq v28 w' => ∃ (i : Nat) (cs : Array Value), v28 = .int .i64 (i : Int) ∧ Aside0 (i + kq = 64) ∧ Aside0 (w'.heap[g]? = some (.cells cs 67 (0, 0))) ∧ Aside0 (w'.heap[g3]? = some (.cells #[.int .u64 ih, .int .u64 (c : Int)] 59 (0, 0))) ∧ Aside0 (Sta (fun n => if n < i then iv (f7 n) else f7 n) cs) ∧ Aside0 (Below g w w'))
     case atStart => exact ⟨0, _, rfl, ⟨rfl⟩, HS, B3, ⟨HF.out.congr (fun n _ => by rw [if_neg (by omega)])⟩, HB⟩
     case round =>
      clear HS HB B3
      obtain ⟨i, cs, rfl, HK, HS, B3, HW, HB⟩ := hrel
      cases gk with
      | zero =>
       obtain rfl : i = 64 := by have := HK.out; omega
       go_wp2
       go_end0
       exact ⟨rfl, ⟨cs, HS.out, HW.out.congr (fun n hn => by rw [if_pos hn, E7.out])⟩, HB.out⟩
      | succ k4 =>
       have hi : i < 64 := by have := HK.out; omega
       have HI := Aside0.mk hi
       have d0 : decide ((i : Int) < 64) = true := decide_eq_true (by omega)
       have d1 : decide (i < 64) = true := decide_eq_true hi
       have p0 : ((i : Int) < 64) = True := eq_true (by omega)
       obtain ⟨b, eb⟩ : ∃ b : Nat, b = f7 i := ⟨_, rfl⟩
       have hb8 : b < 256 := eb ▸ HF.out.lt _ hi
       have EB := Aside0.mk eb
       have B8 := Aside0.mk hb8
       have hcc : (c : Int) % 256 = (c : Int) := by have := C8.out; omega
       have hcw : IntKind.u8.wrap (c : Int) = (c : Int) := by have := C8.out; simp [IntKind.wrap, IntKind.bits, IntKind.signed]; omega
       have hcell : wr.cell? ⟨g, i, none⟩ = some (.int .u8 (b : Int)) := (blk_cell HS.out i).trans (by rw [HW.out.cell i hi, if_neg (by omega), eb])
       have HCELL := Aside0.mk hcell
       clear hi eb hb8 hcell
       go_wp2
       replace HS := Aside0.mk (blk_drew HS.out)
       replace B3 := Aside0.mk (blk_drew B3.out)
       replace HB := Aside0.mk (below_drew1 HB.out)
       refine start_ (n := 14) (S := fun w' => w'.cell? ⟨g, i, none⟩ = some (.int .u8 (b : Int)) ∧ w'.cell? ⟨g3, 1, none⟩ = some (.int .u64 (c : Int))) (ds := [13]) #[false, false, false, false, false, false, false, false, false, false, false, false, false, false] (by kernel_rfl) rfl rfl (⟨HCELL.out, (blk_cell B3.out 1).trans rfl⟩) (fun hHeld => ?_); refine with_tabW unm14tab unm14bits (fun HT_ HW_ => ?_)
       generalize wr.drew = w4 at HS B3 HB hHeld ⊢
       refine pure_ (i := 0) (N := some 31) (v := ?_) (a' := ?_) #[true, false, false, false, false, false, false, false, false, false, false, false, false, false] rfl rfl (any_of HT_.out (by kernel_rfl)) (fun _ _ _ h => h) (Or.inl ⟨by rfl, ?_⟩) ?_ ?_
       rotate_left
       · intro w'
         go_simp
         with_reducible rfl
       rotate_left
       · simp only [Act.put, List.setIfInBounds_toArray, List.set_cons_zero, List.set_cons_succ, i64_w, i32_w]
         rfl
       refine pure_ (i := 1) (N := some 32) (v := ?_) (a' := ?_) #[true, true, false, false, false, false, false, false, false, false, false, false, false, false] rfl rfl (any_of HT_.out (by kernel_rfl)) (fun _ _ _ h => h) (Or.inl ⟨by rfl, ?_⟩) ?_ ?_
       rotate_left
       · intro w'
         go_simp
         with_reducible rfl
       rotate_left
       · simp only [Act.put, List.setIfInBounds_toArray, List.set_cons_zero, List.set_cons_succ, i64_w, i32_w]
         rfl
       refine pure_ (i := 2) (N := some 33) (v := ?_) (a' := ?_) #[true, true, true, false, false, false, false, false, false, false, false, false, false, false] rfl rfl (any_of HT_.out (by kernel_rfl)) (fun _ _ _ h => h) (Or.inl ⟨by rfl, ?_⟩) ?_ ?_
       rotate_left
       · intro w'
         go_simp
         with_reducible rfl
       rotate_left
       · simp only [Act.put, List.setIfInBounds_toArray, List.set_cons_zero, List.set_cons_succ, i64_w, i32_w]
         rfl
       refine take_ (i := 3) (N := some 34) (v := ?_) (a' := ?_) #[true, true, true, true, false, false, false, false, false, false, false, false, false, false] rfl rfl (take_ofW HT_.out HW_.out (by kernel_rfl)) (fun _ _ _ h => h) (Or.inl ⟨by rfl, ?_⟩) hHeld ?_ ?_
       rotate_left
       · rintro w' ⟨s0, s1⟩
         go_simp
         with_reducible rfl
       rotate_left
       · simp only [Act.put, List.setIfInBounds_toArray, List.set_cons_zero, List.set_cons_succ, i64_w, i32_w]
         rfl
       refine pure_ (i := 4) (N := some 35) (v := ?_) (a' := ?_) #[true, true, true, true, true, false, false, false, false, false, false, false, false, false] rfl rfl (any_of HT_.out (by kernel_rfl)) (fun _ _ _ h => h) (Or.inl ⟨by rfl, ?_⟩) ?_ ?_
       rotate_left
       · intro w'
         go_simp
         with_reducible rfl
       rotate_left
       · simp only [Act.put, List.setIfInBounds_toArray, List.set_cons_zero, List.set_cons_succ, i64_w, i32_w]
         rfl
       refine pure_ (i := 5) (N := some 36) (v := ?_) (a' := ?_) #[true, true, true, true, true, true, false, false, false, false, false, false, false, false] rfl rfl (any_of HT_.out (by kernel_rfl)) (fun _ _ _ h => h) (Or.inl ⟨by rfl, ?_⟩) ?_ ?_
       rotate_left
       · intro w'
         go_simp
         with_reducible rfl
       rotate_left
       · simp only [Act.put, List.setIfInBounds_toArray, List.set_cons_zero, List.set_cons_succ, i64_w, i32_w]
         rfl
       refine pure_ (i := 6) (N := some 37) (v := ?_) (a' := ?_) #[true, true, true, true, true, true, true, false, false, false, false, false, false, false] rfl rfl (any_of HT_.out (by kernel_rfl)) (fun _ _ _ h => h) (Or.inl ⟨by rfl, ?_⟩) ?_ ?_
       rotate_left
       · intro w'
         go_simp
         with_reducible rfl
       rotate_left
       · simp only [Act.put, List.setIfInBounds_toArray, List.set_cons_zero, List.set_cons_succ, i64_w, i32_w]
         rfl
       refine pure_ (i := 7) (N := some 38) (v := ?_) (a' := ?_) #[true, true, true, true, true, true, true, true, false, false, false, false, false, false] rfl rfl (any_of HT_.out (by kernel_rfl)) (fun _ _ _ h => h) (Or.inl ⟨by rfl, ?_⟩) ?_ ?_
       rotate_left
       · intro w'
         go_simp
         with_reducible rfl
       rotate_left
       · simp only [Act.put, List.setIfInBounds_toArray, List.set_cons_zero, List.set_cons_succ, i64_w, i32_w]
         rfl
       refine pure_ (i := 8) (N := some 39) (v := ?_) (a' := ?_) #[true, true, true, true, true, true, true, true, true, false, false, false, false, false] rfl rfl (any_of HT_.out (by kernel_rfl)) (fun _ _ _ h => h) (Or.inl ⟨by rfl, ?_⟩) ?_ ?_
       rotate_left
       · intro w'
         go_simp
         with_reducible rfl
       rotate_left
       · simp only [Act.put, List.setIfInBounds_toArray, List.set_cons_zero, List.set_cons_succ, i64_w, i32_w]
         rfl
       refine take_ (i := 9) (N := some 40) (v := ?_) (a' := ?_) #[true, true, true, true, true, true, true, true, true, true, false, false, false, false] rfl rfl (take_ofW HT_.out HW_.out (by kernel_rfl)) (fun _ _ _ h => h) (Or.inl ⟨by rfl, ?_⟩) hHeld ?_ ?_
       rotate_left
       · rintro w' ⟨s0, s1⟩
         go_simp
         with_reducible rfl
       rotate_left
       · simp only [Act.put, List.setIfInBounds_toArray, List.set_cons_zero, List.set_cons_succ, i64_w, i32_w]
         rfl
       refine pure_ (i := 11) (N := some 42) (v := ?_) (a' := ?_) #[true, true, true, true, true, true, true, true, true, true, false, true, false, false] rfl rfl (any_of HT_.out (by kernel_rfl)) (fun _ _ _ h => h) (Or.inl ⟨by rfl, ?_⟩) ?_ ?_
       rotate_left
       · intro w'
         go_simp
         with_reducible rfl
       rotate_left
       · simp only [Act.put, List.setIfInBounds_toArray, List.set_cons_zero, List.set_cons_succ, i64_w, i32_w]
         rfl
       refine one_ (i := 10) (N := some 41) #[true, true, true, true, true, true, true, true, true, true, true, true, false, false] rfl rfl (one_of HT_.out (by kernel_rfl)) (by decide) (fun K hK => ?_)
       refine goes_ Try.func22 (by kernel_rfl) rfl #[.int .u8 (c : Int), .int .u8 (b : Int)] (by rfl) rfl rfl (by (try simp only [List.map_toArray, List.map_cons, List.map_nil]); first | done | rfl) ?_
       with_reducible refine (perm_mul.calls k (c : Int) (b : Int) (iv b : Int) _ (HM.out b B8.out)).mono ?_
       rintro e w5 ⟨rfl, hb⟩
       refine ⟨_, rfl, ?_⟩
       replace HS := Aside0.mk (blk_below HS.out hb)
       replace B3 := Aside0.mk (blk_below B3.out hb)
       replace HB := Aside0.mk (below_far HB.out HGW.out hb)
       clear hb
       refine hK.out _ _ (⟨(blk_cell HS.out i).trans (by rw [HW.out.cell i HI.out, if_neg (by omega), EB.out]), (blk_cell B3.out 1).trans rfl⟩) (fun hHeld => ?_)
       clear hK K
       refine norm_ (a' := ?_) ?_ ?_
       rotate_left
       · show Act.put _ (some 41) _ = _
         simp only [Act.put, List.setIfInBounds_toArray, List.set_cons_zero, List.set_cons_succ, i64_w, i32_w]
         rfl
       refine pure_ (i := 12) (N := some 43) (v := ?_) (a' := ?_) #[true, true, true, true, true, true, true, true, true, true, true, true, true, false] rfl rfl (any_of HT_.out (by kernel_rfl)) (fun _ _ _ h => h) (Or.inl ⟨by rfl, ?_⟩) ?_ ?_
       rotate_left
       · intro w'
         go_simp
         with_reducible rfl
       rotate_left
       · simp only [Act.put, List.setIfInBounds_toArray, List.set_cons_zero, List.set_cons_succ, i64_w, i32_w]
         rfl
       refine last_ (i := 13) (N := none) #[true, true, true, true, true, true, true, true, true, true, true, true, true, true] rfl rfl (one_of HT_.out (by kernel_rfl)) (by decide) (fun K hK => ?_)
       have hc : w5.cell? ⟨g, i, none⟩ = some (.int .u8 (b : Int)) := (blk_cell HS.out i).trans (by rw [HW.out.cell i HI.out, if_neg (by omega), EB.out])
       have hf := blk_frozen HS.out i
       refine skip_ (w1 := ?_) (by rfl) rfl ?_ ?_
       rotate_left
       · go_simp
         rfl
       clear hc hf
       have C1 := Aside0.mk (blk_put HS.out i (.int .u8 (iv b : Int)) rfl)
       have C3 := Aside0.mk (blk_far (p := ⟨g, i, none⟩) B3.out (Ne.symm NG.out) (.int .u8 (iv b : Int)))
       have CB := Aside0.mk (HB.out.setCell (p := ⟨g, i, none⟩) (Nat.le_refl _) (.int .u8 (iv b : Int)))
       refine hK.out _ _ ?_
       clear hK K
       clear HS B3 HB
       generalize w5.setCell ⟨g, i, none⟩ (.int .u8 (iv b : Int)) = w6 at C1 C3 CB ⊢
       rename_i HT_ HW_
       refine done_ (done_of HT_.out (by kernel_rfl)) ?_
       clear HT_ HW_
       go_wp2
       go_roundg k4
       case measure => omega
       case rel =>
        have hi := HI.out
        refine ⟨i + 1, _, by rw [step_1 (by omega)], ⟨by have := HK.out; omega⟩, C1, C3, ⟨HW.out.set HI.out (V8.out b B8.out) rfl (fun n hn => ?_)⟩, CB⟩
        by_cases e : n = i
        · subst e
          rw [if_pos (by omega), if_pos rfl, EB.out]
        · rw [if_neg e]
          by_cases e2 : n < i
          · rw [if_pos (by omega), if_pos e2]
          · rw [if_neg (by omega), if_neg e2]
end Go.Proofs.Ytbfncpcpmigidaa.P
