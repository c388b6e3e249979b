/- A proof's bytes (proof.Proof). Conditions: those that each theorem names. Printed by gen_proof.py. -/
import Derived.Test.YthgiifakcgjlaaaHOne
import Derived.Test.YthgiifakcgjlaaaHBld
import Derived.Test.YthgiifakcgjlaaaHList
import Derived.Lib.OwnKind
import Derived.Laws.EntriesVeiled
import Derived.Test.YthgiifakcgjlaaaPx10
import Derived.Test.YthgiifakcgjlaaaPx11
import Derived.Test.YthgiifakcgjlaaaPx12
import Derived.Test.YthgiifakcgjlaaaPx4
set_option linter.unusedVariables false
set_option linter.unusedSimpArgs false
namespace Go.Proofs.Ythgiifakcgjlaaa.P
open Go.RowKit Go.Proofs.YthgiifakcgjlaaaX Go.Proofs.YthgiifakcgjlaaaW.PrintWords Go.Proofs.YthgiifakcgjlaaaW.PrintLast Go.Proofs.YthgiifakcgjlaaaW.PrintMore
theorem k61_heap : Kd.Heap k61 := Kd.heap_iso _ (Kd.heap_pair (Kd.heap_int .u64) (Kd.heap_int .u64))
def joinS : List ByteArray → ByteArray → Option ByteArray
  | [], s => some s
  | t :: l, s => if s.size + t.size ≤ 140737488355328 then joinS l (s ++ t) else none
theorem str_others {W W' : World} {b base : Nat} {T : TypeId} {cs : Array Value} {ok : Nat → Prop} {v : Value} {xs : List ByteArray} (h : Kd.R Kd.string 9 W base ok v xs) (hb : W.heap[b]? = some (.cells cs T (0, 0))) (hT : 9 ≠ T) (hk : Lib.OthersKept 5 (some b) W W') : Kd.R Kd.string 9 W' base ok v xs := by
  have h1 : Kd.R Kd.string 9 W base (fun k => some k = v.ownBlock) v xs := ⟨fun k hk => hk.symm, h.2⟩
  refine Kd.R_mono (Kd.R_step h1 (fun k e hlt => ?_)) (fun k e => h.1 k e.symm)
  obtain ⟨inner, ho⟩ := Kd.R_own h
  obtain ⟨c, fz, hc⟩ := Lib.ownsRow_kind ho k e.symm
  have hne := Kd.R_ne h hb hT
  rw [hc]
  refine hk k _ hc (fun q => hne (by rw [← e, q])) (fun c' fz' q => ?_)
  injection q with q1 q2 q3
  exact absurd q2 (by decide)
theorem isF_blk {T e : TypeId} {B b : Nat} {bs : List Value} {W : World} (h : Lib.IsBuilderF T e B b bs W) : ∃ cs, W.heap[b]? = some (.cells cs T (0, 0)) := by
  rcases h with ⟨_, v, h, _⟩ | ⟨_, v, h, _⟩ <;> exact ⟨_, h⟩
theorem str_others' {T : TypeId} {e B b base : Nat} {bs : List Value} {W W' : World} {ok : Nat → Prop} {v : Value} {xs : List ByteArray} (h : Kd.R Kd.string 9 W base ok v xs) (hi : Lib.IsBuilderF T e B b bs W) (hT : 9 ≠ T) (hk : Lib.OthersKept 5 (some b) W W') : Kd.R Kd.string 9 W' base ok v xs := by
  obtain ⟨cs, hb⟩ := isF_blk hi
  exact str_others h hb hT hk
def proof_Proof.f (k : Nat) (a0 : Int) (a1_0 : ByteArray) (l1_1 : List (List (S61))) (l1_2 : List (S61)) (l1_3 : List (List (S61))) (a1_4 : Int) (a1_5 : Int) (l1_6 : List (S61)) (l1_7 : List (List (S61))) (a1_8 : Int) (a1_9 : Int) (l1_10 : List (S61)) (l1_11 : List (List (S61))) (l1_12 : List ByteArray) : Option (ByteArray × Int) := (proof_shaped.f k a0 a1_0 l1_1 l1_2 l1_3 a1_4 a1_5 l1_6 l1_7 a1_8 a1_9 l1_10 l1_11 l1_12).bind fun t261 => (if t261 = true then ((octet_Num.f a0).bind fun t262 => ((octet_Text.f a1_0).bind fun t263 => ((proof_Proof_2.f k l1_1 a0).bind fun t264 => ((proof_Proof_1.f k l1_2 a0).bind fun t265 => ((proof_Proof_2.f k l1_3 a0).bind fun t266 => ((proof_Proof_1.f k (([(⟨a1_4, a1_5⟩ : S61)] : List (S61))) a0).bind fun t270 => ((proof_Proof_1.f k l1_6 a0).bind fun t271 => ((proof_Proof_2.f k l1_7 a0).bind fun t272 => ((proof_Proof_1.f k (([(⟨a1_8, a1_9⟩ : S61)] : List (S61))) a0).bind fun t276 => ((proof_Proof_1.f k l1_10 a0).bind fun t277 => ((proof_Proof_2.f k l1_11 a0).bind fun t278 => ((octet_List.f k l1_12).bind fun t279 => ((joinS ([t262, t263, t264, t265, t266, t270, t271, t272, t276, t277, t278, t279] : List ByteArray) (⟨#[]⟩ : ByteArray)).bind fun t0_ => (some (t0_, 0))))))))))))))) else (some ((⟨#[]⟩ : ByteArray), 1)))
def proof_Proof.T6 : Bool × List (List Nat × List Nat) := (true, [([], []), ([0], [0]), ([], []), ([2], [2]), ([3, 1], [3]), ([], []), ([], []), ([6], [6]), ([5, 7, 4], [5, 7]), ([], []), ([], []), ([10], [10]), ([9, 11, 8], [9, 11]), ([], []), ([], []), ([14], [14]), ([13, 15, 12], [13, 15]), ([], []), ([], []), ([18], [18]), ([19], [19]), ([17, 20, 16], [17, 20]), ([], []), ([], []), ([23], [23]), ([22, 24, 21], [22, 24]), ([], []), ([], []), ([27], [27]), ([26, 28, 25], [26, 28]), ([], []), ([], []), ([31], [31]), ([32], [32]), ([30, 33, 29], [30, 33]), ([], []), ([], []), ([36], [36]), ([37], [37]), ([35, 38, 34], [35, 38]), ([], []), ([], []), ([41], [41]), ([42], [42]), ([40, 43, 39], [40, 43]), ([], []), ([45], [45]), ([46], [46]), ([47, 44], [47]), ([1, 4, 8, 12, 16, 21, 25, 29, 34, 39, 44, 48], [1, 4, 8, 12, 16, 21, 25, 29, 34, 39, 44, 48]), ([49], [49]), ([], [])])
def proof_Proof.B6 : List Nat := [0, 1, 0, 4, 15, 0, 0, 64, 255, 0, 0, 1024, 4095, 0, 0, 16384, 65535, 0, 0, 262144, 786432, 2097151, 0, 0, 8388608, 33554431, 0, 0, 134217728, 536870911, 0, 0, 2147483648, 6442450944, 17179869183, 0, 0, 68719476736, 206158430208, 549755813887, 0, 0, 2199023255552, 6597069766656, 17592186044415, 0, 35184372088832, 105553116266496, 281474976710655, 562949953421311, 1125899906842623, 0]
theorem proof_Proof.tab6 : rtab .any (opsOf Try.f27 6) = proof_Proof.T6 := by kernel_rfl
theorem proof_Proof.bits6 : waitsOk proof_Proof.T6.2 proof_Proof.B6 = true := by kernel_rfl
set_option maxHeartbeats 8000000 in
set_option maxRecDepth 100000 in
theorem proof_Proof.calls (k : Nat) (a0 : Int) (a1_0 : ByteArray) (A1_1 : Option Addr) (c1_1 : Nat) (l1_1 : List (List (S61))) (A1_2 : Option Addr) (c1_2 : Nat) (l1_2 : List (S61)) (A1_3 : Option Addr) (c1_3 : Nat) (l1_3 : List (List (S61))) (a1_4 : Int) (a1_5 : Int) (A1_6 : Option Addr) (c1_6 : Nat) (l1_6 : List (S61)) (A1_7 : Option Addr) (c1_7 : Nat) (l1_7 : List (List (S61))) (a1_8 : Int) (a1_9 : Int) (A1_10 : Option Addr) (c1_10 : Nat) (l1_10 : List (S61)) (A1_11 : Option Addr) (c1_11 : Nat) (l1_11 : List (List (S61))) (A1_12 : Option Addr) (c1_12 : Nat) (l1_12 : List ByteArray) (r1 : ByteArray) (r2 : Int) (w : World) (hr1_1 : Kd.C (Kd.slice 61 k61) w A1_1 l1_1.length l1_1) (hc1_1 : l1_1.length ≤ c1_1) (hr1_2 : Kd.C k61 w A1_2 l1_2.length l1_2) (hc1_2 : l1_2.length ≤ c1_2) (hr1_3 : Kd.C (Kd.slice 61 k61) w A1_3 l1_3.length l1_3) (hc1_3 : l1_3.length ≤ c1_3) (hr1_6 : Kd.C k61 w A1_6 l1_6.length l1_6) (hc1_6 : l1_6.length ≤ c1_6) (hr1_7 : Kd.C (Kd.slice 61 k61) w A1_7 l1_7.length l1_7) (hc1_7 : l1_7.length ≤ c1_7) (hr1_10 : Kd.C k61 w A1_10 l1_10.length l1_10) (hc1_10 : l1_10.length ≤ c1_10) (hr1_11 : Kd.C (Kd.slice 61 k61) w A1_11 l1_11.length l1_11) (hc1_11 : l1_11.length ≤ c1_11) (hr1_12 : Kd.C Kd.string w A1_12 l1_12.length l1_12) (hc1_12 : l1_12.length ≤ c1_12) (h : proof_Proof.f k a0 a1_0 l1_1 l1_2 l1_3 a1_4 a1_5 l1_6 l1_7 a1_8 a1_9 l1_10 l1_11 l1_12 = some (r1, r2)) :
  Calls Try.prog 27 #[.int .i64 a0, .agg #[.string a1_0, .slice A1_1 l1_1.length c1_1, .slice A1_2 l1_2.length c1_2, .slice A1_3 l1_3.length c1_3, .int .u64 a1_4, .int .u64 a1_5, .slice A1_6 l1_6.length c1_6, .slice A1_7 l1_7.length c1_7, .int .u64 a1_8, .int .u64 a1_9, .slice A1_10 l1_10.length c1_10, .slice A1_11 l1_11.length c1_11, .slice A1_12 l1_12.length c1_12]] w fun e w' => e = .returned (.tuple #[.string r1, .int .i64 r2]) ∧ Below w.heap.size w w' := by
 have hu66 := Try.underlying66
 have hu61 := Try.underlying61
 have HR1_1 := Aside0.mk hr1_1
 have HC1_1 := Aside0.mk hc1_1
 clear hr1_1 hc1_1
 have HR1_2 := Aside0.mk hr1_2
 have HC1_2 := Aside0.mk hc1_2
 clear hr1_2 hc1_2
 have HR1_3 := Aside0.mk hr1_3
 have HC1_3 := Aside0.mk hc1_3
 clear hr1_3 hc1_3
 have HR1_6 := Aside0.mk hr1_6
 have HC1_6 := Aside0.mk hc1_6
 clear hr1_6 hc1_6
 have HR1_7 := Aside0.mk hr1_7
 have HC1_7 := Aside0.mk hc1_7
 clear hr1_7 hc1_7
 have HR1_10 := Aside0.mk hr1_10
 have HC1_10 := Aside0.mk hc1_10
 clear hr1_10 hc1_10
 have HR1_11 := Aside0.mk hr1_11
 have HC1_11 := Aside0.mk hc1_11
 clear hr1_11 hc1_11
 have HR1_12 := Aside0.mk hr1_12
 have HC1_12 := Aside0.mk hc1_12
 clear hr1_12 hc1_12
 have HB := Aside0.mk (Below.refl w.heap.size w)
 have H : ((proof_shaped.f k a0 a1_0 l1_1 l1_2 l1_3 a1_4 a1_5 l1_6 l1_7 a1_8 a1_9 l1_10 l1_11 l1_12).bind fun t261 => (if t261 = true then ((octet_Num.f a0).bind fun t262 => ((octet_Text.f a1_0).bind fun t263 => ((proof_Proof_2.f k l1_1 a0).bind fun t264 => ((proof_Proof_1.f k l1_2 a0).bind fun t265 => ((proof_Proof_2.f k l1_3 a0).bind fun t266 => ((proof_Proof_1.f k (([(⟨a1_4, a1_5⟩ : S61)] : List (S61))) a0).bind fun t270 => ((proof_Proof_1.f k l1_6 a0).bind fun t271 => ((proof_Proof_2.f k l1_7 a0).bind fun t272 => ((proof_Proof_1.f k (([(⟨a1_8, a1_9⟩ : S61)] : List (S61))) a0).bind fun t276 => ((proof_Proof_1.f k l1_10 a0).bind fun t277 => ((proof_Proof_2.f k l1_11 a0).bind fun t278 => ((octet_List.f k l1_12).bind fun t279 => ((joinS ([t262, t263, t264, t265, t266, t270, t271, t272, t276, t277, t278, t279] : List ByteArray) (⟨#[]⟩ : ByteArray)).bind fun t0_ => (some (t0_, 0))))))))))))))) else (some ((⟨#[]⟩ : ByteArray), 1)))) = some (r1, r2) := h
 clear h
 replace H := bm H
 obtain ⟨t261, A30, H⟩ := H
 try dsimp only at H
 have A3 := Aside0.mk A30
 clear A30
 by_cases c4 : t261 = true
 rotate_left
 ·replace c4 := Bool.eq_false_iff.mpr c4
  subst c4
  have H1 : (some ((⟨#[]⟩ : ByteArray), 1)) = some (r1, r2) := by rw [if_neg (show ¬ (false = true) by decide)] at H; exact H
  clear H
  have H := H1
  clear H1
  simp only [Option.some.injEq, Prod.mk.injEq] at H
  obtain ⟨rfl, rfl⟩ := H
  go_enter Try.func27, Try.ntmps27
  go_wp2_with (first | ((with_reducible refine gate_dst (N := 2) rfl ?_); refine box_event ?hg (N := 2) ?hd (cs := #[.int .i64 a0]) (t := 3) ?hr ?_; (case hd => rfl); (case hg => rfl); (case hr => go_simp <;> rfl); intro gl hgl wl hbox hb; have BY := Aside0.mk hbox; replace HB := bh HB hb; clear hb hbox hgl) | ((with_reducible refine gate_dst (N := 3) rfl ?_); refine box_event ?hg (N := 3) ?hd (cs := #[.string a1_0, .slice A1_1 l1_1.length c1_1, .slice A1_2 l1_2.length c1_2, .slice A1_3 l1_3.length c1_3, .int .u64 a1_4, .int .u64 a1_5, .slice A1_6 l1_6.length c1_6, .slice A1_7 l1_7.length c1_7, .int .u64 a1_8, .int .u64 a1_9, .slice A1_10 l1_10.length c1_10, .slice A1_11 l1_11.length c1_11, .slice A1_12 l1_12.length c1_12]) (t := 66) ?hr ?_; (case hd => rfl); (case hg => rfl); (case hr => go_simp <;> rfl); intro gb260 hg w47 hbox hb; replace BY := bb BY hb; have BK260 := Aside0.mk hbox; have GW260 := ge hg HB; have GE260 := ge hg HB; replace HB := bh HB hb; clear hb hbox hg; have hcY := lev_cell BY; obtain ⟨hcz48_0, hcz48_1, hcz48_2, hcz48_3, hcz48_4, hcz48_5, hcz48_6, hcz48_7, hcz48_8, hcz48_9, hcz48_10, hcz48_11, hcz48_12⟩ := zc13 BK260; obtain ⟨hfz48_0, hfz48_1, hfz48_2, hfz48_3, hfz48_4, hfz48_5, hfz48_6, hfz48_7, hfz48_8, hfz48_9, hfz48_10, hfz48_11, hfz48_12⟩ := zf13 BK260) | ((with_reducible refine gate_callee (f := 62) rfl ?_); refine goesL_ (some 13) rfl rfl Try.func62 (by kernel_rfl) rfl #[.int .i64 a0, .agg #[.string a1_0, .slice A1_1 l1_1.length c1_1, .slice A1_2 l1_2.length c1_2, .slice A1_3 l1_3.length c1_3, .int .u64 a1_4, .int .u64 a1_5, .slice A1_6 l1_6.length c1_6, .slice A1_7 l1_7.length c1_7, .int .u64 a1_8, .int .u64 a1_9, .slice A1_10 l1_10.length c1_10, .slice A1_11 l1_11.length c1_11, .slice A1_12 l1_12.length c1_12]] rfl (by (try simp only [mA, mC, mN]); first | done | rfl | (simp only [List.length_drop, List.length_take]; rfl)) ?_; (with_reducible refine (proof_shaped.calls k a0 a1_0 (fun k_ => k_ < w.heap.size) _ _ l1_1 (fun k_ => k_ < w.heap.size) _ _ l1_2 (fun k_ => k_ < w.heap.size) _ _ l1_3 a1_4 a1_5 (fun k_ => k_ < w.heap.size) _ _ l1_6 (fun k_ => k_ < w.heap.size) _ _ l1_7 a1_8 a1_9 (fun k_ => k_ < w.heap.size) _ _ l1_10 (fun k_ => k_ < w.heap.size) _ _ l1_11 _ _ l1_12 false _ ?side1 ?side2 ?side3 ?side4 ?side5 ?side6 ?side7 ?side8 ?side9 A3.out).mono ?_); (case side1 => exact Kd.V_mk HC1_1.out (Kd.F_below (Kd.C_F (Kd.heap_slice 61 k61_heap) HR1_1.out) (bq HB.out))); (case side2 => exact Kd.V_mk HC1_2.out (Kd.F_below (Kd.C_F k61_heap HR1_2.out) (bq HB.out))); (case side3 => exact Kd.V_mk HC1_3.out (Kd.F_below (Kd.C_F (Kd.heap_slice 61 k61_heap) HR1_3.out) (bq HB.out))); (case side4 => exact Kd.V_mk HC1_6.out (Kd.F_below (Kd.C_F k61_heap HR1_6.out) (bq HB.out))); (case side5 => exact Kd.V_mk HC1_7.out (Kd.F_below (Kd.C_F (Kd.heap_slice 61 k61_heap) HR1_7.out) (bq HB.out))); (case side6 => exact Kd.V_mk HC1_10.out (Kd.F_below (Kd.C_F k61_heap HR1_10.out) (bq HB.out))); (case side7 => exact Kd.V_mk HC1_11.out (Kd.F_below (Kd.C_F (Kd.heap_slice 61 k61_heap) HR1_11.out) (bq HB.out))); (case side8 => exact cq (Kd.C_below HR1_12.out HB.out)); (case side9 => exact HC1_12.out); rintro e w49 ⟨rfl, hb⟩; refine ⟨_, rfl, ?_⟩; replace BY := bb BY hb; replace HB := bh HB hb; (try clear hb); (try clear hk hi)))
  go_ret2
  exact ⟨by first | rfl | (simp [errW_none, errW_some] <;> rfl) | (simp [*, errW_none, errW_some] <;> rfl), bq HB.out⟩
 subst c4
 have H1 : ((octet_Num.f a0).bind fun t262 => ((octet_Text.f a1_0).bind fun t263 => ((proof_Proof_2.f k l1_1 a0).bind fun t264 => ((proof_Proof_1.f k l1_2 a0).bind fun t265 => ((proof_Proof_2.f k l1_3 a0).bind fun t266 => ((proof_Proof_1.f k (([(⟨a1_4, a1_5⟩ : S61)] : List (S61))) a0).bind fun t270 => ((proof_Proof_1.f k l1_6 a0).bind fun t271 => ((proof_Proof_2.f k l1_7 a0).bind fun t272 => ((proof_Proof_1.f k (([(⟨a1_8, a1_9⟩ : S61)] : List (S61))) a0).bind fun t276 => ((proof_Proof_1.f k l1_10 a0).bind fun t277 => ((proof_Proof_2.f k l1_11 a0).bind fun t278 => ((octet_List.f k l1_12).bind fun t279 => ((joinS ([t262, t263, t264, t265, t266, t270, t271, t272, t276, t277, t278, t279] : List ByteArray) (⟨#[]⟩ : ByteArray)).bind fun t0_ => (some (t0_, 0))))))))))))))) = some (r1, r2) := by rw [if_pos rfl] at H; exact H
 clear H
 have H := H1
 clear H1
 replace H := bm H
 obtain ⟨t262, A50, H⟩ := H
 try dsimp only at H
 have A5 := Aside0.mk A50
 clear A50
 replace H := bm H
 obtain ⟨t263, A60, H⟩ := H
 try dsimp only at H
 have A6 := Aside0.mk A60
 clear A60
 replace H := bm H
 obtain ⟨t264, A70, H⟩ := H
 try dsimp only at H
 have A7 := Aside0.mk A70
 clear A70
 replace H := bm H
 obtain ⟨t265, A80, H⟩ := H
 try dsimp only at H
 have A8 := Aside0.mk A80
 clear A80
 replace H := bm H
 obtain ⟨t266, A90, H⟩ := H
 try dsimp only at H
 have A9 := Aside0.mk A90
 clear A90
 obtain ⟨y267, hy267⟩ : ∃ y_ : List (S61), y_ = (([(⟨a1_4, a1_5⟩ : S61)] : List (S61))) := ⟨_, rfl⟩
 replace H : ((proof_Proof_1.f k y267 a0).bind fun t270 => ((proof_Proof_1.f k l1_6 a0).bind fun t271 => ((proof_Proof_2.f k l1_7 a0).bind fun t272 => ((proof_Proof_1.f k (([(⟨a1_8, a1_9⟩ : S61)] : List (S61))) a0).bind fun t276 => ((proof_Proof_1.f k l1_10 a0).bind fun t277 => ((proof_Proof_2.f k l1_11 a0).bind fun t278 => ((octet_List.f k l1_12).bind fun t279 => ((joinS ([t262, t263, t264, t265, t266, t270, t271, t272, t276, t277, t278, t279] : List ByteArray) (⟨#[]⟩ : ByteArray)).bind fun t0_ => (some (t0_, 0)))))))))) = some (r1, r2) := by first | (rw [hy267]; with_reducible exact H) | (have H2_ := (Option.bind_some _ _).symm.trans H; rw [hy267]; with_reducible exact H2_) | (have H2_ := (Option.bind_some _ _).symm.trans H; with_reducible exact H2_) | with_reducible exact H | (rw [hy267]; exact H) | exact H
 have Ny267 := Aside0.mk hy267
 clear hy267
 replace H := bm H
 obtain ⟨t270, A100, H⟩ := H
 try dsimp only at H
 have A10 := Aside0.mk A100
 clear A100
 replace H := bm H
 obtain ⟨t271, A110, H⟩ := H
 try dsimp only at H
 have A11 := Aside0.mk A110
 clear A110
 replace H := bm H
 obtain ⟨t272, A120, H⟩ := H
 try dsimp only at H
 have A12 := Aside0.mk A120
 clear A120
 obtain ⟨y273, hy273⟩ : ∃ y_ : List (S61), y_ = (([(⟨a1_8, a1_9⟩ : S61)] : List (S61))) := ⟨_, rfl⟩
 replace H : ((proof_Proof_1.f k y273 a0).bind fun t276 => ((proof_Proof_1.f k l1_10 a0).bind fun t277 => ((proof_Proof_2.f k l1_11 a0).bind fun t278 => ((octet_List.f k l1_12).bind fun t279 => ((joinS ([t262, t263, t264, t265, t266, t270, t271, t272, t276, t277, t278, t279] : List ByteArray) (⟨#[]⟩ : ByteArray)).bind fun t0_ => (some (t0_, 0))))))) = some (r1, r2) := by first | (rw [hy273]; with_reducible exact H) | (have H2_ := (Option.bind_some _ _).symm.trans H; rw [hy273]; with_reducible exact H2_) | (have H2_ := (Option.bind_some _ _).symm.trans H; with_reducible exact H2_) | with_reducible exact H | (rw [hy273]; exact H) | exact H
 have Ny273 := Aside0.mk hy273
 clear hy273
 replace H := bm H
 obtain ⟨t276, A130, H⟩ := H
 try dsimp only at H
 have A13 := Aside0.mk A130
 clear A130
 replace H := bm H
 obtain ⟨t277, A140, H⟩ := H
 try dsimp only at H
 have A14 := Aside0.mk A140
 clear A140
 replace H := bm H
 obtain ⟨t278, A150, H⟩ := H
 try dsimp only at H
 have A15 := Aside0.mk A150
 clear A150
 replace H := bm H
 obtain ⟨t279, A160, H⟩ := H
 try dsimp only at H
 have A16 := Aside0.mk A160
 clear A160
 obtain ⟨y280, hy280⟩ : ∃ y_ : List ByteArray, y_ = (([t262, t263, t264, t265, t266, t270, t271, t272, t276, t277, t278, t279] : List ByteArray)) := ⟨_, rfl⟩
 replace H : ((joinS y280 (⟨#[]⟩ : ByteArray)).bind fun t0_ => (some (t0_, 0))) = some (r1, r2) := by rw [hy280]; exact H
 have Ny280 := Aside0.mk hy280
 clear hy280
 have H' := Aside0.mk H
 clear H
 go_enter Try.func27, Try.ntmps27
 try go_wp2_with (first | ((with_reducible refine gate_dst (N := 2) rfl ?_); refine box_event ?hg (N := 2) ?hd (cs := #[.int .i64 a0]) (t := 3) ?hr ?_; (case hd => rfl); (case hg => rfl); (case hr => go_simp <;> rfl); intro gl hgl wl hbox hb; have BY := Aside0.mk hbox; replace HB := bh HB hb; clear hb hbox hgl) | ((with_reducible refine gate_dst (N := 3) rfl ?_); refine box_event ?hg (N := 3) ?hd (cs := #[.string a1_0, .slice A1_1 l1_1.length c1_1, .slice A1_2 l1_2.length c1_2, .slice A1_3 l1_3.length c1_3, .int .u64 a1_4, .int .u64 a1_5, .slice A1_6 l1_6.length c1_6, .slice A1_7 l1_7.length c1_7, .int .u64 a1_8, .int .u64 a1_9, .slice A1_10 l1_10.length c1_10, .slice A1_11 l1_11.length c1_11, .slice A1_12 l1_12.length c1_12]) (t := 66) ?hr ?_; (case hd => rfl); (case hg => rfl); (case hr => go_simp <;> rfl); intro gb260 hg w17 hbox hb; replace BY := bb BY hb; have BK260 := Aside0.mk hbox; have GW260 := ge hg HB; have GE260 := ge hg HB; replace HB := bh HB hb; clear hb hbox hg; have hcY := lev_cell BY; obtain ⟨hcz18_0, hcz18_1, hcz18_2, hcz18_3, hcz18_4, hcz18_5, hcz18_6, hcz18_7, hcz18_8, hcz18_9, hcz18_10, hcz18_11, hcz18_12⟩ := zc13 BK260; obtain ⟨hfz18_0, hfz18_1, hfz18_2, hfz18_3, hfz18_4, hfz18_5, hfz18_6, hfz18_7, hfz18_8, hfz18_9, hfz18_10, hfz18_11, hfz18_12⟩ := zf13 BK260) | ((with_reducible refine gate_callee (f := 62) rfl ?_); refine goesL_ (some 13) rfl rfl Try.func62 (by kernel_rfl) rfl #[.int .i64 a0, .agg #[.string a1_0, .slice A1_1 l1_1.length c1_1, .slice A1_2 l1_2.length c1_2, .slice A1_3 l1_3.length c1_3, .int .u64 a1_4, .int .u64 a1_5, .slice A1_6 l1_6.length c1_6, .slice A1_7 l1_7.length c1_7, .int .u64 a1_8, .int .u64 a1_9, .slice A1_10 l1_10.length c1_10, .slice A1_11 l1_11.length c1_11, .slice A1_12 l1_12.length c1_12]] rfl (by (try simp only [mA, mC, mN]); first | done | rfl | (simp only [List.length_drop, List.length_take]; rfl)) ?_; (with_reducible refine (proof_shaped.calls k a0 a1_0 (fun k_ => k_ < w.heap.size) _ _ l1_1 (fun k_ => k_ < w.heap.size) _ _ l1_2 (fun k_ => k_ < w.heap.size) _ _ l1_3 a1_4 a1_5 (fun k_ => k_ < w.heap.size) _ _ l1_6 (fun k_ => k_ < w.heap.size) _ _ l1_7 a1_8 a1_9 (fun k_ => k_ < w.heap.size) _ _ l1_10 (fun k_ => k_ < w.heap.size) _ _ l1_11 _ _ l1_12 true _ ?side1 ?side2 ?side3 ?side4 ?side5 ?side6 ?side7 ?side8 ?side9 A3.out).mono ?_); (case side1 => exact Kd.V_mk HC1_1.out (Kd.F_below (Kd.C_F (Kd.heap_slice 61 k61_heap) HR1_1.out) (bq HB.out))); (case side2 => exact Kd.V_mk HC1_2.out (Kd.F_below (Kd.C_F k61_heap HR1_2.out) (bq HB.out))); (case side3 => exact Kd.V_mk HC1_3.out (Kd.F_below (Kd.C_F (Kd.heap_slice 61 k61_heap) HR1_3.out) (bq HB.out))); (case side4 => exact Kd.V_mk HC1_6.out (Kd.F_below (Kd.C_F k61_heap HR1_6.out) (bq HB.out))); (case side5 => exact Kd.V_mk HC1_7.out (Kd.F_below (Kd.C_F (Kd.heap_slice 61 k61_heap) HR1_7.out) (bq HB.out))); (case side6 => exact Kd.V_mk HC1_10.out (Kd.F_below (Kd.C_F k61_heap HR1_10.out) (bq HB.out))); (case side7 => exact Kd.V_mk HC1_11.out (Kd.F_below (Kd.C_F (Kd.heap_slice 61 k61_heap) HR1_11.out) (bq HB.out))); (case side8 => exact cq (Kd.C_below HR1_12.out HB.out)); (case side9 => exact HC1_12.out); rintro e w19 ⟨rfl, hb⟩; refine ⟨_, rfl, ?_⟩; replace BK260 := bb BK260 hb; replace BY := bb BY hb; replace HB := bh HB hb; (try clear hb); (try clear hk hi)) | ((with_reducible refine gate_dst (N := 6) rfl ?_); refine box_event ?hg (N := 6) ?hd (cs := #[.nilFunc]) (t := 120) ?hr ?_; (case hd => rfl); (case hg => rfl); (case hr => go_simp <;> rfl); intro go hgo wo hbox hb; have BO := Aside0.mk hbox; have NK := nl hgo BK260; have NY := nl hgo BY; have GO := ge hgo HB; replace BK260 := bb BK260 hb; replace BY := bb BY hb; replace HB := bh HB hb; clear hb hbox hgo; have cO := zc1 BO; have fO := blk_frozen BO.out 0) | ((with_reducible refine gate_dst (N := 8) rfl ?_); refine box_event ?hg (N := 8) ?hd (cs := #[.pointer none, .slice none 0 0]) (t := 125) ?hr ?_; (case hd => rfl); (case hg => rfl); (case hr => go_simp <;> rfl); intro g8 hg8 wB hbox hb; have G8 := Aside0.mk (show w.heap.size ≤ g8 from by rw [hg8]; exact below_size (below_set HB.out GO.out)); have BI := Aside0.mk hbox; replace BK260 := Aside0.mk (blk_below (blk_far (p := ⟨go, 0, none⟩) BK260.out NK.out _) hb); replace BY := Aside0.mk (blk_below (blk_far (p := ⟨go, 0, none⟩) BY.out NY.out _) hb); replace BO := Aside0.mk (blk_below (blk_put (cs := #[.nilFunc]) BO.out 0 _ rfl) hb); replace HB := Aside0.mk (below_step (below_set HB.out GO.out) hb); clear hb hbox hg8 cO fO))
 replace BK260 := Aside0.mk (blk_drew BK260.out)
 replace BY := Aside0.mk (blk_drew BY.out)
 replace BO := Aside0.mk (blk_drew BO.out)
 replace BI := Aside0.mk (blk_drew BI.out)
 replace HB := Aside0.mk (below_drew1 HB.out)
 refine start_ (n := 52) (S := fun w' => True) (ds := []) #[Z,Z,Z,Z,Z,Z,Z,Z,Z,Z,Z,Z,Z,Z,Z,Z,Z,Z,Z,Z,Z,Z,Z,Z,Z,Z,Z,Z,Z,Z,Z,Z,Z,Z,Z,Z,Z,Z,Z,Z,Z,Z,Z,Z,Z,Z,Z,Z,Z,Z,Z,Z] (by kernel_rfl) rfl rfl trivial (fun hHeld => ?_); refine with_tabW proof_Proof.tab6 proof_Proof.bits6 (fun HT_ HW_ => ?_)
 generalize wB.drew = w20 at BK260 BY BO BI HB hHeld ⊢
 refine pure_ (i := 2) (N := some 19) (v := ?_) (a' := ?_) #[Z,Z,Y,Z,Z,Z,Z,Z,Z,Z,Z,Z,Z,Z,Z,Z,Z,Z,Z,Z,Z,Z,Z,Z,Z,Z,Z,Z,Z,Z,Z,Z,Z,Z,Z,Z,Z,Z,Z,Z,Z,Z,Z,Z,Z,Z,Z,Z,Z,Z,Z,Z] rfl rfl (any_of HT_.out (by kernel_rfl)) (fun _ _ _ h => h) (Or.inl ⟨by rfl, ?_⟩) ?_ ?_
 rotate_left
 ·intro w'
  go_simp
  with_reducible rfl
 rotate_left
 ·simp only [Act.put, sA, s0, sS, i64_w, i32_w]
  rfl
 refine pure_ (i := 5) (N := some 22) (v := ?_) (a' := ?_) #[Z,Z,Y,Z,Z,Y,Z,Z,Z,Z,Z,Z,Z,Z,Z,Z,Z,Z,Z,Z,Z,Z,Z,Z,Z,Z,Z,Z,Z,Z,Z,Z,Z,Z,Z,Z,Z,Z,Z,Z,Z,Z,Z,Z,Z,Z,Z,Z,Z,Z,Z,Z] rfl rfl (any_of HT_.out (by kernel_rfl)) (fun _ _ _ h => h) (Or.inl ⟨by rfl, ?_⟩) ?_ ?_
 rotate_left
 ·intro w'
  go_simp
  with_reducible rfl
 rotate_left
 ·simp only [Act.put, sA, s0, sS, i64_w, i32_w]
  rfl
 refine pure_ (i := 6) (N := some 23) (v := ?_) (a' := ?_) #[Z,Z,Y,Z,Z,Y,Y,Z,Z,Z,Z,Z,Z,Z,Z,Z,Z,Z,Z,Z,Z,Z,Z,Z,Z,Z,Z,Z,Z,Z,Z,Z,Z,Z,Z,Z,Z,Z,Z,Z,Z,Z,Z,Z,Z,Z,Z,Z,Z,Z,Z,Z] rfl rfl (any_of HT_.out (by kernel_rfl)) (fun _ _ _ h => h) (Or.inl ⟨by rfl, ?_⟩) ?_ ?_
 rotate_left
 ·intro w'
  go_simp
  with_reducible rfl
 rotate_left
 ·simp only [Act.put, sA, s0, sS, i64_w, i32_w]
  rfl
 refine pure_ (i := 10) (N := some 27) (v := ?_) (a' := ?_) #[Z,Z,Y,Z,Z,Y,Y,Z,Z,Z,Y,Z,Z,Z,Z,Z,Z,Z,Z,Z,Z,Z,Z,Z,Z,Z,Z,Z,Z,Z,Z,Z,Z,Z,Z,Z,Z,Z,Z,Z,Z,Z,Z,Z,Z,Z,Z,Z,Z,Z,Z,Z] rfl rfl (any_of HT_.out (by kernel_rfl)) (fun _ _ _ h => h) (Or.inl ⟨by rfl, ?_⟩) ?_ ?_
 rotate_left
 ·intro w'
  go_simp
  with_reducible rfl
 rotate_left
 ·simp only [Act.put, sA, s0, sS, i64_w, i32_w]
  rfl
 refine pure_ (i := 13) (N := some 30) (v := ?_) (a' := ?_) #[Z,Z,Y,Z,Z,Y,Y,Z,Z,Z,Y,Z,Z,Y,Z,Z,Z,Z,Z,Z,Z,Z,Z,Z,Z,Z,Z,Z,Z,Z,Z,Z,Z,Z,Z,Z,Z,Z,Z,Z,Z,Z,Z,Z,Z,Z,Z,Z,Z,Z,Z,Z] rfl rfl (any_of HT_.out (by kernel_rfl)) (fun _ _ _ h => h) (Or.inl ⟨by rfl, ?_⟩) ?_ ?_
 rotate_left
 ·intro w'
  go_simp
  with_reducible rfl
 rotate_left
 ·simp only [Act.put, sA, s0, sS, i64_w, i32_w]
  rfl
 refine pure_ (i := 14) (N := some 31) (v := ?_) (a' := ?_) #[Z,Z,Y,Z,Z,Y,Y,Z,Z,Z,Y,Z,Z,Y,Y,Z,Z,Z,Z,Z,Z,Z,Z,Z,Z,Z,Z,Z,Z,Z,Z,Z,Z,Z,Z,Z,Z,Z,Z,Z,Z,Z,Z,Z,Z,Z,Z,Z,Z,Z,Z,Z] rfl rfl (any_of HT_.out (by kernel_rfl)) (fun _ _ _ h => h) (Or.inl ⟨by rfl, ?_⟩) ?_ ?_
 rotate_left
 ·intro w'
  go_simp
  with_reducible rfl
 rotate_left
 ·simp only [Act.put, sA, s0, sS, i64_w, i32_w]
  rfl
 refine pure_ (i := 18) (N := some 35) (v := ?_) (a' := ?_) #[Z,Z,Y,Z,Z,Y,Y,Z,Z,Z,Y,Z,Z,Y,Y,Z,Z,Z,Y,Z,Z,Z,Z,Z,Z,Z,Z,Z,Z,Z,Z,Z,Z,Z,Z,Z,Z,Z,Z,Z,Z,Z,Z,Z,Z,Z,Z,Z,Z,Z,Z,Z] rfl rfl (any_of HT_.out (by kernel_rfl)) (fun _ _ _ h => h) (Or.inl ⟨by rfl, ?_⟩) ?_ ?_
 rotate_left
 ·intro w'
  go_simp
  with_reducible rfl
 rotate_left
 ·simp only [Act.put, sA, s0, sS, i64_w, i32_w]
  rfl
 refine pure_ (i := 23) (N := some 40) (v := ?_) (a' := ?_) #[Z,Z,Y,Z,Z,Y,Y,Z,Z,Z,Y,Z,Z,Y,Y,Z,Z,Z,Y,Z,Z,Z,Z,Y,Z,Z,Z,Z,Z,Z,Z,Z,Z,Z,Z,Z,Z,Z,Z,Z,Z,Z,Z,Z,Z,Z,Z,Z,Z,Z,Z,Z] rfl rfl (any_of HT_.out (by kernel_rfl)) (fun _ _ _ h => h) (Or.inl ⟨by rfl, ?_⟩) ?_ ?_
 rotate_left
 ·intro w'
  go_simp
  with_reducible rfl
 rotate_left
 ·simp only [Act.put, sA, s0, sS, i64_w, i32_w]
  rfl
 refine pure_ (i := 26) (N := some 43) (v := ?_) (a' := ?_) #[Z,Z,Y,Z,Z,Y,Y,Z,Z,Z,Y,Z,Z,Y,Y,Z,Z,Z,Y,Z,Z,Z,Z,Y,Z,Z,Y,Z,Z,Z,Z,Z,Z,Z,Z,Z,Z,Z,Z,Z,Z,Z,Z,Z,Z,Z,Z,Z,Z,Z,Z,Z] rfl rfl (any_of HT_.out (by kernel_rfl)) (fun _ _ _ h => h) (Or.inl ⟨by rfl, ?_⟩) ?_ ?_
 rotate_left
 ·intro w'
  go_simp
  with_reducible rfl
 rotate_left
 ·simp only [Act.put, sA, s0, sS, i64_w, i32_w]
  rfl
 refine pure_ (i := 27) (N := some 44) (v := ?_) (a' := ?_) #[Z,Z,Y,Z,Z,Y,Y,Z,Z,Z,Y,Z,Z,Y,Y,Z,Z,Z,Y,Z,Z,Z,Z,Y,Z,Z,Y,Y,Z,Z,Z,Z,Z,Z,Z,Z,Z,Z,Z,Z,Z,Z,Z,Z,Z,Z,Z,Z,Z,Z,Z,Z] rfl rfl (any_of HT_.out (by kernel_rfl)) (fun _ _ _ h => h) (Or.inl ⟨by rfl, ?_⟩) ?_ ?_
 rotate_left
 ·intro w'
  go_simp
  with_reducible rfl
 rotate_left
 ·simp only [Act.put, sA, s0, sS, i64_w, i32_w]
  rfl
 refine pure_ (i := 31) (N := some 48) (v := ?_) (a' := ?_) #[Z,Z,Y,Z,Z,Y,Y,Z,Z,Z,Y,Z,Z,Y,Y,Z,Z,Z,Y,Z,Z,Z,Z,Y,Z,Z,Y,Y,Z,Z,Z,Y,Z,Z,Z,Z,Z,Z,Z,Z,Z,Z,Z,Z,Z,Z,Z,Z,Z,Z,Z,Z] rfl rfl (any_of HT_.out (by kernel_rfl)) (fun _ _ _ h => h) (Or.inl ⟨by rfl, ?_⟩) ?_ ?_
 rotate_left
 ·intro w'
  go_simp
  with_reducible rfl
 rotate_left
 ·simp only [Act.put, sA, s0, sS, i64_w, i32_w]
  rfl
 refine pure_ (i := 36) (N := some 53) (v := ?_) (a' := ?_) #[Z,Z,Y,Z,Z,Y,Y,Z,Z,Z,Y,Z,Z,Y,Y,Z,Z,Z,Y,Z,Z,Z,Z,Y,Z,Z,Y,Y,Z,Z,Z,Y,Z,Z,Z,Z,Y,Z,Z,Z,Z,Z,Z,Z,Z,Z,Z,Z,Z,Z,Z,Z] rfl rfl (any_of HT_.out (by kernel_rfl)) (fun _ _ _ h => h) (Or.inl ⟨by rfl, ?_⟩) ?_ ?_
 rotate_left
 ·intro w'
  go_simp
  with_reducible rfl
 rotate_left
 ·simp only [Act.put, sA, s0, sS, i64_w, i32_w]
  rfl
 refine pure_ (i := 37) (N := some 54) (v := ?_) (a' := ?_) #[Z,Z,Y,Z,Z,Y,Y,Z,Z,Z,Y,Z,Z,Y,Y,Z,Z,Z,Y,Z,Z,Z,Z,Y,Z,Z,Y,Y,Z,Z,Z,Y,Z,Z,Z,Z,Y,Y,Z,Z,Z,Z,Z,Z,Z,Z,Z,Z,Z,Z,Z,Z] rfl rfl (any_of HT_.out (by kernel_rfl)) (fun _ _ _ h => h) (Or.inl ⟨by rfl, ?_⟩) ?_ ?_
 rotate_left
 ·intro w'
  go_simp
  with_reducible rfl
 rotate_left
 ·simp only [Act.put, sA, s0, sS, i64_w, i32_w]
  rfl
 refine pure_ (i := 40) (N := some 57) (v := ?_) (a' := ?_) #[Z,Z,Y,Z,Z,Y,Y,Z,Z,Z,Y,Z,Z,Y,Y,Z,Z,Z,Y,Z,Z,Z,Z,Y,Z,Z,Y,Y,Z,Z,Z,Y,Z,Z,Z,Z,Y,Y,Z,Z,Y,Z,Z,Z,Z,Z,Z,Z,Z,Z,Z,Z] rfl rfl (any_of HT_.out (by kernel_rfl)) (fun _ _ _ h => h) (Or.inl ⟨by rfl, ?_⟩) ?_ ?_
 rotate_left
 ·intro w'
  go_simp
  with_reducible rfl
 rotate_left
 ·simp only [Act.put, sA, s0, sS, i64_w, i32_w]
  rfl
 refine pure_ (i := 41) (N := some 58) (v := ?_) (a' := ?_) #[Z,Z,Y,Z,Z,Y,Y,Z,Z,Z,Y,Z,Z,Y,Y,Z,Z,Z,Y,Z,Z,Z,Z,Y,Z,Z,Y,Y,Z,Z,Z,Y,Z,Z,Z,Z,Y,Y,Z,Z,Y,Y,Z,Z,Z,Z,Z,Z,Z,Z,Z,Z] rfl rfl (any_of HT_.out (by kernel_rfl)) (fun _ _ _ h => h) (Or.inl ⟨by rfl, ?_⟩) ?_ ?_
 rotate_left
 ·intro w'
  go_simp
  with_reducible rfl
 rotate_left
 ·simp only [Act.put, sA, s0, sS, i64_w, i32_w]
  rfl
 refine pure_ (i := 42) (N := some 59) (v := ?_) (a' := ?_) #[Z,Z,Y,Z,Z,Y,Y,Z,Z,Z,Y,Z,Z,Y,Y,Z,Z,Z,Y,Z,Z,Z,Z,Y,Z,Z,Y,Y,Z,Z,Z,Y,Z,Z,Z,Z,Y,Y,Z,Z,Y,Y,Y,Z,Z,Z,Z,Z,Z,Z,Z,Z] rfl rfl (any_of HT_.out (by kernel_rfl)) (fun _ _ _ h => h) (Or.inl ⟨by rfl, ?_⟩) ?_ ?_
 rotate_left
 ·intro w'
  go_simp
  with_reducible rfl
 rotate_left
 ·simp only [Act.put, sA, s0, sS, i64_w, i32_w]
  rfl
 refine pure_ (i := 45) (N := some 62) (v := ?_) (a' := ?_) #[Z,Z,Y,Z,Z,Y,Y,Z,Z,Z,Y,Z,Z,Y,Y,Z,Z,Z,Y,Z,Z,Z,Z,Y,Z,Z,Y,Y,Z,Z,Z,Y,Z,Z,Z,Z,Y,Y,Z,Z,Y,Y,Y,Z,Z,Y,Z,Z,Z,Z,Z,Z] rfl rfl (any_of HT_.out (by kernel_rfl)) (fun _ _ _ h => h) (Or.inl ⟨by rfl, ?_⟩) ?_ ?_
 rotate_left
 ·intro w'
  go_simp
  with_reducible rfl
 rotate_left
 ·simp only [Act.put, sA, s0, sS, i64_w, i32_w]
  rfl
 refine pure_ (i := 46) (N := some 63) (v := ?_) (a' := ?_) #[Z,Z,Y,Z,Z,Y,Y,Z,Z,Z,Y,Z,Z,Y,Y,Z,Z,Z,Y,Z,Z,Z,Z,Y,Z,Z,Y,Y,Z,Z,Z,Y,Z,Z,Z,Z,Y,Y,Z,Z,Y,Y,Y,Z,Z,Y,Y,Z,Z,Z,Z,Z] rfl rfl (any_of HT_.out (by kernel_rfl)) (fun _ _ _ h => h) (Or.inl ⟨by rfl, ?_⟩) ?_ ?_
 rotate_left
 ·intro w'
  go_simp
  with_reducible rfl
 rotate_left
 ·simp only [Act.put, sA, s0, sS, i64_w, i32_w]
  rfl
 refine pure_ (i := 51) (N := some 68) (v := ?_) (a' := ?_) #[Z,Z,Y,Z,Z,Y,Y,Z,Z,Z,Y,Z,Z,Y,Y,Z,Z,Z,Y,Z,Z,Z,Z,Y,Z,Z,Y,Y,Z,Z,Z,Y,Z,Z,Z,Z,Y,Y,Z,Z,Y,Y,Y,Z,Z,Y,Y,Z,Z,Z,Z,Y] rfl rfl (any_of HT_.out (by kernel_rfl)) (fun _ _ _ h => h) (Or.inl ⟨by rfl, ?_⟩) ?_ ?_
 rotate_left
 ·intro w'
  go_simp
  with_reducible rfl
 rotate_left
 ·simp only [Act.put, sA, s0, sS, i64_w, i32_w]
  rfl
 refine inv_at [0, 1, 3, 4, 7, 8, 9, 11, 12, 15, 16, 17, 19, 20, 21, 22, 24, 25, 28, 29, 30, 32, 33, 34, 35, 38, 39, 43, 44, 47, 48, 49, 50] (fun a0_ b a w' => ∃ (v268 : Value) (v274 : Value) (v281 : Value), a = putSel a0_ b [(0, 17, .int .i64 a0), (1, 18, .string t262), (3, 20, .string a1_0), (4, 21, .string t263), (7, 24, .slice A1_1 l1_1.length c1_1), (8, 25, .string t264), (9, 26, .func (.func 63) #[] #[.pointer (some ⟨gl, 0, none⟩)]), (11, 28, .slice A1_2 l1_2.length c1_2), (12, 29, .string t265), (15, 32, .slice A1_3 l1_3.length c1_3), (16, 33, .string t266), (17, 34, .func (.func 63) #[] #[.pointer (some ⟨gl, 0, none⟩)]), (19, 36, .agg #[.int .u64 a1_4, .int .u64 a1_5]), (20, 37, v268), (21, 38, .string t270), (22, 39, .func (.func 63) #[] #[.pointer (some ⟨gl, 0, none⟩)]), (24, 41, .slice A1_6 l1_6.length c1_6), (25, 42, .string t271), (28, 45, .slice A1_7 l1_7.length c1_7), (29, 46, .string t272), (30, 47, .func (.func 63) #[] #[.pointer (some ⟨gl, 0, none⟩)]), (32, 49, .agg #[.int .u64 a1_8, .int .u64 a1_9]), (33, 50, v274), (34, 51, .string t276), (35, 52, .func (.func 63) #[] #[.pointer (some ⟨gl, 0, none⟩)]), (38, 55, .slice A1_10 l1_10.length c1_10), (39, 56, .string t277), (43, 60, .slice A1_11 l1_11.length c1_11), (44, 61, .string t278), (47, 64, .slice A1_12 l1_12.length c1_12), (48, 65, .string t279), (49, 66, v281), (50, 67, .int .i64 (y280.length : Int))] ∧ (w'.heap[gb260]? = some (.cells #[.string a1_0, .slice A1_1 l1_1.length c1_1, .slice A1_2 l1_2.length c1_2, .slice A1_3 l1_3.length c1_3, .int .u64 a1_4, .int .u64 a1_5, .slice A1_6 l1_6.length c1_6, .slice A1_7 l1_7.length c1_7, .int .u64 a1_8, .int .u64 a1_9, .slice A1_10 l1_10.length c1_10, .slice A1_11 l1_11.length c1_11, .slice A1_12 l1_12.length c1_12] 66 (0, 0))) ∧ (w'.heap[gl]? = some (.cells #[.int .i64 a0] 3 (0, 0))) ∧ (w'.heap[go]? = some (.cells #[.func (.func 63) #[] #[.pointer (some ⟨gl, 0, none⟩)]] 120 (0, 0))) ∧ (w'.heap[g8]? = some (.cells #[.pointer none, .slice none 0 0] 125 (0, 0))) ∧ (Below w.heap.size w w') ∧ (b 20 = true → Kd.R k61 61 w' w.heap.size (fun _ => True) v268 y267) ∧ (b 33 = true → Kd.R k61 61 w' w.heap.size (fun _ => True) v274 y273) ∧ (b 49 = true → Kd.R Kd.string 9 w' w.heap.size (fun _ => True) v281 y280)) HT_.out HW_.out (by kernel_rfl) (by kernel_rfl) ?_ ?_ ?_
 ·exact ⟨.bool false, .bool false, .bool false, by simp only [putSel, Bool.false_eq_true, if_false], BK260.out, BY.out, BO.out, BI.out, HB.out, fun h_ => absurd h_ (by decide), fun h_ => absurd h_ (by decide), fun h_ => absurd h_ (by decide)⟩
 ·skip
  clear BK260 BY BO BI HB
  refine steps_cons ?_ ?_
  ·rintro b a w' ⟨v268, v274, v281, ha, Q_BK260, Q_BY, Q_BO, Q_BI, Q_HB, Q_HO269, Q_HO275, Q_HO282⟩ hb_ hon hoff
   refine ⟨_, rfl, fun K hK => ?_⟩
   have e2 : a.tmps[2]? = some (.pointer (some ⟨gl, 0, none⟩)) := by rw [ha]; exact (putSel_off rfl).trans rfl
   replace ha := Aside0.mk ha
   have BY := Aside0.mk Q_BY
   have hc0_ : w'.cell? ⟨gl, 0, none⟩ = some (.int .i64 a0) := lev_cell BY
   refine value_ (w1 := w') (v := .int .i64 a0) (by rfl) rfl ?_ ?_
   ·go_simp
    (try simp only [i64_w])
    try rfl
   refine hK.out _ _ ⟨v268, v274, v281, (by rw [ha.out]; exact putSel_upk 0 hb_ rfl rfl rfl), Q_BK260, Q_BY, Q_BO, Q_BI, Q_HB, Q_HO269, Q_HO275, fun h0_ => absurd ((hoff 49 (by kernel_rfl)).symm.trans h0_) (by decide)⟩
  refine steps_cons ?_ ?_
  ·rintro b a w' ⟨v268, v274, v281, ha, Q_BK260, Q_BY, Q_BO, Q_BI, Q_HB, Q_HO269, Q_HO275, Q_HO282⟩ hb_ hon hoff
   refine ⟨_, rfl, fun K hK => ?_⟩
   have e17 : a.tmps[17]? = some (.int .i64 a0) := by rw [ha]; exact putSel_on (e := (0, 17, .int .i64 a0)) 0 rfl rfl (hon 0 (by kernel_rfl)) rfl
   replace ha := Aside0.mk ha
   have BK260 := Aside0.mk Q_BK260
   have BY := Aside0.mk Q_BY
   have BO := Aside0.mk Q_BO
   have BI := Aside0.mk Q_BI
   have HB := Aside0.mk Q_HB
   refine goes_ Try.func67 (by kernel_rfl) rfl #[.int .i64 a0] (by rfl) rfl rfl (by first | (simp only [List.map_toArray, List.map_cons, List.map_nil, Act.eval, Array.getD_eq_getD_getElem?, Option.getD_some, e17]; done) | (simp only [List.map_toArray, List.map_cons, List.map_nil, Act.eval, Array.getD_eq_getD_getElem?, Option.getD_some, e17]; rfl)) ?_
   with_reducible refine (octet_Num.calls a0 t262 _ A5.out).mono ?_
   rintro e w21 ⟨rfl, hb⟩
   refine ⟨_, rfl, ?_⟩
   have n0_ := Aside0.mk (blk_below (g := gb260) (o := .cells #[.string a1_0, .slice A1_1 l1_1.length c1_1, .slice A1_2 l1_2.length c1_2, .slice A1_3 l1_3.length c1_3, .int .u64 a1_4, .int .u64 a1_5, .slice A1_6 l1_6.length c1_6, .slice A1_7 l1_7.length c1_7, .int .u64 a1_8, .int .u64 a1_9, .slice A1_10 l1_10.length c1_10, .slice A1_11 l1_11.length c1_11, .slice A1_12 l1_12.length c1_12] 66 (0, 0)) (bk BK260.out) hb)
   have nY_ := Aside0.mk (blk_below (g := gl) (o := .cells #[.int .i64 a0] 3 (0, 0)) (bk BY.out) hb)
   have nO_ := Aside0.mk (blk_below (g := go) (o := .cells #[.func (.func 63) #[] #[.pointer (some ⟨gl, 0, none⟩)]] 120 (0, 0)) (bk BO.out) hb)
   have nI_ := Aside0.mk (blk_below (g := g8) (o := .cells #[.pointer none, .slice none 0 0] 125 (0, 0)) (bk BI.out) hb)
   have n1_ := Aside0.mk (below_step (bq HB.out) hb)
   have z_HO269 := fun (h0_ : b 20 = true) => (show Kd.R k61 61 w21 w.heap.size (fun _ => True) v268 y267 from by first | exact (Kd.R_below (by (with_reducible repeat refine kl ?_); exact (Q_HO269 h0_)) hb) | exact Kd.R_mono (Kd.R_below (by (with_reducible repeat refine kl ?_); exact (Q_HO269 h0_)) hb) (fun _ h_ => by first | trivial | exact h_ | exact h_.1))
   have z_HO275 := fun (h0_ : b 33 = true) => (show Kd.R k61 61 w21 w.heap.size (fun _ => True) v274 y273 from by first | exact (Kd.R_below (by (with_reducible repeat refine kl ?_); exact (Q_HO275 h0_)) hb) | exact Kd.R_mono (Kd.R_below (by (with_reducible repeat refine kl ?_); exact (Q_HO275 h0_)) hb) (fun _ h_ => by first | trivial | exact h_ | exact h_.1))
   clear BK260 BY BO BI
   clear HB
   have BK260 := n0_
   have BY := nY_
   have BO := nO_
   have BI := nI_
   have HB := n1_
   clear n0_ n1_ nY_ nO_ nI_
   (try clear hb)
   refine hK.out _ _ ⟨v268, v274, v281, (by rw [ha.out]; exact putSel_upk 1 hb_ rfl rfl rfl), (bk BK260.out), (bk BY.out), (bk BO.out), (bk BI.out), (bq HB.out), z_HO269, z_HO275, fun h0_ => absurd ((hoff 49 (by kernel_rfl)).symm.trans h0_) (by decide)⟩
  refine steps_cons ?_ ?_
  ·rintro b a w' ⟨v268, v274, v281, ha, Q_BK260, Q_BY, Q_BO, Q_BI, Q_HB, Q_HO269, Q_HO275, Q_HO282⟩ hb_ hon hoff
   refine ⟨_, rfl, fun K hK => ?_⟩
   have e19 : a.tmps[19]? = some (.pointer (some ⟨gb260, 0, none⟩)) := by rw [ha]; exact (putSel_off rfl).trans rfl
   replace ha := Aside0.mk ha
   have BK260 := Aside0.mk Q_BK260
   have BY := Aside0.mk Q_BY
   have BO := Aside0.mk Q_BO
   have BI := Aside0.mk Q_BI
   have HB := Aside0.mk Q_HB
   obtain ⟨hc0_, hc1_, hc2_, hc3_, hc4_, hc5_, hc6_, hc7_, hc8_, hc9_, hc10_, hc11_, hc12_⟩ := zc13 BK260
   refine value_ (w1 := w') (v := .string a1_0) (by rfl) rfl ?_ ?_
   ·go_simp
    (try simp only [i64_w])
    try rfl
   refine hK.out _ _ ⟨v268, v274, v281, (by rw [ha.out]; exact putSel_upk 2 hb_ rfl rfl rfl), Q_BK260, Q_BY, Q_BO, Q_BI, Q_HB, Q_HO269, Q_HO275, fun h0_ => absurd ((hoff 49 (by kernel_rfl)).symm.trans h0_) (by decide)⟩
  refine steps_cons ?_ ?_
  ·rintro b a w' ⟨v268, v274, v281, ha, Q_BK260, Q_BY, Q_BO, Q_BI, Q_HB, Q_HO269, Q_HO275, Q_HO282⟩ hb_ hon hoff
   refine ⟨_, rfl, fun K hK => ?_⟩
   have e20 : a.tmps[20]? = some (.string a1_0) := by rw [ha]; exact putSel_on (e := (3, 20, .string a1_0)) 2 rfl rfl (hon 3 (by kernel_rfl)) rfl
   replace ha := Aside0.mk ha
   have BK260 := Aside0.mk Q_BK260
   have BY := Aside0.mk Q_BY
   have BO := Aside0.mk Q_BO
   have BI := Aside0.mk Q_BI
   have HB := Aside0.mk Q_HB
   refine goes_ Try.func68 (by kernel_rfl) rfl #[.string a1_0] (by rfl) rfl rfl (by first | (simp only [List.map_toArray, List.map_cons, List.map_nil, Act.eval, Array.getD_eq_getD_getElem?, Option.getD_some, e20]; done) | (simp only [List.map_toArray, List.map_cons, List.map_nil, Act.eval, Array.getD_eq_getD_getElem?, Option.getD_some, e20]; rfl)) ?_
   with_reducible refine (octet_Text.calls a1_0 t263 _ A6.out).mono ?_
   rintro e w23 ⟨rfl, hb⟩
   refine ⟨_, rfl, ?_⟩
   have n0_ := Aside0.mk (blk_below (g := gb260) (o := .cells #[.string a1_0, .slice A1_1 l1_1.length c1_1, .slice A1_2 l1_2.length c1_2, .slice A1_3 l1_3.length c1_3, .int .u64 a1_4, .int .u64 a1_5, .slice A1_6 l1_6.length c1_6, .slice A1_7 l1_7.length c1_7, .int .u64 a1_8, .int .u64 a1_9, .slice A1_10 l1_10.length c1_10, .slice A1_11 l1_11.length c1_11, .slice A1_12 l1_12.length c1_12] 66 (0, 0)) (bk BK260.out) hb)
   have nY_ := Aside0.mk (blk_below (g := gl) (o := .cells #[.int .i64 a0] 3 (0, 0)) (bk BY.out) hb)
   have nO_ := Aside0.mk (blk_below (g := go) (o := .cells #[.func (.func 63) #[] #[.pointer (some ⟨gl, 0, none⟩)]] 120 (0, 0)) (bk BO.out) hb)
   have nI_ := Aside0.mk (blk_below (g := g8) (o := .cells #[.pointer none, .slice none 0 0] 125 (0, 0)) (bk BI.out) hb)
   have n1_ := Aside0.mk (below_step (bq HB.out) hb)
   have z_HO269 := fun (h0_ : b 20 = true) => (show Kd.R k61 61 w23 w.heap.size (fun _ => True) v268 y267 from by first | exact (Kd.R_below (by (with_reducible repeat refine kl ?_); exact (Q_HO269 h0_)) hb) | exact Kd.R_mono (Kd.R_below (by (with_reducible repeat refine kl ?_); exact (Q_HO269 h0_)) hb) (fun _ h_ => by first | trivial | exact h_ | exact h_.1))
   have z_HO275 := fun (h0_ : b 33 = true) => (show Kd.R k61 61 w23 w.heap.size (fun _ => True) v274 y273 from by first | exact (Kd.R_below (by (with_reducible repeat refine kl ?_); exact (Q_HO275 h0_)) hb) | exact Kd.R_mono (Kd.R_below (by (with_reducible repeat refine kl ?_); exact (Q_HO275 h0_)) hb) (fun _ h_ => by first | trivial | exact h_ | exact h_.1))
   clear BK260 BY BO BI
   clear HB
   have BK260 := n0_
   have BY := nY_
   have BO := nO_
   have BI := nI_
   have HB := n1_
   clear n0_ n1_ nY_ nO_ nI_
   (try clear hb)
   refine hK.out _ _ ⟨v268, v274, v281, (by rw [ha.out]; exact putSel_upk 3 hb_ rfl rfl rfl), (bk BK260.out), (bk BY.out), (bk BO.out), (bk BI.out), (bq HB.out), z_HO269, z_HO275, fun h0_ => absurd ((hoff 49 (by kernel_rfl)).symm.trans h0_) (by decide)⟩
  refine steps_cons ?_ ?_
  ·rintro b a w' ⟨v268, v274, v281, ha, Q_BK260, Q_BY, Q_BO, Q_BI, Q_HB, Q_HO269, Q_HO275, Q_HO282⟩ hb_ hon hoff
   refine ⟨_, rfl, fun K hK => ?_⟩
   have e23 : a.tmps[23]? = some (.pointer (some ⟨gb260, 1, none⟩)) := by rw [ha]; exact (putSel_off rfl).trans rfl
   replace ha := Aside0.mk ha
   have BK260 := Aside0.mk Q_BK260
   have BY := Aside0.mk Q_BY
   have BO := Aside0.mk Q_BO
   have BI := Aside0.mk Q_BI
   have HB := Aside0.mk Q_HB
   obtain ⟨hc0_, hc1_, hc2_, hc3_, hc4_, hc5_, hc6_, hc7_, hc8_, hc9_, hc10_, hc11_, hc12_⟩ := zc13 BK260
   refine value_ (w1 := w') (v := .slice A1_1 l1_1.length c1_1) (by rfl) rfl ?_ ?_
   ·go_simp
    (try simp only [i64_w])
    try rfl
   refine hK.out _ _ ⟨v268, v274, v281, (by rw [ha.out]; exact putSel_upk 4 hb_ rfl rfl rfl), Q_BK260, Q_BY, Q_BO, Q_BI, Q_HB, Q_HO269, Q_HO275, fun h0_ => absurd ((hoff 49 (by kernel_rfl)).symm.trans h0_) (by decide)⟩
  refine steps_cons ?_ ?_
  ·rintro b a w' ⟨v268, v274, v281, ha, Q_BK260, Q_BY, Q_BO, Q_BI, Q_HB, Q_HO269, Q_HO275, Q_HO282⟩ hb_ hon hoff
   refine ⟨_, rfl, fun K hK => ?_⟩
   have e24 : a.tmps[24]? = some (.slice A1_1 l1_1.length c1_1) := by rw [ha]; exact putSel_on (e := (7, 24, .slice A1_1 l1_1.length c1_1)) 4 rfl rfl (hon 7 (by kernel_rfl)) rfl
   have e22 : a.tmps[22]? = some (.func (.func 65) #[] #[.pointer (some ⟨go, 0, none⟩)]) := by rw [ha]; exact (putSel_off rfl).trans rfl
   replace ha := Aside0.mk ha
   have BK260 := Aside0.mk Q_BK260
   have BY := Aside0.mk Q_BY
   have BO := Aside0.mk Q_BO
   have BI := Aside0.mk Q_BI
   have HB := Aside0.mk Q_HB
   refine goesV_ Try.func65 (by kernel_rfl) rfl (args := #[.slice A1_1 l1_1.length c1_1, .pointer (some ⟨go, 0, none⟩)]) (cap := #[.pointer (some ⟨go, 0, none⟩)]) (by rfl) rfl rfl (by simp [Act.eval, Array.getD_eq_getD_getElem?, e24, e22]) (by simp [Act.eval, Array.getD_eq_getD_getElem?, e24, e22]) ?_
   with_reducible refine (proof_Proof_2.calls (gl := gl) (go := go) (hO := one_of_ BO.out) (hY := lev_of BY.out) k _ _ l1_1 a0 t264 _ ?side1 ?side2 A7.out).mono ?_
   (case side1 => exact cq (Kd.C_below HR1_1.out HB.out))
   (case side2 => exact HC1_1.out)
   rintro e w24 ⟨rfl, hb⟩
   refine ⟨_, rfl, ?_⟩
   have n0_ := Aside0.mk (blk_below (g := gb260) (o := .cells #[.string a1_0, .slice A1_1 l1_1.length c1_1, .slice A1_2 l1_2.length c1_2, .slice A1_3 l1_3.length c1_3, .int .u64 a1_4, .int .u64 a1_5, .slice A1_6 l1_6.length c1_6, .slice A1_7 l1_7.length c1_7, .int .u64 a1_8, .int .u64 a1_9, .slice A1_10 l1_10.length c1_10, .slice A1_11 l1_11.length c1_11, .slice A1_12 l1_12.length c1_12] 66 (0, 0)) (bk BK260.out) hb)
   have nY_ := Aside0.mk (blk_below (g := gl) (o := .cells #[.int .i64 a0] 3 (0, 0)) (bk BY.out) hb)
   have nO_ := Aside0.mk (blk_below (g := go) (o := .cells #[.func (.func 63) #[] #[.pointer (some ⟨gl, 0, none⟩)]] 120 (0, 0)) (bk BO.out) hb)
   have nI_ := Aside0.mk (blk_below (g := g8) (o := .cells #[.pointer none, .slice none 0 0] 125 (0, 0)) (bk BI.out) hb)
   have n1_ := Aside0.mk (below_step (bq HB.out) hb)
   have z_HO269 := fun (h0_ : b 20 = true) => (show Kd.R k61 61 w24 w.heap.size (fun _ => True) v268 y267 from by first | exact (Kd.R_below (by (with_reducible repeat refine kl ?_); exact (Q_HO269 h0_)) hb) | exact Kd.R_mono (Kd.R_below (by (with_reducible repeat refine kl ?_); exact (Q_HO269 h0_)) hb) (fun _ h_ => by first | trivial | exact h_ | exact h_.1))
   have z_HO275 := fun (h0_ : b 33 = true) => (show Kd.R k61 61 w24 w.heap.size (fun _ => True) v274 y273 from by first | exact (Kd.R_below (by (with_reducible repeat refine kl ?_); exact (Q_HO275 h0_)) hb) | exact Kd.R_mono (Kd.R_below (by (with_reducible repeat refine kl ?_); exact (Q_HO275 h0_)) hb) (fun _ h_ => by first | trivial | exact h_ | exact h_.1))
   clear BK260 BY BO BI
   clear HB
   have BK260 := n0_
   have BY := nY_
   have BO := nO_
   have BI := nI_
   have HB := n1_
   clear n0_ n1_ nY_ nO_ nI_
   (try clear hb)
   refine hK.out _ _ ⟨v268, v274, v281, (by rw [ha.out]; exact putSel_upk 5 hb_ rfl rfl rfl), (bk BK260.out), (bk BY.out), (bk BO.out), (bk BI.out), (bq HB.out), z_HO269, z_HO275, fun h0_ => absurd ((hoff 49 (by kernel_rfl)).symm.trans h0_) (by decide)⟩
  refine steps_cons ?_ ?_
  ·rintro b a w' ⟨v268, v274, v281, ha, Q_BK260, Q_BY, Q_BO, Q_BI, Q_HB, Q_HO269, Q_HO275, Q_HO282⟩ hb_ hon hoff
   refine ⟨_, rfl, fun K hK => ?_⟩
   have e6 : a.tmps[6]? = some (.pointer (some ⟨go, 0, none⟩)) := by rw [ha]; exact (putSel_off rfl).trans rfl
   replace ha := Aside0.mk ha
   have BO := Aside0.mk Q_BO
   have hc0_ : w'.cell? ⟨go, 0, none⟩ = some (.func (.func 63) #[] #[.pointer (some ⟨gl, 0, none⟩)]) := one_cell BO
   refine value_ (w1 := w') (v := .func (.func 63) #[] #[.pointer (some ⟨gl, 0, none⟩)]) (by rfl) rfl ?_ ?_
   ·go_simp
    (try simp only [i64_w])
    try rfl
   refine hK.out _ _ ⟨v268, v274, v281, (by rw [ha.out]; exact putSel_upk 6 hb_ rfl rfl rfl), Q_BK260, Q_BY, Q_BO, Q_BI, Q_HB, Q_HO269, Q_HO275, fun h0_ => absurd ((hoff 49 (by kernel_rfl)).symm.trans h0_) (by decide)⟩
  refine steps_cons ?_ ?_
  ·rintro b a w' ⟨v268, v274, v281, ha, Q_BK260, Q_BY, Q_BO, Q_BI, Q_HB, Q_HO269, Q_HO275, Q_HO282⟩ hb_ hon hoff
   refine ⟨_, rfl, fun K hK => ?_⟩
   have e27 : a.tmps[27]? = some (.pointer (some ⟨gb260, 2, none⟩)) := by rw [ha]; exact (putSel_off rfl).trans rfl
   replace ha := Aside0.mk ha
   have BK260 := Aside0.mk Q_BK260
   have BY := Aside0.mk Q_BY
   have BO := Aside0.mk Q_BO
   have BI := Aside0.mk Q_BI
   have HB := Aside0.mk Q_HB
   obtain ⟨hc0_, hc1_, hc2_, hc3_, hc4_, hc5_, hc6_, hc7_, hc8_, hc9_, hc10_, hc11_, hc12_⟩ := zc13 BK260
   refine value_ (w1 := w') (v := .slice A1_2 l1_2.length c1_2) (by rfl) rfl ?_ ?_
   ·go_simp
    (try simp only [i64_w])
    try rfl
   refine hK.out _ _ ⟨v268, v274, v281, (by rw [ha.out]; exact putSel_upk 7 hb_ rfl rfl rfl), Q_BK260, Q_BY, Q_BO, Q_BI, Q_HB, Q_HO269, Q_HO275, fun h0_ => absurd ((hoff 49 (by kernel_rfl)).symm.trans h0_) (by decide)⟩
  refine steps_cons ?_ ?_
  ·rintro b a w' ⟨v268, v274, v281, ha, Q_BK260, Q_BY, Q_BO, Q_BI, Q_HB, Q_HO269, Q_HO275, Q_HO282⟩ hb_ hon hoff
   refine ⟨_, rfl, fun K hK => ?_⟩
   have e28 : a.tmps[28]? = some (.slice A1_2 l1_2.length c1_2) := by rw [ha]; exact putSel_on (e := (11, 28, .slice A1_2 l1_2.length c1_2)) 7 rfl rfl (hon 11 (by kernel_rfl)) rfl
   have e26 : a.tmps[26]? = some (.func (.func 63) #[] #[.pointer (some ⟨gl, 0, none⟩)]) := by rw [ha]; exact putSel_on (e := (9, 26, .func (.func 63) #[] #[.pointer (some ⟨gl, 0, none⟩)])) 6 rfl rfl (hon 9 (by kernel_rfl)) rfl
   replace ha := Aside0.mk ha
   have BK260 := Aside0.mk Q_BK260
   have BY := Aside0.mk Q_BY
   have BO := Aside0.mk Q_BO
   have BI := Aside0.mk Q_BI
   have HB := Aside0.mk Q_HB
   refine goesV_ Try.func63 (by kernel_rfl) rfl (args := #[.slice A1_2 l1_2.length c1_2, .pointer (some ⟨gl, 0, none⟩)]) (cap := #[.pointer (some ⟨gl, 0, none⟩)]) (by rfl) rfl rfl (by simp [Act.eval, Array.getD_eq_getD_getElem?, e28, e26]) (by simp [Act.eval, Array.getD_eq_getD_getElem?, e28, e26]) ?_
   with_reducible refine (proof_Proof_1.calls (gl := gl) (hY := lev_of BY.out) k _ _ l1_2 a0 t265 _ ?side1 ?side2 A8.out).mono ?_
   (case side1 => exact cq (Kd.C_below HR1_2.out HB.out))
   (case side2 => exact HC1_2.out)
   rintro e w25 ⟨rfl, hb⟩
   refine ⟨_, rfl, ?_⟩
   have n0_ := Aside0.mk (blk_below (g := gb260) (o := .cells #[.string a1_0, .slice A1_1 l1_1.length c1_1, .slice A1_2 l1_2.length c1_2, .slice A1_3 l1_3.length c1_3, .int .u64 a1_4, .int .u64 a1_5, .slice A1_6 l1_6.length c1_6, .slice A1_7 l1_7.length c1_7, .int .u64 a1_8, .int .u64 a1_9, .slice A1_10 l1_10.length c1_10, .slice A1_11 l1_11.length c1_11, .slice A1_12 l1_12.length c1_12] 66 (0, 0)) (bk BK260.out) hb)
   have nY_ := Aside0.mk (blk_below (g := gl) (o := .cells #[.int .i64 a0] 3 (0, 0)) (bk BY.out) hb)
   have nO_ := Aside0.mk (blk_below (g := go) (o := .cells #[.func (.func 63) #[] #[.pointer (some ⟨gl, 0, none⟩)]] 120 (0, 0)) (bk BO.out) hb)
   have nI_ := Aside0.mk (blk_below (g := g8) (o := .cells #[.pointer none, .slice none 0 0] 125 (0, 0)) (bk BI.out) hb)
   have n1_ := Aside0.mk (below_step (bq HB.out) hb)
   have z_HO269 := fun (h0_ : b 20 = true) => (show Kd.R k61 61 w25 w.heap.size (fun _ => True) v268 y267 from by first | exact (Kd.R_below (by (with_reducible repeat refine kl ?_); exact (Q_HO269 h0_)) hb) | exact Kd.R_mono (Kd.R_below (by (with_reducible repeat refine kl ?_); exact (Q_HO269 h0_)) hb) (fun _ h_ => by first | trivial | exact h_ | exact h_.1))
   have z_HO275 := fun (h0_ : b 33 = true) => (show Kd.R k61 61 w25 w.heap.size (fun _ => True) v274 y273 from by first | exact (Kd.R_below (by (with_reducible repeat refine kl ?_); exact (Q_HO275 h0_)) hb) | exact Kd.R_mono (Kd.R_below (by (with_reducible repeat refine kl ?_); exact (Q_HO275 h0_)) hb) (fun _ h_ => by first | trivial | exact h_ | exact h_.1))
   clear BK260 BY BO BI
   clear HB
   have BK260 := n0_
   have BY := nY_
   have BO := nO_
   have BI := nI_
   have HB := n1_
   clear n0_ n1_ nY_ nO_ nI_
   (try clear hb)
   refine hK.out _ _ ⟨v268, v274, v281, (by rw [ha.out]; exact putSel_upk 8 hb_ rfl rfl rfl), (bk BK260.out), (bk BY.out), (bk BO.out), (bk BI.out), (bq HB.out), z_HO269, z_HO275, fun h0_ => absurd ((hoff 49 (by kernel_rfl)).symm.trans h0_) (by decide)⟩
  refine steps_cons ?_ ?_
  ·rintro b a w' ⟨v268, v274, v281, ha, Q_BK260, Q_BY, Q_BO, Q_BI, Q_HB, Q_HO269, Q_HO275, Q_HO282⟩ hb_ hon hoff
   refine ⟨_, rfl, fun K hK => ?_⟩
   have e31 : a.tmps[31]? = some (.pointer (some ⟨gb260, 3, none⟩)) := by rw [ha]; exact (putSel_off rfl).trans rfl
   replace ha := Aside0.mk ha
   have BK260 := Aside0.mk Q_BK260
   have BY := Aside0.mk Q_BY
   have BO := Aside0.mk Q_BO
   have BI := Aside0.mk Q_BI
   have HB := Aside0.mk Q_HB
   obtain ⟨hc0_, hc1_, hc2_, hc3_, hc4_, hc5_, hc6_, hc7_, hc8_, hc9_, hc10_, hc11_, hc12_⟩ := zc13 BK260
   refine value_ (w1 := w') (v := .slice A1_3 l1_3.length c1_3) (by rfl) rfl ?_ ?_
   ·go_simp
    (try simp only [i64_w])
    try rfl
   refine hK.out _ _ ⟨v268, v274, v281, (by rw [ha.out]; exact putSel_upk 9 hb_ rfl rfl rfl), Q_BK260, Q_BY, Q_BO, Q_BI, Q_HB, Q_HO269, Q_HO275, fun h0_ => absurd ((hoff 49 (by kernel_rfl)).symm.trans h0_) (by decide)⟩
  refine steps_cons ?_ ?_
  ·rintro b a w' ⟨v268, v274, v281, ha, Q_BK260, Q_BY, Q_BO, Q_BI, Q_HB, Q_HO269, Q_HO275, Q_HO282⟩ hb_ hon hoff
   refine ⟨_, rfl, fun K hK => ?_⟩
   have e32 : a.tmps[32]? = some (.slice A1_3 l1_3.length c1_3) := by rw [ha]; exact putSel_on (e := (15, 32, .slice A1_3 l1_3.length c1_3)) 9 rfl rfl (hon 15 (by kernel_rfl)) rfl
   have e30 : a.tmps[30]? = some (.func (.func 65) #[] #[.pointer (some ⟨go, 0, none⟩)]) := by rw [ha]; exact (putSel_off rfl).trans rfl
   replace ha := Aside0.mk ha
   have BK260 := Aside0.mk Q_BK260
   have BY := Aside0.mk Q_BY
   have BO := Aside0.mk Q_BO
   have BI := Aside0.mk Q_BI
   have HB := Aside0.mk Q_HB
   refine goesV_ Try.func65 (by kernel_rfl) rfl (args := #[.slice A1_3 l1_3.length c1_3, .pointer (some ⟨go, 0, none⟩)]) (cap := #[.pointer (some ⟨go, 0, none⟩)]) (by rfl) rfl rfl (by simp [Act.eval, Array.getD_eq_getD_getElem?, e32, e30]) (by simp [Act.eval, Array.getD_eq_getD_getElem?, e32, e30]) ?_
   with_reducible refine (proof_Proof_2.calls (gl := gl) (go := go) (hO := one_of_ BO.out) (hY := lev_of BY.out) k _ _ l1_3 a0 t266 _ ?side1 ?side2 A9.out).mono ?_
   (case side1 => exact cq (Kd.C_below HR1_3.out HB.out))
   (case side2 => exact HC1_3.out)
   rintro e w26 ⟨rfl, hb⟩
   refine ⟨_, rfl, ?_⟩
   have n0_ := Aside0.mk (blk_below (g := gb260) (o := .cells #[.string a1_0, .slice A1_1 l1_1.length c1_1, .slice A1_2 l1_2.length c1_2, .slice A1_3 l1_3.length c1_3, .int .u64 a1_4, .int .u64 a1_5, .slice A1_6 l1_6.length c1_6, .slice A1_7 l1_7.length c1_7, .int .u64 a1_8, .int .u64 a1_9, .slice A1_10 l1_10.length c1_10, .slice A1_11 l1_11.length c1_11, .slice A1_12 l1_12.length c1_12] 66 (0, 0)) (bk BK260.out) hb)
   have nY_ := Aside0.mk (blk_below (g := gl) (o := .cells #[.int .i64 a0] 3 (0, 0)) (bk BY.out) hb)
   have nO_ := Aside0.mk (blk_below (g := go) (o := .cells #[.func (.func 63) #[] #[.pointer (some ⟨gl, 0, none⟩)]] 120 (0, 0)) (bk BO.out) hb)
   have nI_ := Aside0.mk (blk_below (g := g8) (o := .cells #[.pointer none, .slice none 0 0] 125 (0, 0)) (bk BI.out) hb)
   have n1_ := Aside0.mk (below_step (bq HB.out) hb)
   have z_HO269 := fun (h0_ : b 20 = true) => (show Kd.R k61 61 w26 w.heap.size (fun _ => True) v268 y267 from by first | exact (Kd.R_below (by (with_reducible repeat refine kl ?_); exact (Q_HO269 h0_)) hb) | exact Kd.R_mono (Kd.R_below (by (with_reducible repeat refine kl ?_); exact (Q_HO269 h0_)) hb) (fun _ h_ => by first | trivial | exact h_ | exact h_.1))
   have z_HO275 := fun (h0_ : b 33 = true) => (show Kd.R k61 61 w26 w.heap.size (fun _ => True) v274 y273 from by first | exact (Kd.R_below (by (with_reducible repeat refine kl ?_); exact (Q_HO275 h0_)) hb) | exact Kd.R_mono (Kd.R_below (by (with_reducible repeat refine kl ?_); exact (Q_HO275 h0_)) hb) (fun _ h_ => by first | trivial | exact h_ | exact h_.1))
   clear BK260 BY BO BI
   clear HB
   have BK260 := n0_
   have BY := nY_
   have BO := nO_
   have BI := nI_
   have HB := n1_
   clear n0_ n1_ nY_ nO_ nI_
   (try clear hb)
   refine hK.out _ _ ⟨v268, v274, v281, (by rw [ha.out]; exact putSel_upk 10 hb_ rfl rfl rfl), (bk BK260.out), (bk BY.out), (bk BO.out), (bk BI.out), (bq HB.out), z_HO269, z_HO275, fun h0_ => absurd ((hoff 49 (by kernel_rfl)).symm.trans h0_) (by decide)⟩
  refine steps_cons ?_ ?_
  ·rintro b a w' ⟨v268, v274, v281, ha, Q_BK260, Q_BY, Q_BO, Q_BI, Q_HB, Q_HO269, Q_HO275, Q_HO282⟩ hb_ hon hoff
   refine ⟨_, rfl, fun K hK => ?_⟩
   have e6 : a.tmps[6]? = some (.pointer (some ⟨go, 0, none⟩)) := by rw [ha]; exact (putSel_off rfl).trans rfl
   replace ha := Aside0.mk ha
   have BO := Aside0.mk Q_BO
   have hc0_ : w'.cell? ⟨go, 0, none⟩ = some (.func (.func 63) #[] #[.pointer (some ⟨gl, 0, none⟩)]) := one_cell BO
   refine value_ (w1 := w') (v := .func (.func 63) #[] #[.pointer (some ⟨gl, 0, none⟩)]) (by rfl) rfl ?_ ?_
   ·go_simp
    (try simp only [i64_w])
    try rfl
   refine hK.out _ _ ⟨v268, v274, v281, (by rw [ha.out]; exact putSel_upk 11 hb_ rfl rfl rfl), Q_BK260, Q_BY, Q_BO, Q_BI, Q_HB, Q_HO269, Q_HO275, fun h0_ => absurd ((hoff 49 (by kernel_rfl)).symm.trans h0_) (by decide)⟩
  refine steps_cons ?_ ?_
  ·rintro b a w' ⟨v268, v274, v281, ha, Q_BK260, Q_BY, Q_BO, Q_BI, Q_HB, Q_HO269, Q_HO275, Q_HO282⟩ hb_ hon hoff
   refine ⟨_, rfl, fun K hK => ?_⟩
   have e35 : a.tmps[35]? = some (.pointer (some ⟨gb260, 4, none⟩)) := by rw [ha]; exact (putSel_off rfl).trans rfl
   replace ha := Aside0.mk ha
   have BK260 := Aside0.mk Q_BK260
   have BY := Aside0.mk Q_BY
   have BO := Aside0.mk Q_BO
   have BI := Aside0.mk Q_BI
   have HB := Aside0.mk Q_HB
   obtain ⟨hc0_, hc1_, hc2_, hc3_, hc4_, hc5_, hc6_, hc7_, hc8_, hc9_, hc10_, hc11_, hc12_⟩ := zc13 BK260
   refine value_ (w1 := w') (v := .agg #[.int .u64 a1_4, .int .u64 a1_5]) (by rfl) rfl ?_ ?_
   ·go_simp
    (try simp only [i64_w])
    try rfl
   refine hK.out _ _ ⟨v268, v274, v281, (by rw [ha.out]; exact putSel_upk 12 hb_ rfl rfl rfl), Q_BK260, Q_BY, Q_BO, Q_BI, Q_HB, fun h0_ => absurd ((hoff 20 (by kernel_rfl)).symm.trans h0_) (by decide), Q_HO275, fun h0_ => absurd ((hoff 49 (by kernel_rfl)).symm.trans h0_) (by decide)⟩
  refine steps_cons ?_ ?_
  ·rintro b a w' ⟨v268, v274, v281, ha, Q_BK260, Q_BY, Q_BO, Q_BI, Q_HB, Q_HO269, Q_HO275, Q_HO282⟩ hb_ hon hoff
   refine ⟨_, rfl, fun K hK => ?_⟩
   have e36 : a.tmps[36]? = some (.agg #[.int .u64 a1_4, .int .u64 a1_5]) := by rw [ha]; exact putSel_on (e := (19, 36, .agg #[.int .u64 a1_4, .int .u64 a1_5])) 12 rfl rfl (hon 19 (by kernel_rfl)) rfl
   replace ha := Aside0.mk ha
   have BK260 := Aside0.mk Q_BK260
   have BY := Aside0.mk Q_BY
   have BO := Aside0.mk Q_BO
   have BI := Aside0.mk Q_BI
   have HB := Aside0.mk Q_HB
   refine Kd.R_lit_step k61 _ 61 ?hg (N := 37) ?hd (xs := ([(⟨a1_4, a1_5⟩ : S61)] : List (S61))) (inner := [.int .u64 a1_4, .int .u64 a1_5]) (ok := fun _ => True) (okp := fun _ => True) ?hr ?hp (fun _ hk => hk) trivial (Below.refl _ _) (Nat.le_refl _) (by simp) ?_; (case hd => rfl); (case hg => rfl); (case hr => go_simp <;> rfl); (case hp => exact (Reps.c2 (show Kd.M k61 _ _ _ (⟨a1_4, a1_5⟩ : S61) [.int .u64 a1_4, .int .u64 a1_5] from (k61_mkM _ _ _ (⟨a1_4, a1_5⟩ : S61) )) (Reps.none _ _)))
   intro v268 w21 ho22 hb hg_ hnew_
   clear hg_ hnew_
   (first | rw [← Ny267.out] at ho22 | (simp only [Int.reduceToNat] at ho22; rw [← Ny267.out] at ho22))
   have n0_ := Aside0.mk (Kd.R_lower ho22 (below_size (bq HB.out)))
   have n1_ := Aside0.mk (blk_below (g := gb260) (o := .cells #[.string a1_0, .slice A1_1 l1_1.length c1_1, .slice A1_2 l1_2.length c1_2, .slice A1_3 l1_3.length c1_3, .int .u64 a1_4, .int .u64 a1_5, .slice A1_6 l1_6.length c1_6, .slice A1_7 l1_7.length c1_7, .int .u64 a1_8, .int .u64 a1_9, .slice A1_10 l1_10.length c1_10, .slice A1_11 l1_11.length c1_11, .slice A1_12 l1_12.length c1_12] 66 (0, 0)) (bk BK260.out) hb)
   have nY_ := Aside0.mk (blk_below (g := gl) (o := .cells #[.int .i64 a0] 3 (0, 0)) (bk BY.out) hb)
   have nO_ := Aside0.mk (blk_below (g := go) (o := .cells #[.func (.func 63) #[] #[.pointer (some ⟨gl, 0, none⟩)]] 120 (0, 0)) (bk BO.out) hb)
   have nI_ := Aside0.mk (blk_below (g := g8) (o := .cells #[.pointer none, .slice none 0 0] 125 (0, 0)) (bk BI.out) hb)
   have n2_ := Aside0.mk (below_step (bq HB.out) hb)
   have z_HO275 := fun (h0_ : b 33 = true) => (show Kd.R k61 61 w21 w.heap.size (fun _ => True) v274 y273 from by first | exact (Kd.R_elder' (by (with_reducible repeat refine kl ?_); exact (Q_HO275 h0_)) (Kd.R_base ho22) hb) | exact Kd.R_mono (Kd.R_elder' (by (with_reducible repeat refine kl ?_); exact (Q_HO275 h0_)) (Kd.R_base ho22) hb) (fun _ h_ => by first | trivial | exact h_ | exact h_.1))
   clear BK260 BY BO BI
   clear HB
   have HO269 := n0_
   have BK260 := n1_
   have BY := nY_
   have BO := nO_
   have BI := nI_
   have HB := n2_
   clear n0_ n1_ n2_ nY_ nO_ nI_
   clear hb ho22
   refine hK.out _ _ ⟨v268, v274, v281, (by rw [ha.out]; exact putSel_upk 13 hb_ rfl rfl rfl), (bk BK260.out), (bk BY.out), (bk BO.out), (bk BI.out), (bq HB.out), fun _ => (kr HO269.out), z_HO275, fun h0_ => absurd ((hoff 49 (by kernel_rfl)).symm.trans h0_) (by decide)⟩
  refine steps_cons ?_ ?_
  ·rintro b a w' ⟨v268, v274, v281, ha, Q_BK260, Q_BY, Q_BO, Q_BI, Q_HB, Q_HO269, Q_HO275, Q_HO282⟩ hb_ hon hoff
   refine ⟨_, rfl, fun K hK => ?_⟩
   have e37 : a.tmps[37]? = some (v268) := by rw [ha]; exact putSel_on (e := (20, 37, v268)) 13 rfl rfl (hon 20 (by kernel_rfl)) rfl
   have e34 : a.tmps[34]? = some (.func (.func 63) #[] #[.pointer (some ⟨gl, 0, none⟩)]) := by rw [ha]; exact putSel_on (e := (17, 34, .func (.func 63) #[] #[.pointer (some ⟨gl, 0, none⟩)])) 11 rfl rfl (hon 17 (by kernel_rfl)) rfl
   replace ha := Aside0.mk ha
   have BK260 := Aside0.mk Q_BK260
   have BY := Aside0.mk Q_BY
   have BO := Aside0.mk Q_BO
   have BI := Aside0.mk Q_BI
   have HB := Aside0.mk Q_HB
   have HO269 := Aside0.mk (Q_HO269 (hon 20 (by kernel_rfl)))
   obtain ⟨Ao29, co29, eo29⟩ := Kd.R_slice HO269.out
   (first | subst eo29 | (injection eo29 with f1_ f2_ f3_; have f4_ := f1_.symm; have f5_ := f3_.symm; clear f1_ f2_ f3_; subst f4_; subst f5_))
   refine goesV_ Try.func63 (by kernel_rfl) rfl (args := #[.slice Ao29 y267.length co29, .pointer (some ⟨gl, 0, none⟩)]) (cap := #[.pointer (some ⟨gl, 0, none⟩)]) (by rfl) rfl rfl (by simp [Act.eval, Array.getD_eq_getD_getElem?, e37, e34]) (by simp [Act.eval, Array.getD_eq_getD_getElem?, e37, e34]) ?_
   with_reducible refine (proof_Proof_1.calls (gl := gl) (hY := lev_of BY.out) k _ _ y267 a0 t270 _ ?side1 ?side2 A10.out).mono ?_
   (case side1 => exact cq (Kd.R_reads' HO269.out).2.2)
   (case side2 => exact (Kd.R_reads' HO269.out).2.1)
   rintro e w30 ⟨rfl, hb⟩
   refine ⟨_, rfl, ?_⟩
   have n0_ := Aside0.mk (Kd.R_below (kr HO269.out) hb)
   have n1_ := Aside0.mk (blk_below (g := gb260) (o := .cells #[.string a1_0, .slice A1_1 l1_1.length c1_1, .slice A1_2 l1_2.length c1_2, .slice A1_3 l1_3.length c1_3, .int .u64 a1_4, .int .u64 a1_5, .slice A1_6 l1_6.length c1_6, .slice A1_7 l1_7.length c1_7, .int .u64 a1_8, .int .u64 a1_9, .slice A1_10 l1_10.length c1_10, .slice A1_11 l1_11.length c1_11, .slice A1_12 l1_12.length c1_12] 66 (0, 0)) (bk BK260.out) hb)
   have nY_ := Aside0.mk (blk_below (g := gl) (o := .cells #[.int .i64 a0] 3 (0, 0)) (bk BY.out) hb)
   have nO_ := Aside0.mk (blk_below (g := go) (o := .cells #[.func (.func 63) #[] #[.pointer (some ⟨gl, 0, none⟩)]] 120 (0, 0)) (bk BO.out) hb)
   have nI_ := Aside0.mk (blk_below (g := g8) (o := .cells #[.pointer none, .slice none 0 0] 125 (0, 0)) (bk BI.out) hb)
   have n2_ := Aside0.mk (below_step (bq HB.out) hb)
   have z_HO275 := fun (h0_ : b 33 = true) => (show Kd.R k61 61 w30 w.heap.size (fun _ => True) v274 y273 from by first | exact (Kd.R_below (by (with_reducible repeat refine kl ?_); exact (Q_HO275 h0_)) hb) | exact Kd.R_mono (Kd.R_below (by (with_reducible repeat refine kl ?_); exact (Q_HO275 h0_)) hb) (fun _ h_ => by first | trivial | exact h_ | exact h_.1))
   clear HO269
   clear BK260 BY BO BI
   clear HB
   have HO269 := n0_
   have BK260 := n1_
   have BY := nY_
   have BO := nO_
   have BI := nI_
   have HB := n2_
   clear n0_ n1_ n2_ nY_ nO_ nI_
   (try clear hb)
   refine hK.out _ _ ⟨.slice Ao29 y267.length co29, v274, v281, (by rw [ha.out]; exact putSel_upk 14 hb_ rfl rfl rfl), (bk BK260.out), (bk BY.out), (bk BO.out), (bk BI.out), (bq HB.out), fun _ => (kr HO269.out), z_HO275, fun h0_ => absurd ((hoff 49 (by kernel_rfl)).symm.trans h0_) (by decide)⟩
  refine steps_cons ?_ ?_
  ·rintro b a w' ⟨v268, v274, v281, ha, Q_BK260, Q_BY, Q_BO, Q_BI, Q_HB, Q_HO269, Q_HO275, Q_HO282⟩ hb_ hon hoff
   refine ⟨_, rfl, fun K hK => ?_⟩
   have e6 : a.tmps[6]? = some (.pointer (some ⟨go, 0, none⟩)) := by rw [ha]; exact (putSel_off rfl).trans rfl
   replace ha := Aside0.mk ha
   have BO := Aside0.mk Q_BO
   have hc0_ : w'.cell? ⟨go, 0, none⟩ = some (.func (.func 63) #[] #[.pointer (some ⟨gl, 0, none⟩)]) := one_cell BO
   refine value_ (w1 := w') (v := .func (.func 63) #[] #[.pointer (some ⟨gl, 0, none⟩)]) (by rfl) rfl ?_ ?_
   ·go_simp
    (try simp only [i64_w])
    try rfl
   refine hK.out _ _ ⟨v268, v274, v281, (by rw [ha.out]; exact putSel_upk 15 hb_ rfl rfl rfl), Q_BK260, Q_BY, Q_BO, Q_BI, Q_HB, Q_HO269, Q_HO275, fun h0_ => absurd ((hoff 49 (by kernel_rfl)).symm.trans h0_) (by decide)⟩
  refine steps_cons ?_ ?_
  ·rintro b a w' ⟨v268, v274, v281, ha, Q_BK260, Q_BY, Q_BO, Q_BI, Q_HB, Q_HO269, Q_HO275, Q_HO282⟩ hb_ hon hoff
   refine ⟨_, rfl, fun K hK => ?_⟩
   have e40 : a.tmps[40]? = some (.pointer (some ⟨gb260, 6, none⟩)) := by rw [ha]; exact (putSel_off rfl).trans rfl
   replace ha := Aside0.mk ha
   have BK260 := Aside0.mk Q_BK260
   have BY := Aside0.mk Q_BY
   have BO := Aside0.mk Q_BO
   have BI := Aside0.mk Q_BI
   have HB := Aside0.mk Q_HB
   obtain ⟨hc0_, hc1_, hc2_, hc3_, hc4_, hc5_, hc6_, hc7_, hc8_, hc9_, hc10_, hc11_, hc12_⟩ := zc13 BK260
   refine value_ (w1 := w') (v := .slice A1_6 l1_6.length c1_6) (by rfl) rfl ?_ ?_
   ·go_simp
    (try simp only [i64_w])
    try rfl
   refine hK.out _ _ ⟨v268, v274, v281, (by rw [ha.out]; exact putSel_upk 16 hb_ rfl rfl rfl), Q_BK260, Q_BY, Q_BO, Q_BI, Q_HB, Q_HO269, Q_HO275, fun h0_ => absurd ((hoff 49 (by kernel_rfl)).symm.trans h0_) (by decide)⟩
  refine steps_cons ?_ ?_
  ·rintro b a w' ⟨v268, v274, v281, ha, Q_BK260, Q_BY, Q_BO, Q_BI, Q_HB, Q_HO269, Q_HO275, Q_HO282⟩ hb_ hon hoff
   refine ⟨_, rfl, fun K hK => ?_⟩
   have e41 : a.tmps[41]? = some (.slice A1_6 l1_6.length c1_6) := by rw [ha]; exact putSel_on (e := (24, 41, .slice A1_6 l1_6.length c1_6)) 16 rfl rfl (hon 24 (by kernel_rfl)) rfl
   have e39 : a.tmps[39]? = some (.func (.func 63) #[] #[.pointer (some ⟨gl, 0, none⟩)]) := by rw [ha]; exact putSel_on (e := (22, 39, .func (.func 63) #[] #[.pointer (some ⟨gl, 0, none⟩)])) 15 rfl rfl (hon 22 (by kernel_rfl)) rfl
   replace ha := Aside0.mk ha
   have BK260 := Aside0.mk Q_BK260
   have BY := Aside0.mk Q_BY
   have BO := Aside0.mk Q_BO
   have BI := Aside0.mk Q_BI
   have HB := Aside0.mk Q_HB
   have HO269 := Aside0.mk (Q_HO269 (hon 20 (by kernel_rfl)))
   refine goesV_ Try.func63 (by kernel_rfl) rfl (args := #[.slice A1_6 l1_6.length c1_6, .pointer (some ⟨gl, 0, none⟩)]) (cap := #[.pointer (some ⟨gl, 0, none⟩)]) (by rfl) rfl rfl (by simp [Act.eval, Array.getD_eq_getD_getElem?, e41, e39]) (by simp [Act.eval, Array.getD_eq_getD_getElem?, e41, e39]) ?_
   with_reducible refine (proof_Proof_1.calls (gl := gl) (hY := lev_of BY.out) k _ _ l1_6 a0 t271 _ ?side1 ?side2 A11.out).mono ?_
   (case side1 => exact cq (Kd.C_below HR1_6.out HB.out))
   (case side2 => exact HC1_6.out)
   rintro e w31 ⟨rfl, hb⟩
   refine ⟨_, rfl, ?_⟩
   have n0_ := Aside0.mk (Kd.R_below (kr HO269.out) hb)
   have n1_ := Aside0.mk (blk_below (g := gb260) (o := .cells #[.string a1_0, .slice A1_1 l1_1.length c1_1, .slice A1_2 l1_2.length c1_2, .slice A1_3 l1_3.length c1_3, .int .u64 a1_4, .int .u64 a1_5, .slice A1_6 l1_6.length c1_6, .slice A1_7 l1_7.length c1_7, .int .u64 a1_8, .int .u64 a1_9, .slice A1_10 l1_10.length c1_10, .slice A1_11 l1_11.length c1_11, .slice A1_12 l1_12.length c1_12] 66 (0, 0)) (bk BK260.out) hb)
   have nY_ := Aside0.mk (blk_below (g := gl) (o := .cells #[.int .i64 a0] 3 (0, 0)) (bk BY.out) hb)
   have nO_ := Aside0.mk (blk_below (g := go) (o := .cells #[.func (.func 63) #[] #[.pointer (some ⟨gl, 0, none⟩)]] 120 (0, 0)) (bk BO.out) hb)
   have nI_ := Aside0.mk (blk_below (g := g8) (o := .cells #[.pointer none, .slice none 0 0] 125 (0, 0)) (bk BI.out) hb)
   have n2_ := Aside0.mk (below_step (bq HB.out) hb)
   have z_HO275 := fun (h0_ : b 33 = true) => (show Kd.R k61 61 w31 w.heap.size (fun _ => True) v274 y273 from by first | exact (Kd.R_below (by (with_reducible repeat refine kl ?_); exact (Q_HO275 h0_)) hb) | exact Kd.R_mono (Kd.R_below (by (with_reducible repeat refine kl ?_); exact (Q_HO275 h0_)) hb) (fun _ h_ => by first | trivial | exact h_ | exact h_.1))
   clear HO269
   clear BK260 BY BO BI
   clear HB
   have HO269 := n0_
   have BK260 := n1_
   have BY := nY_
   have BO := nO_
   have BI := nI_
   have HB := n2_
   clear n0_ n1_ n2_ nY_ nO_ nI_
   (try clear hb)
   refine hK.out _ _ ⟨v268, v274, v281, (by rw [ha.out]; exact putSel_upk 17 hb_ rfl rfl rfl), (bk BK260.out), (bk BY.out), (bk BO.out), (bk BI.out), (bq HB.out), fun _ => (kr HO269.out), z_HO275, fun h0_ => absurd ((hoff 49 (by kernel_rfl)).symm.trans h0_) (by decide)⟩
  refine steps_cons ?_ ?_
  ·rintro b a w' ⟨v268, v274, v281, ha, Q_BK260, Q_BY, Q_BO, Q_BI, Q_HB, Q_HO269, Q_HO275, Q_HO282⟩ hb_ hon hoff
   refine ⟨_, rfl, fun K hK => ?_⟩
   have e44 : a.tmps[44]? = some (.pointer (some ⟨gb260, 7, none⟩)) := by rw [ha]; exact (putSel_off rfl).trans rfl
   replace ha := Aside0.mk ha
   have BK260 := Aside0.mk Q_BK260
   have BY := Aside0.mk Q_BY
   have BO := Aside0.mk Q_BO
   have BI := Aside0.mk Q_BI
   have HB := Aside0.mk Q_HB
   obtain ⟨hc0_, hc1_, hc2_, hc3_, hc4_, hc5_, hc6_, hc7_, hc8_, hc9_, hc10_, hc11_, hc12_⟩ := zc13 BK260
   refine value_ (w1 := w') (v := .slice A1_7 l1_7.length c1_7) (by rfl) rfl ?_ ?_
   ·go_simp
    (try simp only [i64_w])
    try rfl
   refine hK.out _ _ ⟨v268, v274, v281, (by rw [ha.out]; exact putSel_upk 18 hb_ rfl rfl rfl), Q_BK260, Q_BY, Q_BO, Q_BI, Q_HB, Q_HO269, Q_HO275, fun h0_ => absurd ((hoff 49 (by kernel_rfl)).symm.trans h0_) (by decide)⟩
  refine steps_cons ?_ ?_
  ·rintro b a w' ⟨v268, v274, v281, ha, Q_BK260, Q_BY, Q_BO, Q_BI, Q_HB, Q_HO269, Q_HO275, Q_HO282⟩ hb_ hon hoff
   refine ⟨_, rfl, fun K hK => ?_⟩
   have e45 : a.tmps[45]? = some (.slice A1_7 l1_7.length c1_7) := by rw [ha]; exact putSel_on (e := (28, 45, .slice A1_7 l1_7.length c1_7)) 18 rfl rfl (hon 28 (by kernel_rfl)) rfl
   have e43 : a.tmps[43]? = some (.func (.func 65) #[] #[.pointer (some ⟨go, 0, none⟩)]) := by rw [ha]; exact (putSel_off rfl).trans rfl
   replace ha := Aside0.mk ha
   have BK260 := Aside0.mk Q_BK260
   have BY := Aside0.mk Q_BY
   have BO := Aside0.mk Q_BO
   have BI := Aside0.mk Q_BI
   have HB := Aside0.mk Q_HB
   have HO269 := Aside0.mk (Q_HO269 (hon 20 (by kernel_rfl)))
   refine goesV_ Try.func65 (by kernel_rfl) rfl (args := #[.slice A1_7 l1_7.length c1_7, .pointer (some ⟨go, 0, none⟩)]) (cap := #[.pointer (some ⟨go, 0, none⟩)]) (by rfl) rfl rfl (by simp [Act.eval, Array.getD_eq_getD_getElem?, e45, e43]) (by simp [Act.eval, Array.getD_eq_getD_getElem?, e45, e43]) ?_
   with_reducible refine (proof_Proof_2.calls (gl := gl) (go := go) (hO := one_of_ BO.out) (hY := lev_of BY.out) k _ _ l1_7 a0 t272 _ ?side1 ?side2 A12.out).mono ?_
   (case side1 => exact cq (Kd.C_below HR1_7.out HB.out))
   (case side2 => exact HC1_7.out)
   rintro e w32 ⟨rfl, hb⟩
   refine ⟨_, rfl, ?_⟩
   have n0_ := Aside0.mk (Kd.R_below (kr HO269.out) hb)
   have n1_ := Aside0.mk (blk_below (g := gb260) (o := .cells #[.string a1_0, .slice A1_1 l1_1.length c1_1, .slice A1_2 l1_2.length c1_2, .slice A1_3 l1_3.length c1_3, .int .u64 a1_4, .int .u64 a1_5, .slice A1_6 l1_6.length c1_6, .slice A1_7 l1_7.length c1_7, .int .u64 a1_8, .int .u64 a1_9, .slice A1_10 l1_10.length c1_10, .slice A1_11 l1_11.length c1_11, .slice A1_12 l1_12.length c1_12] 66 (0, 0)) (bk BK260.out) hb)
   have nY_ := Aside0.mk (blk_below (g := gl) (o := .cells #[.int .i64 a0] 3 (0, 0)) (bk BY.out) hb)
   have nO_ := Aside0.mk (blk_below (g := go) (o := .cells #[.func (.func 63) #[] #[.pointer (some ⟨gl, 0, none⟩)]] 120 (0, 0)) (bk BO.out) hb)
   have nI_ := Aside0.mk (blk_below (g := g8) (o := .cells #[.pointer none, .slice none 0 0] 125 (0, 0)) (bk BI.out) hb)
   have n2_ := Aside0.mk (below_step (bq HB.out) hb)
   have z_HO275 := fun (h0_ : b 33 = true) => (show Kd.R k61 61 w32 w.heap.size (fun _ => True) v274 y273 from by first | exact (Kd.R_below (by (with_reducible repeat refine kl ?_); exact (Q_HO275 h0_)) hb) | exact Kd.R_mono (Kd.R_below (by (with_reducible repeat refine kl ?_); exact (Q_HO275 h0_)) hb) (fun _ h_ => by first | trivial | exact h_ | exact h_.1))
   clear HO269
   clear BK260 BY BO BI
   clear HB
   have HO269 := n0_
   have BK260 := n1_
   have BY := nY_
   have BO := nO_
   have BI := nI_
   have HB := n2_
   clear n0_ n1_ n2_ nY_ nO_ nI_
   (try clear hb)
   refine hK.out _ _ ⟨v268, v274, v281, (by rw [ha.out]; exact putSel_upk 19 hb_ rfl rfl rfl), (bk BK260.out), (bk BY.out), (bk BO.out), (bk BI.out), (bq HB.out), fun _ => (kr HO269.out), z_HO275, fun h0_ => absurd ((hoff 49 (by kernel_rfl)).symm.trans h0_) (by decide)⟩
  refine steps_cons ?_ ?_
  ·rintro b a w' ⟨v268, v274, v281, ha, Q_BK260, Q_BY, Q_BO, Q_BI, Q_HB, Q_HO269, Q_HO275, Q_HO282⟩ hb_ hon hoff
   refine ⟨_, rfl, fun K hK => ?_⟩
   have e6 : a.tmps[6]? = some (.pointer (some ⟨go, 0, none⟩)) := by rw [ha]; exact (putSel_off rfl).trans rfl
   replace ha := Aside0.mk ha
   have BO := Aside0.mk Q_BO
   have hc0_ : w'.cell? ⟨go, 0, none⟩ = some (.func (.func 63) #[] #[.pointer (some ⟨gl, 0, none⟩)]) := one_cell BO
   refine value_ (w1 := w') (v := .func (.func 63) #[] #[.pointer (some ⟨gl, 0, none⟩)]) (by rfl) rfl ?_ ?_
   ·go_simp
    (try simp only [i64_w])
    try rfl
   refine hK.out _ _ ⟨v268, v274, v281, (by rw [ha.out]; exact putSel_upk 20 hb_ rfl rfl rfl), Q_BK260, Q_BY, Q_BO, Q_BI, Q_HB, Q_HO269, Q_HO275, fun h0_ => absurd ((hoff 49 (by kernel_rfl)).symm.trans h0_) (by decide)⟩
  refine steps_cons ?_ ?_
  ·rintro b a w' ⟨v268, v274, v281, ha, Q_BK260, Q_BY, Q_BO, Q_BI, Q_HB, Q_HO269, Q_HO275, Q_HO282⟩ hb_ hon hoff
   refine ⟨_, rfl, fun K hK => ?_⟩
   have e48 : a.tmps[48]? = some (.pointer (some ⟨gb260, 8, none⟩)) := by rw [ha]; exact (putSel_off rfl).trans rfl
   replace ha := Aside0.mk ha
   have BK260 := Aside0.mk Q_BK260
   have BY := Aside0.mk Q_BY
   have BO := Aside0.mk Q_BO
   have BI := Aside0.mk Q_BI
   have HB := Aside0.mk Q_HB
   obtain ⟨hc0_, hc1_, hc2_, hc3_, hc4_, hc5_, hc6_, hc7_, hc8_, hc9_, hc10_, hc11_, hc12_⟩ := zc13 BK260
   refine value_ (w1 := w') (v := .agg #[.int .u64 a1_8, .int .u64 a1_9]) (by rfl) rfl ?_ ?_
   ·go_simp
    (try simp only [i64_w])
    try rfl
   refine hK.out _ _ ⟨v268, v274, v281, (by rw [ha.out]; exact putSel_upk 21 hb_ rfl rfl rfl), Q_BK260, Q_BY, Q_BO, Q_BI, Q_HB, Q_HO269, fun h0_ => absurd ((hoff 33 (by kernel_rfl)).symm.trans h0_) (by decide), fun h0_ => absurd ((hoff 49 (by kernel_rfl)).symm.trans h0_) (by decide)⟩
  refine steps_cons ?_ ?_
  ·rintro b a w' ⟨v268, v274, v281, ha, Q_BK260, Q_BY, Q_BO, Q_BI, Q_HB, Q_HO269, Q_HO275, Q_HO282⟩ hb_ hon hoff
   refine ⟨_, rfl, fun K hK => ?_⟩
   have e49 : a.tmps[49]? = some (.agg #[.int .u64 a1_8, .int .u64 a1_9]) := by rw [ha]; exact putSel_on (e := (32, 49, .agg #[.int .u64 a1_8, .int .u64 a1_9])) 21 rfl rfl (hon 32 (by kernel_rfl)) rfl
   replace ha := Aside0.mk ha
   have BK260 := Aside0.mk Q_BK260
   have BY := Aside0.mk Q_BY
   have BO := Aside0.mk Q_BO
   have BI := Aside0.mk Q_BI
   have HB := Aside0.mk Q_HB
   refine Kd.R_lit_step k61 _ 61 ?hg (N := 50) ?hd (xs := ([(⟨a1_8, a1_9⟩ : S61)] : List (S61))) (inner := [.int .u64 a1_8, .int .u64 a1_9]) (ok := fun _ => True) (okp := fun _ => True) ?hr ?hp (fun _ hk => hk) trivial (Below.refl _ _) (Nat.le_refl _) (by simp) ?_; (case hd => rfl); (case hg => rfl); (case hr => go_simp <;> rfl); (case hp => exact (Reps.c2 (show Kd.M k61 _ _ _ (⟨a1_8, a1_9⟩ : S61) [.int .u64 a1_8, .int .u64 a1_9] from (k61_mkM _ _ _ (⟨a1_8, a1_9⟩ : S61) )) (Reps.none _ _)))
   intro v274 w21 ho22 hb hg_ hnew_
   clear hg_ hnew_
   (first | rw [← Ny273.out] at ho22 | (simp only [Int.reduceToNat] at ho22; rw [← Ny273.out] at ho22))
   have n0_ := Aside0.mk (Kd.R_lower ho22 (below_size (bq HB.out)))
   have n1_ := Aside0.mk (blk_below (g := gb260) (o := .cells #[.string a1_0, .slice A1_1 l1_1.length c1_1, .slice A1_2 l1_2.length c1_2, .slice A1_3 l1_3.length c1_3, .int .u64 a1_4, .int .u64 a1_5, .slice A1_6 l1_6.length c1_6, .slice A1_7 l1_7.length c1_7, .int .u64 a1_8, .int .u64 a1_9, .slice A1_10 l1_10.length c1_10, .slice A1_11 l1_11.length c1_11, .slice A1_12 l1_12.length c1_12] 66 (0, 0)) (bk BK260.out) hb)
   have nY_ := Aside0.mk (blk_below (g := gl) (o := .cells #[.int .i64 a0] 3 (0, 0)) (bk BY.out) hb)
   have nO_ := Aside0.mk (blk_below (g := go) (o := .cells #[.func (.func 63) #[] #[.pointer (some ⟨gl, 0, none⟩)]] 120 (0, 0)) (bk BO.out) hb)
   have nI_ := Aside0.mk (blk_below (g := g8) (o := .cells #[.pointer none, .slice none 0 0] 125 (0, 0)) (bk BI.out) hb)
   have n2_ := Aside0.mk (below_step (bq HB.out) hb)
   have z_HO269 := fun (h0_ : b 20 = true) => (show Kd.R k61 61 w21 w.heap.size (fun _ => True) v268 y267 from by first | exact (Kd.R_elder' (by (with_reducible repeat refine kl ?_); exact (Q_HO269 h0_)) (Kd.R_base ho22) hb) | exact Kd.R_mono (Kd.R_elder' (by (with_reducible repeat refine kl ?_); exact (Q_HO269 h0_)) (Kd.R_base ho22) hb) (fun _ h_ => by first | trivial | exact h_ | exact h_.1))
   clear BK260 BY BO BI
   clear HB
   have HO275 := n0_
   have BK260 := n1_
   have BY := nY_
   have BO := nO_
   have BI := nI_
   have HB := n2_
   clear n0_ n1_ n2_ nY_ nO_ nI_
   clear hb ho22
   refine hK.out _ _ ⟨v268, v274, v281, (by rw [ha.out]; exact putSel_upk 22 hb_ rfl rfl rfl), (bk BK260.out), (bk BY.out), (bk BO.out), (bk BI.out), (bq HB.out), z_HO269, fun _ => (kr HO275.out), fun h0_ => absurd ((hoff 49 (by kernel_rfl)).symm.trans h0_) (by decide)⟩
  refine steps_cons ?_ ?_
  ·rintro b a w' ⟨v268, v274, v281, ha, Q_BK260, Q_BY, Q_BO, Q_BI, Q_HB, Q_HO269, Q_HO275, Q_HO282⟩ hb_ hon hoff
   refine ⟨_, rfl, fun K hK => ?_⟩
   have e50 : a.tmps[50]? = some (v274) := by rw [ha]; exact putSel_on (e := (33, 50, v274)) 22 rfl rfl (hon 33 (by kernel_rfl)) rfl
   have e47 : a.tmps[47]? = some (.func (.func 63) #[] #[.pointer (some ⟨gl, 0, none⟩)]) := by rw [ha]; exact putSel_on (e := (30, 47, .func (.func 63) #[] #[.pointer (some ⟨gl, 0, none⟩)])) 20 rfl rfl (hon 30 (by kernel_rfl)) rfl
   replace ha := Aside0.mk ha
   have BK260 := Aside0.mk Q_BK260
   have BY := Aside0.mk Q_BY
   have BO := Aside0.mk Q_BO
   have BI := Aside0.mk Q_BI
   have HB := Aside0.mk Q_HB
   have HO269 := Aside0.mk (Q_HO269 (hon 20 (by kernel_rfl)))
   have HO275 := Aside0.mk (Q_HO275 (hon 33 (by kernel_rfl)))
   obtain ⟨Ao35, co35, eo35⟩ := Kd.R_slice HO275.out
   (first | subst eo35 | (injection eo35 with f1_ f2_ f3_; have f4_ := f1_.symm; have f5_ := f3_.symm; clear f1_ f2_ f3_; subst f4_; subst f5_))
   refine goesV_ Try.func63 (by kernel_rfl) rfl (args := #[.slice Ao35 y273.length co35, .pointer (some ⟨gl, 0, none⟩)]) (cap := #[.pointer (some ⟨gl, 0, none⟩)]) (by rfl) rfl rfl (by simp [Act.eval, Array.getD_eq_getD_getElem?, e50, e47]) (by simp [Act.eval, Array.getD_eq_getD_getElem?, e50, e47]) ?_
   with_reducible refine (proof_Proof_1.calls (gl := gl) (hY := lev_of BY.out) k _ _ y273 a0 t276 _ ?side1 ?side2 A13.out).mono ?_
   (case side1 => exact cq (Kd.R_reads' HO275.out).2.2)
   (case side2 => exact (Kd.R_reads' HO275.out).2.1)
   rintro e w36 ⟨rfl, hb⟩
   refine ⟨_, rfl, ?_⟩
   replace HO269 := kb HO269 hb
   replace HO275 := kb HO275 hb
   replace BK260 := bb BK260 hb
   replace BY := bb BY hb
   replace BO := bb BO hb
   replace BI := bb BI hb
   replace HB := bh HB hb
   (try clear hb)
   refine hK.out _ _ ⟨v268, .slice Ao35 y273.length co35, v281, (by rw [ha.out]; exact putSel_upk 23 hb_ rfl rfl rfl), (bk BK260.out), (bk BY.out), (bk BO.out), (bk BI.out), (bq HB.out), fun _ => (kr HO269.out), fun _ => (kr HO275.out), fun h0_ => absurd ((hoff 49 (by kernel_rfl)).symm.trans h0_) (by decide)⟩
  refine steps_cons ?_ ?_
  ·rintro b a w' ⟨v268, v274, v281, ha, Q_BK260, Q_BY, Q_BO, Q_BI, Q_HB, Q_HO269, Q_HO275, Q_HO282⟩ hb_ hon hoff
   refine ⟨_, rfl, fun K hK => ?_⟩
   have e6 : a.tmps[6]? = some (.pointer (some ⟨go, 0, none⟩)) := by rw [ha]; exact (putSel_off rfl).trans rfl
   replace ha := Aside0.mk ha
   have BO := Aside0.mk Q_BO
   have hc0_ : w'.cell? ⟨go, 0, none⟩ = some (.func (.func 63) #[] #[.pointer (some ⟨gl, 0, none⟩)]) := one_cell BO
   refine value_ (w1 := w') (v := .func (.func 63) #[] #[.pointer (some ⟨gl, 0, none⟩)]) (by rfl) rfl ?_ ?_
   ·go_simp
    (try simp only [i64_w])
    try rfl
   refine hK.out _ _ ⟨v268, v274, v281, (by rw [ha.out]; exact putSel_upk 24 hb_ rfl rfl rfl), Q_BK260, Q_BY, Q_BO, Q_BI, Q_HB, Q_HO269, Q_HO275, fun h0_ => absurd ((hoff 49 (by kernel_rfl)).symm.trans h0_) (by decide)⟩
  refine steps_cons ?_ ?_
  ·rintro b a w' ⟨v268, v274, v281, ha, Q_BK260, Q_BY, Q_BO, Q_BI, Q_HB, Q_HO269, Q_HO275, Q_HO282⟩ hb_ hon hoff
   refine ⟨_, rfl, fun K hK => ?_⟩
   have e54 : a.tmps[54]? = some (.pointer (some ⟨gb260, 10, none⟩)) := by rw [ha]; exact (putSel_off rfl).trans rfl
   replace ha := Aside0.mk ha
   have BK260 := Aside0.mk Q_BK260
   have BY := Aside0.mk Q_BY
   have BO := Aside0.mk Q_BO
   have BI := Aside0.mk Q_BI
   have HB := Aside0.mk Q_HB
   obtain ⟨hc0_, hc1_, hc2_, hc3_, hc4_, hc5_, hc6_, hc7_, hc8_, hc9_, hc10_, hc11_, hc12_⟩ := zc13 BK260
   refine value_ (w1 := w') (v := .slice A1_10 l1_10.length c1_10) (by rfl) rfl ?_ ?_
   ·go_simp
    (try simp only [i64_w])
    try rfl
   refine hK.out _ _ ⟨v268, v274, v281, (by rw [ha.out]; exact putSel_upk 25 hb_ rfl rfl rfl), Q_BK260, Q_BY, Q_BO, Q_BI, Q_HB, Q_HO269, Q_HO275, fun h0_ => absurd ((hoff 49 (by kernel_rfl)).symm.trans h0_) (by decide)⟩
  refine steps_cons ?_ ?_
  ·rintro b a w' ⟨v268, v274, v281, ha, Q_BK260, Q_BY, Q_BO, Q_BI, Q_HB, Q_HO269, Q_HO275, Q_HO282⟩ hb_ hon hoff
   refine ⟨_, rfl, fun K hK => ?_⟩
   have e55 : a.tmps[55]? = some (.slice A1_10 l1_10.length c1_10) := by rw [ha]; exact putSel_on (e := (38, 55, .slice A1_10 l1_10.length c1_10)) 25 rfl rfl (hon 38 (by kernel_rfl)) rfl
   have e52 : a.tmps[52]? = some (.func (.func 63) #[] #[.pointer (some ⟨gl, 0, none⟩)]) := by rw [ha]; exact putSel_on (e := (35, 52, .func (.func 63) #[] #[.pointer (some ⟨gl, 0, none⟩)])) 24 rfl rfl (hon 35 (by kernel_rfl)) rfl
   replace ha := Aside0.mk ha
   have BK260 := Aside0.mk Q_BK260
   have BY := Aside0.mk Q_BY
   have BO := Aside0.mk Q_BO
   have BI := Aside0.mk Q_BI
   have HB := Aside0.mk Q_HB
   have HO269 := Aside0.mk (Q_HO269 (hon 20 (by kernel_rfl)))
   have HO275 := Aside0.mk (Q_HO275 (hon 33 (by kernel_rfl)))
   refine goesV_ Try.func63 (by kernel_rfl) rfl (args := #[.slice A1_10 l1_10.length c1_10, .pointer (some ⟨gl, 0, none⟩)]) (cap := #[.pointer (some ⟨gl, 0, none⟩)]) (by rfl) rfl rfl (by simp [Act.eval, Array.getD_eq_getD_getElem?, e55, e52]) (by simp [Act.eval, Array.getD_eq_getD_getElem?, e55, e52]) ?_
   with_reducible refine (proof_Proof_1.calls (gl := gl) (hY := lev_of BY.out) k _ _ l1_10 a0 t277 _ ?side1 ?side2 A14.out).mono ?_
   (case side1 => exact cq (Kd.C_below HR1_10.out HB.out))
   (case side2 => exact HC1_10.out)
   rintro e w37 ⟨rfl, hb⟩
   refine ⟨_, rfl, ?_⟩
   replace HO269 := kb HO269 hb
   replace HO275 := kb HO275 hb
   replace BK260 := bb BK260 hb
   replace BY := bb BY hb
   replace BO := bb BO hb
   replace BI := bb BI hb
   replace HB := bh HB hb
   (try clear hb)
   refine hK.out _ _ ⟨v268, v274, v281, (by rw [ha.out]; exact putSel_upk 26 hb_ rfl rfl rfl), (bk BK260.out), (bk BY.out), (bk BO.out), (bk BI.out), (bq HB.out), fun _ => (kr HO269.out), fun _ => (kr HO275.out), fun h0_ => absurd ((hoff 49 (by kernel_rfl)).symm.trans h0_) (by decide)⟩
  refine steps_cons ?_ ?_
  ·rintro b a w' ⟨v268, v274, v281, ha, Q_BK260, Q_BY, Q_BO, Q_BI, Q_HB, Q_HO269, Q_HO275, Q_HO282⟩ hb_ hon hoff
   refine ⟨_, rfl, fun K hK => ?_⟩
   have e59 : a.tmps[59]? = some (.pointer (some ⟨gb260, 11, none⟩)) := by rw [ha]; exact (putSel_off rfl).trans rfl
   replace ha := Aside0.mk ha
   have BK260 := Aside0.mk Q_BK260
   have BY := Aside0.mk Q_BY
   have BO := Aside0.mk Q_BO
   have BI := Aside0.mk Q_BI
   have HB := Aside0.mk Q_HB
   obtain ⟨hc0_, hc1_, hc2_, hc3_, hc4_, hc5_, hc6_, hc7_, hc8_, hc9_, hc10_, hc11_, hc12_⟩ := zc13 BK260
   refine value_ (w1 := w') (v := .slice A1_11 l1_11.length c1_11) (by rfl) rfl ?_ ?_
   ·go_simp
    (try simp only [i64_w])
    try rfl
   refine hK.out _ _ ⟨v268, v274, v281, (by rw [ha.out]; exact putSel_upk 27 hb_ rfl rfl rfl), Q_BK260, Q_BY, Q_BO, Q_BI, Q_HB, Q_HO269, Q_HO275, fun h0_ => absurd ((hoff 49 (by kernel_rfl)).symm.trans h0_) (by decide)⟩
  refine steps_cons ?_ ?_
  ·rintro b a w' ⟨v268, v274, v281, ha, Q_BK260, Q_BY, Q_BO, Q_BI, Q_HB, Q_HO269, Q_HO275, Q_HO282⟩ hb_ hon hoff
   refine ⟨_, rfl, fun K hK => ?_⟩
   have e60 : a.tmps[60]? = some (.slice A1_11 l1_11.length c1_11) := by rw [ha]; exact putSel_on (e := (43, 60, .slice A1_11 l1_11.length c1_11)) 27 rfl rfl (hon 43 (by kernel_rfl)) rfl
   have e57 : a.tmps[57]? = some (.func (.func 65) #[] #[.pointer (some ⟨go, 0, none⟩)]) := by rw [ha]; exact (putSel_off rfl).trans rfl
   replace ha := Aside0.mk ha
   have BK260 := Aside0.mk Q_BK260
   have BY := Aside0.mk Q_BY
   have BO := Aside0.mk Q_BO
   have BI := Aside0.mk Q_BI
   have HB := Aside0.mk Q_HB
   have HO269 := Aside0.mk (Q_HO269 (hon 20 (by kernel_rfl)))
   have HO275 := Aside0.mk (Q_HO275 (hon 33 (by kernel_rfl)))
   refine goesV_ Try.func65 (by kernel_rfl) rfl (args := #[.slice A1_11 l1_11.length c1_11, .pointer (some ⟨go, 0, none⟩)]) (cap := #[.pointer (some ⟨go, 0, none⟩)]) (by rfl) rfl rfl (by simp [Act.eval, Array.getD_eq_getD_getElem?, e60, e57]) (by simp [Act.eval, Array.getD_eq_getD_getElem?, e60, e57]) ?_
   with_reducible refine (proof_Proof_2.calls (gl := gl) (go := go) (hO := one_of_ BO.out) (hY := lev_of BY.out) k _ _ l1_11 a0 t278 _ ?side1 ?side2 A15.out).mono ?_
   (case side1 => exact cq (Kd.C_below HR1_11.out HB.out))
   (case side2 => exact HC1_11.out)
   rintro e w38 ⟨rfl, hb⟩
   refine ⟨_, rfl, ?_⟩
   replace HO269 := kb HO269 hb
   replace HO275 := kb HO275 hb
   replace BK260 := bb BK260 hb
   replace BY := bb BY hb
   replace BO := bb BO hb
   replace BI := bb BI hb
   replace HB := bh HB hb
   (try clear hb)
   refine hK.out _ _ ⟨v268, v274, v281, (by rw [ha.out]; exact putSel_upk 28 hb_ rfl rfl rfl), (bk BK260.out), (bk BY.out), (bk BO.out), (bk BI.out), (bq HB.out), fun _ => (kr HO269.out), fun _ => (kr HO275.out), fun h0_ => absurd ((hoff 49 (by kernel_rfl)).symm.trans h0_) (by decide)⟩
  refine steps_cons ?_ ?_
  ·rintro b a w' ⟨v268, v274, v281, ha, Q_BK260, Q_BY, Q_BO, Q_BI, Q_HB, Q_HO269, Q_HO275, Q_HO282⟩ hb_ hon hoff
   refine ⟨_, rfl, fun K hK => ?_⟩
   have e63 : a.tmps[63]? = some (.pointer (some ⟨gb260, 12, none⟩)) := by rw [ha]; exact (putSel_off rfl).trans rfl
   replace ha := Aside0.mk ha
   have BK260 := Aside0.mk Q_BK260
   have BY := Aside0.mk Q_BY
   have BO := Aside0.mk Q_BO
   have BI := Aside0.mk Q_BI
   have HB := Aside0.mk Q_HB
   obtain ⟨hc0_, hc1_, hc2_, hc3_, hc4_, hc5_, hc6_, hc7_, hc8_, hc9_, hc10_, hc11_, hc12_⟩ := zc13 BK260
   refine value_ (w1 := w') (v := .slice A1_12 l1_12.length c1_12) (by rfl) rfl ?_ ?_
   ·go_simp
    (try simp only [i64_w])
    try rfl
   refine hK.out _ _ ⟨v268, v274, v281, (by rw [ha.out]; exact putSel_upk 29 hb_ rfl rfl rfl), Q_BK260, Q_BY, Q_BO, Q_BI, Q_HB, Q_HO269, Q_HO275, fun h0_ => absurd ((hoff 49 (by kernel_rfl)).symm.trans h0_) (by decide)⟩
  refine steps_cons ?_ ?_
  ·rintro b a w' ⟨v268, v274, v281, ha, Q_BK260, Q_BY, Q_BO, Q_BI, Q_HB, Q_HO269, Q_HO275, Q_HO282⟩ hb_ hon hoff
   refine ⟨_, rfl, fun K hK => ?_⟩
   have e64 : a.tmps[64]? = some (.slice A1_12 l1_12.length c1_12) := by rw [ha]; exact putSel_on (e := (47, 64, .slice A1_12 l1_12.length c1_12)) 29 rfl rfl (hon 47 (by kernel_rfl)) rfl
   replace ha := Aside0.mk ha
   have BK260 := Aside0.mk Q_BK260
   have BY := Aside0.mk Q_BY
   have BO := Aside0.mk Q_BO
   have BI := Aside0.mk Q_BI
   have HB := Aside0.mk Q_HB
   have HO269 := Aside0.mk (Q_HO269 (hon 20 (by kernel_rfl)))
   have HO275 := Aside0.mk (Q_HO275 (hon 33 (by kernel_rfl)))
   refine goes_ Try.func69 (by kernel_rfl) rfl #[.slice A1_12 l1_12.length c1_12] (by rfl) rfl rfl (by first | (simp only [List.map_toArray, List.map_cons, List.map_nil, Act.eval, Array.getD_eq_getD_getElem?, Option.getD_some, e64]; done) | (simp only [List.map_toArray, List.map_cons, List.map_nil, Act.eval, Array.getD_eq_getD_getElem?, Option.getD_some, e64]; rfl)) ?_
   with_reducible refine (octet_List.calls k _ _ l1_12 t279 _ ?side1 ?side2 A16.out).mono ?_
   (case side1 => exact cq (Kd.C_below HR1_12.out HB.out))
   (case side2 => exact HC1_12.out)
   rintro e w39 ⟨rfl, hb⟩
   refine ⟨_, rfl, ?_⟩
   replace HO269 := kb HO269 hb
   replace HO275 := kb HO275 hb
   replace BK260 := bb BK260 hb
   replace BY := bb BY hb
   replace BO := bb BO hb
   replace BI := bb BI hb
   replace HB := bh HB hb
   (try clear hb)
   refine hK.out _ _ ⟨v268, v274, v281, (by rw [ha.out]; exact putSel_upk 30 hb_ rfl rfl rfl), (bk BK260.out), (bk BY.out), (bk BO.out), (bk BI.out), (bq HB.out), fun _ => (kr HO269.out), fun _ => (kr HO275.out), fun h0_ => absurd ((hoff 49 (by kernel_rfl)).symm.trans h0_) (by decide)⟩
  refine steps_cons ?_ ?_
  ·rintro b a w' ⟨v268, v274, v281, ha, Q_BK260, Q_BY, Q_BO, Q_BI, Q_HB, Q_HO269, Q_HO275, Q_HO282⟩ hb_ hon hoff
   refine ⟨_, rfl, fun K hK => ?_⟩
   have e18 : a.tmps[18]? = some (.string t262) := by rw [ha]; exact putSel_on (e := (1, 18, .string t262)) 1 rfl rfl (hon 1 (by kernel_rfl)) rfl
   have e21 : a.tmps[21]? = some (.string t263) := by rw [ha]; exact putSel_on (e := (4, 21, .string t263)) 3 rfl rfl (hon 4 (by kernel_rfl)) rfl
   have e25 : a.tmps[25]? = some (.string t264) := by rw [ha]; exact putSel_on (e := (8, 25, .string t264)) 5 rfl rfl (hon 8 (by kernel_rfl)) rfl
   have e29 : a.tmps[29]? = some (.string t265) := by rw [ha]; exact putSel_on (e := (12, 29, .string t265)) 8 rfl rfl (hon 12 (by kernel_rfl)) rfl
   have e33 : a.tmps[33]? = some (.string t266) := by rw [ha]; exact putSel_on (e := (16, 33, .string t266)) 10 rfl rfl (hon 16 (by kernel_rfl)) rfl
   have e38 : a.tmps[38]? = some (.string t270) := by rw [ha]; exact putSel_on (e := (21, 38, .string t270)) 14 rfl rfl (hon 21 (by kernel_rfl)) rfl
   have e42 : a.tmps[42]? = some (.string t271) := by rw [ha]; exact putSel_on (e := (25, 42, .string t271)) 17 rfl rfl (hon 25 (by kernel_rfl)) rfl
   have e46 : a.tmps[46]? = some (.string t272) := by rw [ha]; exact putSel_on (e := (29, 46, .string t272)) 19 rfl rfl (hon 29 (by kernel_rfl)) rfl
   have e51 : a.tmps[51]? = some (.string t276) := by rw [ha]; exact putSel_on (e := (34, 51, .string t276)) 23 rfl rfl (hon 34 (by kernel_rfl)) rfl
   have e56 : a.tmps[56]? = some (.string t277) := by rw [ha]; exact putSel_on (e := (39, 56, .string t277)) 26 rfl rfl (hon 39 (by kernel_rfl)) rfl
   have e61 : a.tmps[61]? = some (.string t278) := by rw [ha]; exact putSel_on (e := (44, 61, .string t278)) 28 rfl rfl (hon 44 (by kernel_rfl)) rfl
   have e65 : a.tmps[65]? = some (.string t279) := by rw [ha]; exact putSel_on (e := (48, 65, .string t279)) 30 rfl rfl (hon 48 (by kernel_rfl)) rfl
   replace ha := Aside0.mk ha
   have BK260 := Aside0.mk Q_BK260
   have BY := Aside0.mk Q_BY
   have BO := Aside0.mk Q_BO
   have BI := Aside0.mk Q_BI
   have HB := Aside0.mk Q_HB
   have HO269 := Aside0.mk (Q_HO269 (hon 20 (by kernel_rfl)))
   have HO275 := Aside0.mk (Q_HO275 (hon 33 (by kernel_rfl)))
   refine Kd.R_lit_step Kd.string _ 9 ?hg (N := 66) ?hd (xs := ([t262, t263, t264, t265, t266, t270, t271, t272, t276, t277, t278, t279] : List ByteArray)) (inner := [.string t262, .string t263, .string t264, .string t265, .string t266, .string t270, .string t271, .string t272, .string t276, .string t277, .string t278, .string t279]) (ok := fun _ => True) (okp := fun _ => True) ?hr ?hp (fun _ hk => hk) trivial (Below.refl _ _) (Nat.le_refl _) (by simp) ?_; (case hd => rfl); (case hg => rfl); (case hr => go_simp <;> rfl); (case hp => exact (Reps.one (show Kd.M Kd.string _ _ _ t262 [.string t262] from rfl) (Reps.one (show Kd.M Kd.string _ _ _ t263 [.string t263] from rfl) (Reps.one (show Kd.M Kd.string _ _ _ t264 [.string t264] from rfl) (Reps.one (show Kd.M Kd.string _ _ _ t265 [.string t265] from rfl) (Reps.one (show Kd.M Kd.string _ _ _ t266 [.string t266] from rfl) (Reps.one (show Kd.M Kd.string _ _ _ t270 [.string t270] from rfl) (Reps.one (show Kd.M Kd.string _ _ _ t271 [.string t271] from rfl) (Reps.one (show Kd.M Kd.string _ _ _ t272 [.string t272] from rfl) (Reps.one (show Kd.M Kd.string _ _ _ t276 [.string t276] from rfl) (Reps.one (show Kd.M Kd.string _ _ _ t277 [.string t277] from rfl) (Reps.one (show Kd.M Kd.string _ _ _ t278 [.string t278] from rfl) (Reps.one (show Kd.M Kd.string _ _ _ t279 [.string t279] from rfl) (Reps.none _ _))))))))))))))
   intro v281 w40 ho41 hb hg_ hnew_
   clear hg_ hnew_
   (first | rw [← Ny280.out] at ho41 | (simp only [Int.reduceToNat] at ho41; rw [← Ny280.out] at ho41))
   have HO282 := kw ho41 HB
   replace HO269 := kb HO269 hb
   replace HO275 := kb HO275 hb
   replace BK260 := bb BK260 hb
   replace BY := bb BY hb
   replace BO := bb BO hb
   replace BI := bb BI hb
   replace HB := bh HB hb
   clear hb ho41
   obtain ⟨Ao42, co42, eo42⟩ := Kd.R_slice HO282.out
   (first | subst eo42 | (injection eo42 with f1_ f2_ f3_; have f4_ := f1_.symm; have f5_ := f3_.symm; clear f1_ f2_ f3_; subst f4_; subst f5_))
   refine hK.out _ _ ⟨v268, v274, .slice Ao42 y280.length co42, (by rw [ha.out]; exact putSel_upk 31 hb_ rfl rfl rfl), (bk BK260.out), (bk BY.out), (bk BO.out), (bk BI.out), (bq HB.out), fun _ => (kr HO269.out), fun _ => (kr HO275.out), fun _ => (kr HO282.out)⟩
  refine steps_cons ?_ ?_
  ·rintro b a w' ⟨v268, v274, v281, ha, Q_BK260, Q_BY, Q_BO, Q_BI, Q_HB, Q_HO269, Q_HO275, Q_HO282⟩ hb_ hon hoff
   refine ⟨_, rfl, fun K hK => ?_⟩
   have e66 : a.tmps[66]? = some (v281) := by rw [ha]; exact putSel_on (e := (49, 66, v281)) 31 rfl rfl (hon 49 (by kernel_rfl)) rfl
   replace ha := Aside0.mk ha
   have BK260 := Aside0.mk Q_BK260
   have BY := Aside0.mk Q_BY
   have BO := Aside0.mk Q_BO
   have BI := Aside0.mk Q_BI
   have HB := Aside0.mk Q_HB
   have HO269 := Aside0.mk (Q_HO269 (hon 20 (by kernel_rfl)))
   have HO275 := Aside0.mk (Q_HO275 (hon 33 (by kernel_rfl)))
   have HO282 := Aside0.mk (Q_HO282 (hon 49 (by kernel_rfl)))
   obtain ⟨Ao50_0, co50_0, eo_⟩ := Kd.R_slice HO282.out
   subst eo_
   refine value_ (w1 := w') (v := .int .i64 (y280.length : Int)) (by rfl) rfl ?_ ?_
   ·go_simp
    (try simp only [i64_w])
    try rfl
   refine hK.out _ _ ⟨v268, v274, .slice Ao50_0 y280.length co50_0, (by rw [ha.out]; exact putSel_upk 32 hb_ rfl rfl rfl), Q_BK260, Q_BY, Q_BO, Q_BI, Q_HB, Q_HO269, Q_HO275, Q_HO282⟩
  exact steps_nil
 rintro b a w42 hall ⟨v268, v274, v281, ha, Q_BK260, Q_BY, Q_BO, Q_BI, Q_HB, Q_HO269, Q_HO275, Q_HO282⟩
 clear BK260 BY BO BI HB
 have hb0_ := hall 0 (by kernel_rfl)
 have hb9_ := hall 9 (by kernel_rfl)
 have hb17_ := hall 17 (by kernel_rfl)
 have hb22_ := hall 22 (by kernel_rfl)
 have hb30_ := hall 30 (by kernel_rfl)
 have hb35_ := hall 35 (by kernel_rfl)
 have hb1_ := hall 1 (by kernel_rfl)
 have hb3_ := hall 3 (by kernel_rfl)
 have hb4_ := hall 4 (by kernel_rfl)
 have hb7_ := hall 7 (by kernel_rfl)
 have hb8_ := hall 8 (by kernel_rfl)
 have hb11_ := hall 11 (by kernel_rfl)
 have hb12_ := hall 12 (by kernel_rfl)
 have hb15_ := hall 15 (by kernel_rfl)
 have hb16_ := hall 16 (by kernel_rfl)
 have hb19_ := hall 19 (by kernel_rfl)
 have hb20_ := hall 20 (by kernel_rfl)
 have hb21_ := hall 21 (by kernel_rfl)
 have hb24_ := hall 24 (by kernel_rfl)
 have hb25_ := hall 25 (by kernel_rfl)
 have hb28_ := hall 28 (by kernel_rfl)
 have hb29_ := hall 29 (by kernel_rfl)
 have hb32_ := hall 32 (by kernel_rfl)
 have hb33_ := hall 33 (by kernel_rfl)
 have hb34_ := hall 34 (by kernel_rfl)
 have hb38_ := hall 38 (by kernel_rfl)
 have hb39_ := hall 39 (by kernel_rfl)
 have hb43_ := hall 43 (by kernel_rfl)
 have hb44_ := hall 44 (by kernel_rfl)
 have hb47_ := hall 47 (by kernel_rfl)
 have hb48_ := hall 48 (by kernel_rfl)
 have hb49_ := hall 49 (by kernel_rfl)
 have hb50_ := hall 50 (by kernel_rfl)
 subst ha
 simp only [putSel, hb0_, hb9_, hb17_, hb22_, hb30_, hb35_, hb1_, hb3_, hb4_, hb7_, hb8_, hb11_, hb12_, hb15_, hb16_, hb19_, hb20_, hb21_, hb24_, hb25_, hb28_, hb29_, hb32_, hb33_, hb34_, hb38_, hb39_, hb43_, hb44_, hb47_, hb48_, hb49_, hb50_, if_true, Act.put, sA, s0, sS]
 have BK260 := Aside0.mk Q_BK260
 have BY := Aside0.mk Q_BY
 have BO := Aside0.mk Q_BO
 have BI := Aside0.mk Q_BI
 clear Q_BK260 Q_BY Q_BO Q_BI
 have HB := Aside0.mk Q_HB
 clear Q_HB
 have HO269 := Aside0.mk (Q_HO269 hb20_)
 clear Q_HO269
 have HO275 := Aside0.mk (Q_HO275 hb33_)
 clear Q_HO275
 have HO282 := Aside0.mk (Q_HO282 hb49_)
 clear Q_HO282
 clear hall hb0_ hb9_ hb17_ hb22_ hb30_ hb35_ hb1_ hb3_ hb4_ hb7_ hb8_ hb11_ hb12_ hb15_ hb16_ hb19_ hb20_ hb21_ hb24_ hb25_ hb28_ hb29_ hb32_ hb33_ hb34_ hb38_ hb39_ hb43_ hb44_ hb47_ hb48_ hb49_ hb50_
 obtain ⟨Ao43, co43, eo43⟩ := Kd.R_slice HO282.out
 (first | subst eo43 | (injection eo43 with f1_ f2_ f3_; have f4_ := f1_.symm; have f5_ := f3_.symm; clear f1_ f2_ f3_; subst f4_; subst f5_))
 obtain ⟨tj, hj1, hj2⟩ := Option.bind_eq_some_iff.mp H'.out
 obtain ⟨rfl, rfl⟩ : tj = r1 ∧ (0 : Int) = r2 := by simpa using hj2
 have HJ := Aside0.mk hj1
 clear hj1 hj2 H'
 have HI := Aside0.mk (Lib.IsBuilderF.of (bld_new (e := 5) G8.out BI.out))
 have HL := Aside0.mk (show y280.length ≤ 12 by rw [Ny280.out]; exact Nat.le_refl _)
 have HO := HO282
 clear HO282 BK260 BY BO BI
 try go_wp2
 go_loopg [68] y280.length (fun kq v68 w' => ∃ (s : ByteArray) (i : Nat), v68 = .int .i64 (i : Int) ∧ Aside0 (i + kq = y280.length) ∧ Aside0 (joinS (y280.drop i) s = some tj) ∧ Aside0 (Kd.R Kd.string 9 w' w.heap.size (fun _ => True) (.slice Ao43 y280.length co43) y280) ∧ Aside0 (Lib.IsBuilderF 125 5 w.heap.size g8 (Lib.strCells s) w') ∧ Aside0 (Below w.heap.size w w'))
 case atStart => exact ⟨⟨#[]⟩, 0, rfl, ⟨Nat.zero_add _⟩, HJ, HO, HI, HB⟩
 case round =>
  clear HJ HI HB HO
  obtain ⟨s, i, rfl, HK, HA, HO, HI, HB⟩ := hrel
  cases gk with
  | zero =>
   have e0 := HK.out
   have d1 : decide ((i : Int) < (y280.length : Int)) = false := decide_eq_false (by omega)
   have d2 : decide (i < y280.length) = false := decide_eq_false (by omega)
   have hA := HA.out
   rw [List.drop_of_length_le (by omega)] at hA
   obtain rfl := Option.some.inj hA
   clear hA e0
   go_wp2_with (go_at_call 71; refine (Try.Builder_String_any_k w.heap.size g8 s.data.toList _ HI.out (below_size HB.out)).mono ?_; rintro e w10 ⟨rfl, hi, hb, hk⟩; rw [str_eta]; replace HB := Aside0.mk (HB.out.trans hb); clear hi hb hk)
   go_ret2
   exact ⟨by first | rfl | (simp; done) | (simp [*]; done), HB.out⟩
  | succ gko =>
   have e0 := HK.out
   have hi : i < y280.length := by omega
   have d1 : decide ((i : Int) < (y280.length : Int)) = true := decide_eq_true (by omega)
   have d2 : decide (i < y280.length) = true := decide_eq_true hi
   have p1 : 0 ≤ (i : Int) := by omega
   have q1 : (i : Int) < (y280.length : Int) := by omega
   obtain ⟨ad1, e1, hx1⟩ := Kd.at_string (Kd.R_reads' HO.out).2.2 (i : Int) p1 q1
   cases e1
   obtain ⟨x, hx⟩ : ∃ x, x = y280[i] := ⟨_, rfl⟩
   have et : rdOf ByteArray.empty y280 (i : Int) = x := by rw [hx]; unfold rdOf; rw [Int.toNat_natCast, List.getD_eq_getElem?_getD, List.getElem?_eq_getElem hi, Option.getD_some]
   rw [et] at hx1
   clear et
   simp only [Int.toNat_natCast] at hx1
   have hA := HA.out
   rw [List.drop_eq_getElem_cons hi, ← hx] at hA
   replace hA : (if s.size + x.size ≤ 140737488355328 then joinS (y280.drop (i + 1)) (s ++ x) else none) = some tj := hA
   by_cases c7 : s.size + x.size ≤ 140737488355328
   rotate_left
   · rw [if_neg c7] at hA
     cases hA
   rw [if_pos c7] at hA
   have HZ7 := Aside0.mk c7
   have HA2 := Aside0.mk hA
   have e9 : wrap64 ((i : Int) + 1) = ((i + 1 : Nat) : Int) := by have := HL.out; unfold wrap64; omega
   have HK2 := Aside0.mk (show (i + 1) + gko = y280.length by omega)
   clear hA hx HA c7 hi e0
   replace p1 := eq_true p1
   replace q1 := eq_true q1
   go_wp2_with (go_at_call 70; refine (Try.Builder_WriteString_k w.heap.size g8 _ x _ HI.out (by rw [Lib.strCells_length]; exact HZ7.out) (below_size HB.out)).mono ?_; rintro e w9 ⟨rfl, hat, hb, hk⟩; rw [strCells_app] at hat; replace HO := Aside0.mk (str_others' HO.out HI.out (by decide) hk); replace HI := Aside0.mk (show Lib.IsBuilderF _ _ _ _ _ _ from .inr hat); replace HB := Aside0.mk (HB.out.trans hb); clear hat hb hk)
   go_roundg gko
   case measure => exact Nat.lt_succ_self _
   case rel => exact ⟨s ++ x, i + 1, by first | rfl | (simp; done) | (simp [*]; done), HK2, HA2, HO, HI, HB⟩
end Go.Proofs.Ythgiifakcgjlaaa.P
