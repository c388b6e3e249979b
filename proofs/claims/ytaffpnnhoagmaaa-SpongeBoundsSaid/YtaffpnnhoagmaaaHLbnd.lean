/- The law's function SpongeBounds walked (layer 10). Conditions: those that each theorem names. Printed by gen_st.py. -/
import Derived.Test.YtaffpnnhoagmaaaHAw11
import Derived.Test.YtaffpnnhoagmaaaHStream
set_option linter.unusedVariables false
set_option linter.unusedSimpArgs false
set_option maxRecDepth 100000
namespace Go.Proofs.Ytaffpnnhoagmaaa.P
open Go.RowKit Go.Proofs.Ytaffpnnhoagmaaa.Br Go.Proofs.YtaffpnnhoagmaaaX Go.Proofs.YtaffpnnhoagmaaaW.PrintWords Go.Proofs.YtaffpnnhoagmaaaW.PrintLast Go.Proofs.YtaffpnnhoagmaaaW.PrintMore
theorem blocks_of {n : Int} (h0 : 0 ≤ n) (h1 : n ≤ 1048576) : sponge_Blocks.f n = some ((n + 72) / 64) := by
  obtain ⟨m, rfl⟩ := Int.eq_ofNat_of_zero_le h0
  unfold sponge_Blocks.f
  rw [if_neg (by omega), if_neg (by omega), blocks_f m (by omega), Option.bind_some]
  unfold nB
  congr 1
theorem blocks_neg {n : Int} (h0 : n < 0) : sponge_Blocks.f n = some 0 := by
  unfold sponge_Blocks.f
  rw [if_pos h0]
theorem blocks_far {n : Int} (h0 : 1048576 < n) : sponge_Blocks.f n = some 0 := by
  unfold sponge_Blocks.f
  rw [if_neg (by omega), if_pos (by omega)]
theorem byte_info : (Try.prog.info? 5).map (fun i => (i.zero, i.size, i.bytes)) = some (some (.int .u8 0), (Kd.int .u8).sz, 1) := by kernel_rfl
theorem num0 : octet_Num.f 0 = some (numS 0) := num_f 0 (by decide)
set_option maxHeartbeats 8000000 in
set_option maxRecDepth 100000 in
theorem lbnd_neg (n : Int) (hn : n < 0) (w : World) :
  Calls Try.prog 7 #[.int .i64 n] w fun e w' => e = .returned (.bool true) ∧ Below w.heap.size w w' := by
 have HB := Aside0.mk (Below.refl w.heap.size w)
 obtain ⟨M, em⟩ : ∃ M : Int, M = 1048573 := ⟨_, rfl⟩
 have EM := Aside0.mk em.symm
 have M0 := Aside0.mk (show 0 ≤ M by omega)
 have ML := Aside0.mk (show M.toNat * 1 ≤ 281474976710656 by omega)
 have zn := numS_size 0
 clear em
 have d0 : decide (0 ≤ n) = false := decide_eq_false (by omega)
 have BK := Aside0.mk (blocks_neg hn)
 clear hn
 go_enter Try.func7, Try.ntmps7
 go_wp2_with (first
  | ((with_reducible refine gate_callee (f := 8) rfl ?_); refine goesL_ (some 6) rfl rfl Try.func8 (by kernel_rfl) rfl #[] rfl (by (try simp only [List.map_toArray, List.map_cons, List.map_nil]); first | done | rfl) ?_; (with_reducible refine (awake_calls _).mono ?_); rintro e w11 ⟨rfl, hb⟩; refine ⟨_, rfl, ?_⟩; replace HB := bh HB hb; (try clear hb))
  | (go_at_call 8; (with_reducible refine (awake_calls _).mono ?_); rintro e w11 ⟨rfl, hb⟩; replace HB := bh HB hb; (try clear hb))
  | ((with_reducible refine gate_dst (N := 22) rfl ?_); refine Kd.R_make (Kd.int .u8) w.heap.size 5 rfl (N := 22) rfl 48 _ _ rfl M (EM.out ▸ rfl) (EM.out ▸ rfl) Try.underlying48 (.int .u8 0) 1 byte_info rfl (by decide) (by decide) 0 (ok := fun _ => True) (okp := fun _ => True) ?hz (fun _ h => h) trivial M0.out ML.out HB.out (below_size HB.out) ?_; (case hz => first | exact Kd.M_row 0 | rfl | trivial); intro v1 w3 hR hb _ _; obtain ⟨A, c, rfl, hc, hC⟩ := Kd.R_reads hR; replace HB := Aside0.mk hb; have hcv := Kd.C_string (P := Try.prog) (src := 48) (dst := 9) (c := c) Try.underlying48 Try.underlying5 Try.underlying9 hC; (obtain ⟨L, eL⟩ : ∃ L, L = strOfNums (List.replicate M.toNat 0) := ⟨_, rfl⟩); have hLs : L.size = 1048573 := (by rw [eL, strOfNums_size, List.length_replicate, ← EM.out]; first | done | rfl); rw [← eL, List.length_replicate] at hcv; have ZL := Aside0.mk hLs; have zl : L.size + 4 ≤ 9223372036854775807 := (by omega); have zt : (L ++ numS 0).size = L.size + 4 := (by rw [ByteArray.size_append, numS_size]); have ZT := Aside0.mk zt; clear hLs eL hR hb hC hc zt)
  | ((with_reducible refine gate_callee (f := 9) rfl ?_); refine goesL_ (some 24) rfl rfl Try.func9 (by kernel_rfl) rfl #[] rfl (by (try simp only [List.map_toArray, List.map_cons, List.map_nil]); first | done | rfl) ?_; (with_reducible refine (make_tab _).mono ?_); rintro e w11 ⟨g, rfl, ht, hb⟩; refine ⟨_, rfl, ?_⟩; have HT := Aside0.mk ht; replace HB := bh HB hb; clear hb ht)
  | (go_at_call 9; (with_reducible refine (make_tab _).mono ?_); rintro e w11 ⟨g, rfl, ht, hb⟩; have HT := Aside0.mk ht; replace HB := bh HB hb; clear hb ht)
  | ((with_reducible refine gate_callee (f := 18) rfl ?_); refine goesL_ (some 26) rfl rfl Try.func18 (by kernel_rfl) rfl #[.int .i64 n] rfl (by (try simp only [List.map_toArray, List.map_cons, List.map_nil]); first | done | rfl) ?_; (with_reducible refine (sponge_Blocks.calls _ 0 _ BK.out).mono ?_); rintro e w11 ⟨rfl, hd⟩; refine ⟨_, rfl, ?_⟩; have hb := hd.below; clear hd; replace HT := Aside0.mk (HT.out.below hb); replace HB := bh HB hb; (try clear hb))
  | (go_at_call 18; (with_reducible refine (sponge_Blocks.calls _ 0 _ BK.out).mono ?_); rintro e w11 ⟨rfl, hd⟩; have hb := hd.below; clear hd; replace HT := Aside0.mk (HT.out.below hb); replace HB := bh HB hb; (try clear hb))
  | ((with_reducible refine gate_callee (f := 23) rfl ?_); refine goesL_ (some 32) rfl rfl Try.func23 (by kernel_rfl) rfl #[.pointer (some ⟨g, 0, none⟩), .string L, .int .i64 1] rfl (by (try simp only [List.map_toArray, List.map_cons, List.map_nil]); first | done | rfl) ?_; refine (stream_long (g := g) L 1 (by decide) (by decide) (by rw [ZL.out]; decide)).mono ?_; rintro e w11 ⟨rfl, hb⟩; refine ⟨_, rfl, ?_⟩; replace HT := Aside0.mk (HT.out.below hb); replace HB := bh HB hb; (try clear hb))
  | (go_at_call 23; refine (stream_long (g := g) L 1 (by decide) (by decide) (by rw [ZL.out]; decide)).mono ?_; rintro e w11 ⟨rfl, hb⟩; replace HT := Aside0.mk (HT.out.below hb); replace HB := bh HB hb; (try clear hb))
  | ((with_reducible refine gate_callee (f := 25) rfl ?_); refine goesL_ (some 38) rfl rfl Try.func25 (by kernel_rfl) rfl #[.int .i64 0] rfl (by (try simp only [List.map_toArray, List.map_cons, List.map_nil]); first | done | rfl) ?_; (with_reducible refine (octet_Num.calls 0 (numS 0) _ num0).mono ?_); rintro e w11 ⟨rfl, hb⟩; refine ⟨_, rfl, ?_⟩; replace HT := Aside0.mk (HT.out.below hb); replace HB := bh HB hb; (try clear hb))
  | (go_at_call 25; (with_reducible refine (octet_Num.calls 0 (numS 0) _ num0).mono ?_); rintro e w11 ⟨rfl, hb⟩; replace HT := Aside0.mk (HT.out.below hb); replace HB := bh HB hb; (try clear hb))
  | ((with_reducible refine gate_callee (f := 19) rfl ?_); refine goesL_ (some 40) rfl rfl Try.func19 (by kernel_rfl) rfl #[.pointer (some ⟨g, 0, none⟩), .string (L ++ numS 0)] rfl (by (try simp only [List.map_toArray, List.map_cons, List.map_nil]); first | done | rfl) ?_; refine (sum_far (g := g) (L ++ numS 0) (by rw [ZT.out, ZL.out]; decide)).mono ?_; rintro e w11 ⟨rfl, hb⟩; refine ⟨_, rfl, ?_⟩; replace HT := Aside0.mk (HT.out.below hb); replace HB := bh HB hb; (try clear hb))
  | (go_at_call 19; refine (sum_far (g := g) (L ++ numS 0) (by rw [ZT.out, ZL.out]; decide)).mono ?_; rintro e w11 ⟨rfl, hb⟩; replace HT := Aside0.mk (HT.out.below hb); replace HB := bh HB hb; (try clear hb)))
 go_ret
 exact ⟨by first | rfl | (simp; done) | (simp [*]; done), HB.out⟩
set_option maxHeartbeats 8000000 in
set_option maxRecDepth 100000 in
theorem lbnd_far (n : Int) (hn : 1048576 < n) (w : World) :
  Calls Try.prog 7 #[.int .i64 n] w fun e w' => e = .returned (.bool true) ∧ Below w.heap.size w w' := by
 have HB := Aside0.mk (Below.refl w.heap.size w)
 obtain ⟨M, em⟩ : ∃ M : Int, M = 1048573 := ⟨_, rfl⟩
 have EM := Aside0.mk em.symm
 have M0 := Aside0.mk (show 0 ≤ M by omega)
 have ML := Aside0.mk (show M.toNat * 1 ≤ 281474976710656 by omega)
 have zn := numS_size 0
 clear em
 have d0 : decide (0 ≤ n) = true := decide_eq_true (by omega)
 have d1 : decide (n ≤ 1048576) = false := decide_eq_false (by omega)
 have BK := Aside0.mk (blocks_far hn)
 clear hn
 go_enter Try.func7, Try.ntmps7
 go_wp2_with (first
  | ((with_reducible refine gate_callee (f := 8) rfl ?_); refine goesL_ (some 6) rfl rfl Try.func8 (by kernel_rfl) rfl #[] rfl (by (try simp only [List.map_toArray, List.map_cons, List.map_nil]); first | done | rfl) ?_; (with_reducible refine (awake_calls _).mono ?_); rintro e w11 ⟨rfl, hb⟩; refine ⟨_, rfl, ?_⟩; replace HB := bh HB hb; (try clear hb))
  | (go_at_call 8; (with_reducible refine (awake_calls _).mono ?_); rintro e w11 ⟨rfl, hb⟩; replace HB := bh HB hb; (try clear hb))
  | ((with_reducible refine gate_dst (N := 22) rfl ?_); refine Kd.R_make (Kd.int .u8) w.heap.size 5 rfl (N := 22) rfl 48 _ _ rfl M (EM.out ▸ rfl) (EM.out ▸ rfl) Try.underlying48 (.int .u8 0) 1 byte_info rfl (by decide) (by decide) 0 (ok := fun _ => True) (okp := fun _ => True) ?hz (fun _ h => h) trivial M0.out ML.out HB.out (below_size HB.out) ?_; (case hz => first | exact Kd.M_row 0 | rfl | trivial); intro v1 w3 hR hb _ _; obtain ⟨A, c, rfl, hc, hC⟩ := Kd.R_reads hR; replace HB := Aside0.mk hb; have hcv := Kd.C_string (P := Try.prog) (src := 48) (dst := 9) (c := c) Try.underlying48 Try.underlying5 Try.underlying9 hC; (obtain ⟨L, eL⟩ : ∃ L, L = strOfNums (List.replicate M.toNat 0) := ⟨_, rfl⟩); have hLs : L.size = 1048573 := (by rw [eL, strOfNums_size, List.length_replicate, ← EM.out]; first | done | rfl); rw [← eL, List.length_replicate] at hcv; have ZL := Aside0.mk hLs; have zl : L.size + 4 ≤ 9223372036854775807 := (by omega); have zt : (L ++ numS 0).size = L.size + 4 := (by rw [ByteArray.size_append, numS_size]); have ZT := Aside0.mk zt; clear hLs eL hR hb hC hc zt)
  | ((with_reducible refine gate_callee (f := 9) rfl ?_); refine goesL_ (some 24) rfl rfl Try.func9 (by kernel_rfl) rfl #[] rfl (by (try simp only [List.map_toArray, List.map_cons, List.map_nil]); first | done | rfl) ?_; (with_reducible refine (make_tab _).mono ?_); rintro e w11 ⟨g, rfl, ht, hb⟩; refine ⟨_, rfl, ?_⟩; have HT := Aside0.mk ht; replace HB := bh HB hb; clear hb ht)
  | (go_at_call 9; (with_reducible refine (make_tab _).mono ?_); rintro e w11 ⟨g, rfl, ht, hb⟩; have HT := Aside0.mk ht; replace HB := bh HB hb; clear hb ht)
  | ((with_reducible refine gate_callee (f := 18) rfl ?_); refine goesL_ (some 26) rfl rfl Try.func18 (by kernel_rfl) rfl #[.int .i64 n] rfl (by (try simp only [List.map_toArray, List.map_cons, List.map_nil]); first | done | rfl) ?_; (with_reducible refine (sponge_Blocks.calls _ 0 _ BK.out).mono ?_); rintro e w11 ⟨rfl, hd⟩; refine ⟨_, rfl, ?_⟩; have hb := hd.below; clear hd; replace HT := Aside0.mk (HT.out.below hb); replace HB := bh HB hb; (try clear hb))
  | (go_at_call 18; (with_reducible refine (sponge_Blocks.calls _ 0 _ BK.out).mono ?_); rintro e w11 ⟨rfl, hd⟩; have hb := hd.below; clear hd; replace HT := Aside0.mk (HT.out.below hb); replace HB := bh HB hb; (try clear hb))
  | ((with_reducible refine gate_callee (f := 23) rfl ?_); refine goesL_ (some 32) rfl rfl Try.func23 (by kernel_rfl) rfl #[.pointer (some ⟨g, 0, none⟩), .string L, .int .i64 1] rfl (by (try simp only [List.map_toArray, List.map_cons, List.map_nil]); first | done | rfl) ?_; refine (stream_long (g := g) L 1 (by decide) (by decide) (by rw [ZL.out]; decide)).mono ?_; rintro e w11 ⟨rfl, hb⟩; refine ⟨_, rfl, ?_⟩; replace HT := Aside0.mk (HT.out.below hb); replace HB := bh HB hb; (try clear hb))
  | (go_at_call 23; refine (stream_long (g := g) L 1 (by decide) (by decide) (by rw [ZL.out]; decide)).mono ?_; rintro e w11 ⟨rfl, hb⟩; replace HT := Aside0.mk (HT.out.below hb); replace HB := bh HB hb; (try clear hb))
  | ((with_reducible refine gate_callee (f := 25) rfl ?_); refine goesL_ (some 38) rfl rfl Try.func25 (by kernel_rfl) rfl #[.int .i64 0] rfl (by (try simp only [List.map_toArray, List.map_cons, List.map_nil]); first | done | rfl) ?_; (with_reducible refine (octet_Num.calls 0 (numS 0) _ num0).mono ?_); rintro e w11 ⟨rfl, hb⟩; refine ⟨_, rfl, ?_⟩; replace HT := Aside0.mk (HT.out.below hb); replace HB := bh HB hb; (try clear hb))
  | (go_at_call 25; (with_reducible refine (octet_Num.calls 0 (numS 0) _ num0).mono ?_); rintro e w11 ⟨rfl, hb⟩; replace HT := Aside0.mk (HT.out.below hb); replace HB := bh HB hb; (try clear hb))
  | ((with_reducible refine gate_callee (f := 19) rfl ?_); refine goesL_ (some 40) rfl rfl Try.func19 (by kernel_rfl) rfl #[.pointer (some ⟨g, 0, none⟩), .string (L ++ numS 0)] rfl (by (try simp only [List.map_toArray, List.map_cons, List.map_nil]); first | done | rfl) ?_; refine (sum_far (g := g) (L ++ numS 0) (by rw [ZT.out, ZL.out]; decide)).mono ?_; rintro e w11 ⟨rfl, hb⟩; refine ⟨_, rfl, ?_⟩; replace HT := Aside0.mk (HT.out.below hb); replace HB := bh HB hb; (try clear hb))
  | (go_at_call 19; refine (sum_far (g := g) (L ++ numS 0) (by rw [ZT.out, ZL.out]; decide)).mono ?_; rintro e w11 ⟨rfl, hb⟩; replace HT := Aside0.mk (HT.out.below hb); replace HB := bh HB hb; (try clear hb)))
 go_ret
 exact ⟨by first | rfl | (simp; done) | (simp [*]; done), HB.out⟩
set_option maxHeartbeats 8000000 in
set_option maxRecDepth 100000 in
theorem lbnd_lo (n q r : Int) (h0 : 0 ≤ n) (h1 : n ≤ 1048576) (hq : n = 64 * q + r) (hr0 : 0 ≤ r) (hr1 : r < 64) (hr : r ≤ 55) (w : World) :
  Calls Try.prog 7 #[.int .i64 n] w fun e w' => e = .returned (.bool true) ∧ Below w.heap.size w w' := by
 have HB := Aside0.mk (Below.refl w.heap.size w)
 obtain ⟨M, em⟩ : ∃ M : Int, M = 1048573 := ⟨_, rfl⟩
 have EM := Aside0.mk em.symm
 have M0 := Aside0.mk (show 0 ≤ M by omega)
 have ML := Aside0.mk (show M.toNat * 1 ≤ 281474976710656 by omega)
 have zn := numS_size 0
 clear em
 have d0 : decide (0 ≤ n) = true := decide_eq_true (by omega)
 have d1 : decide (n ≤ 1048576) = true := decide_eq_true (by omega)
 have e1 : n / 64 = q := by omega
 have e2 : n % 64 = r := by omega
 have e3 : Int.tdiv n 64 = q := by rw [Int.tdiv_eq_ediv_of_nonneg (by omega)]; omega
 have e4 : Int.tmod n 64 = r := by rw [Int.tmod_eq_emod_of_nonneg (by omega)]; omega
 have q0 : 0 ≤ q := by omega
 have q1 : q ≤ 16384 := by omega
 have q2 : wrap64 (q + 1) = q + 1 := by unfold wrap64; omega
 have q3 : wrap64 (q + 1 + 1) = q + 1 + 1 := by unfold wrap64; omega
 have q4 : wrap64 q = q := by unfold wrap64; omega
 have d2 : decide (55 < r) = false := decide_eq_false (by omega)
 have BK : Aside0 (sponge_Blocks.f n = some (q + 1)) := ⟨by rw [blocks_of h0 h1]; congr 1; omega⟩
 clear h0 h1 hq hr0 hr1 hr q0 q1
 go_enter Try.func7, Try.ntmps7
 go_wp2_with (first
  | ((with_reducible refine gate_callee (f := 8) rfl ?_); refine goesL_ (some 6) rfl rfl Try.func8 (by kernel_rfl) rfl #[] rfl (by (try simp only [List.map_toArray, List.map_cons, List.map_nil]); first | done | rfl) ?_; (with_reducible refine (awake_calls _).mono ?_); rintro e w11 ⟨rfl, hb⟩; refine ⟨_, rfl, ?_⟩; replace HB := bh HB hb; (try clear hb))
  | (go_at_call 8; (with_reducible refine (awake_calls _).mono ?_); rintro e w11 ⟨rfl, hb⟩; replace HB := bh HB hb; (try clear hb))
  | ((with_reducible refine gate_dst (N := 22) rfl ?_); refine Kd.R_make (Kd.int .u8) w.heap.size 5 rfl (N := 22) rfl 48 _ _ rfl M (EM.out ▸ rfl) (EM.out ▸ rfl) Try.underlying48 (.int .u8 0) 1 byte_info rfl (by decide) (by decide) 0 (ok := fun _ => True) (okp := fun _ => True) ?hz (fun _ h => h) trivial M0.out ML.out HB.out (below_size HB.out) ?_; (case hz => first | exact Kd.M_row 0 | rfl | trivial); intro v1 w3 hR hb _ _; obtain ⟨A, c, rfl, hc, hC⟩ := Kd.R_reads hR; replace HB := Aside0.mk hb; have hcv := Kd.C_string (P := Try.prog) (src := 48) (dst := 9) (c := c) Try.underlying48 Try.underlying5 Try.underlying9 hC; (obtain ⟨L, eL⟩ : ∃ L, L = strOfNums (List.replicate M.toNat 0) := ⟨_, rfl⟩); have hLs : L.size = 1048573 := (by rw [eL, strOfNums_size, List.length_replicate, ← EM.out]; first | done | rfl); rw [← eL, List.length_replicate] at hcv; have ZL := Aside0.mk hLs; have zl : L.size + 4 ≤ 9223372036854775807 := (by omega); have zt : (L ++ numS 0).size = L.size + 4 := (by rw [ByteArray.size_append, numS_size]); have ZT := Aside0.mk zt; clear hLs eL hR hb hC hc zt)
  | ((with_reducible refine gate_callee (f := 9) rfl ?_); refine goesL_ (some 24) rfl rfl Try.func9 (by kernel_rfl) rfl #[] rfl (by (try simp only [List.map_toArray, List.map_cons, List.map_nil]); first | done | rfl) ?_; (with_reducible refine (make_tab _).mono ?_); rintro e w11 ⟨g, rfl, ht, hb⟩; refine ⟨_, rfl, ?_⟩; have HT := Aside0.mk ht; replace HB := bh HB hb; clear hb ht)
  | (go_at_call 9; (with_reducible refine (make_tab _).mono ?_); rintro e w11 ⟨g, rfl, ht, hb⟩; have HT := Aside0.mk ht; replace HB := bh HB hb; clear hb ht)
  | ((with_reducible refine gate_callee (f := 18) rfl ?_); refine goesL_ (some 26) rfl rfl Try.func18 (by kernel_rfl) rfl #[.int .i64 n] rfl (by (try simp only [List.map_toArray, List.map_cons, List.map_nil]); first | done | rfl) ?_; (with_reducible refine (sponge_Blocks.calls _ (q + 1) _ BK.out).mono ?_); rintro e w11 ⟨rfl, hd⟩; refine ⟨_, rfl, ?_⟩; have hb := hd.below; clear hd; replace HT := Aside0.mk (HT.out.below hb); replace HB := bh HB hb; (try clear hb))
  | (go_at_call 18; (with_reducible refine (sponge_Blocks.calls _ (q + 1) _ BK.out).mono ?_); rintro e w11 ⟨rfl, hd⟩; have hb := hd.below; clear hd; replace HT := Aside0.mk (HT.out.below hb); replace HB := bh HB hb; (try clear hb))
  | ((with_reducible refine gate_callee (f := 23) rfl ?_); refine goesL_ (some 32) rfl rfl Try.func23 (by kernel_rfl) rfl #[.pointer (some ⟨g, 0, none⟩), .string L, .int .i64 1] rfl (by (try simp only [List.map_toArray, List.map_cons, List.map_nil]); first | done | rfl) ?_; refine (stream_long (g := g) L 1 (by decide) (by decide) (by rw [ZL.out]; decide)).mono ?_; rintro e w11 ⟨rfl, hb⟩; refine ⟨_, rfl, ?_⟩; replace HT := Aside0.mk (HT.out.below hb); replace HB := bh HB hb; (try clear hb))
  | (go_at_call 23; refine (stream_long (g := g) L 1 (by decide) (by decide) (by rw [ZL.out]; decide)).mono ?_; rintro e w11 ⟨rfl, hb⟩; replace HT := Aside0.mk (HT.out.below hb); replace HB := bh HB hb; (try clear hb))
  | ((with_reducible refine gate_callee (f := 25) rfl ?_); refine goesL_ (some 38) rfl rfl Try.func25 (by kernel_rfl) rfl #[.int .i64 0] rfl (by (try simp only [List.map_toArray, List.map_cons, List.map_nil]); first | done | rfl) ?_; (with_reducible refine (octet_Num.calls 0 (numS 0) _ num0).mono ?_); rintro e w11 ⟨rfl, hb⟩; refine ⟨_, rfl, ?_⟩; replace HT := Aside0.mk (HT.out.below hb); replace HB := bh HB hb; (try clear hb))
  | (go_at_call 25; (with_reducible refine (octet_Num.calls 0 (numS 0) _ num0).mono ?_); rintro e w11 ⟨rfl, hb⟩; replace HT := Aside0.mk (HT.out.below hb); replace HB := bh HB hb; (try clear hb))
  | ((with_reducible refine gate_callee (f := 19) rfl ?_); refine goesL_ (some 40) rfl rfl Try.func19 (by kernel_rfl) rfl #[.pointer (some ⟨g, 0, none⟩), .string (L ++ numS 0)] rfl (by (try simp only [List.map_toArray, List.map_cons, List.map_nil]); first | done | rfl) ?_; refine (sum_far (g := g) (L ++ numS 0) (by rw [ZT.out, ZL.out]; decide)).mono ?_; rintro e w11 ⟨rfl, hb⟩; refine ⟨_, rfl, ?_⟩; replace HT := Aside0.mk (HT.out.below hb); replace HB := bh HB hb; (try clear hb))
  | (go_at_call 19; refine (sum_far (g := g) (L ++ numS 0) (by rw [ZT.out, ZL.out]; decide)).mono ?_; rintro e w11 ⟨rfl, hb⟩; replace HT := Aside0.mk (HT.out.below hb); replace HB := bh HB hb; (try clear hb)))
 go_ret
 exact ⟨by first | rfl | (simp; done) | (simp [*]; done), HB.out⟩
set_option maxHeartbeats 8000000 in
set_option maxRecDepth 100000 in
theorem lbnd_hi (n q r : Int) (h0 : 0 ≤ n) (h1 : n ≤ 1048576) (hq : n = 64 * q + r) (hr0 : 0 ≤ r) (hr1 : r < 64) (hr : 55 < r) (w : World) :
  Calls Try.prog 7 #[.int .i64 n] w fun e w' => e = .returned (.bool true) ∧ Below w.heap.size w w' := by
 have HB := Aside0.mk (Below.refl w.heap.size w)
 obtain ⟨M, em⟩ : ∃ M : Int, M = 1048573 := ⟨_, rfl⟩
 have EM := Aside0.mk em.symm
 have M0 := Aside0.mk (show 0 ≤ M by omega)
 have ML := Aside0.mk (show M.toNat * 1 ≤ 281474976710656 by omega)
 have zn := numS_size 0
 clear em
 have d0 : decide (0 ≤ n) = true := decide_eq_true (by omega)
 have d1 : decide (n ≤ 1048576) = true := decide_eq_true (by omega)
 have e1 : n / 64 = q := by omega
 have e2 : n % 64 = r := by omega
 have e3 : Int.tdiv n 64 = q := by rw [Int.tdiv_eq_ediv_of_nonneg (by omega)]; omega
 have e4 : Int.tmod n 64 = r := by rw [Int.tmod_eq_emod_of_nonneg (by omega)]; omega
 have q0 : 0 ≤ q := by omega
 have q1 : q ≤ 16384 := by omega
 have q2 : wrap64 (q + 1) = q + 1 := by unfold wrap64; omega
 have q3 : wrap64 (q + 1 + 1) = q + 1 + 1 := by unfold wrap64; omega
 have q4 : wrap64 q = q := by unfold wrap64; omega
 have d2 : decide (55 < r) = true := decide_eq_true (by omega)
 have BK : Aside0 (sponge_Blocks.f n = some (q + 1 + 1)) := ⟨by rw [blocks_of h0 h1]; congr 1; omega⟩
 clear h0 h1 hq hr0 hr1 hr q0 q1
 go_enter Try.func7, Try.ntmps7
 go_wp2_with (first
  | ((with_reducible refine gate_callee (f := 8) rfl ?_); refine goesL_ (some 6) rfl rfl Try.func8 (by kernel_rfl) rfl #[] rfl (by (try simp only [List.map_toArray, List.map_cons, List.map_nil]); first | done | rfl) ?_; (with_reducible refine (awake_calls _).mono ?_); rintro e w11 ⟨rfl, hb⟩; refine ⟨_, rfl, ?_⟩; replace HB := bh HB hb; (try clear hb))
  | (go_at_call 8; (with_reducible refine (awake_calls _).mono ?_); rintro e w11 ⟨rfl, hb⟩; replace HB := bh HB hb; (try clear hb))
  | ((with_reducible refine gate_dst (N := 22) rfl ?_); refine Kd.R_make (Kd.int .u8) w.heap.size 5 rfl (N := 22) rfl 48 _ _ rfl M (EM.out ▸ rfl) (EM.out ▸ rfl) Try.underlying48 (.int .u8 0) 1 byte_info rfl (by decide) (by decide) 0 (ok := fun _ => True) (okp := fun _ => True) ?hz (fun _ h => h) trivial M0.out ML.out HB.out (below_size HB.out) ?_; (case hz => first | exact Kd.M_row 0 | rfl | trivial); intro v1 w3 hR hb _ _; obtain ⟨A, c, rfl, hc, hC⟩ := Kd.R_reads hR; replace HB := Aside0.mk hb; have hcv := Kd.C_string (P := Try.prog) (src := 48) (dst := 9) (c := c) Try.underlying48 Try.underlying5 Try.underlying9 hC; (obtain ⟨L, eL⟩ : ∃ L, L = strOfNums (List.replicate M.toNat 0) := ⟨_, rfl⟩); have hLs : L.size = 1048573 := (by rw [eL, strOfNums_size, List.length_replicate, ← EM.out]; first | done | rfl); rw [← eL, List.length_replicate] at hcv; have ZL := Aside0.mk hLs; have zl : L.size + 4 ≤ 9223372036854775807 := (by omega); have zt : (L ++ numS 0).size = L.size + 4 := (by rw [ByteArray.size_append, numS_size]); have ZT := Aside0.mk zt; clear hLs eL hR hb hC hc zt)
  | ((with_reducible refine gate_callee (f := 9) rfl ?_); refine goesL_ (some 24) rfl rfl Try.func9 (by kernel_rfl) rfl #[] rfl (by (try simp only [List.map_toArray, List.map_cons, List.map_nil]); first | done | rfl) ?_; (with_reducible refine (make_tab _).mono ?_); rintro e w11 ⟨g, rfl, ht, hb⟩; refine ⟨_, rfl, ?_⟩; have HT := Aside0.mk ht; replace HB := bh HB hb; clear hb ht)
  | (go_at_call 9; (with_reducible refine (make_tab _).mono ?_); rintro e w11 ⟨g, rfl, ht, hb⟩; have HT := Aside0.mk ht; replace HB := bh HB hb; clear hb ht)
  | ((with_reducible refine gate_callee (f := 18) rfl ?_); refine goesL_ (some 26) rfl rfl Try.func18 (by kernel_rfl) rfl #[.int .i64 n] rfl (by (try simp only [List.map_toArray, List.map_cons, List.map_nil]); first | done | rfl) ?_; (with_reducible refine (sponge_Blocks.calls _ (q + 1 + 1) _ BK.out).mono ?_); rintro e w11 ⟨rfl, hd⟩; refine ⟨_, rfl, ?_⟩; have hb := hd.below; clear hd; replace HT := Aside0.mk (HT.out.below hb); replace HB := bh HB hb; (try clear hb))
  | (go_at_call 18; (with_reducible refine (sponge_Blocks.calls _ (q + 1 + 1) _ BK.out).mono ?_); rintro e w11 ⟨rfl, hd⟩; have hb := hd.below; clear hd; replace HT := Aside0.mk (HT.out.below hb); replace HB := bh HB hb; (try clear hb))
  | ((with_reducible refine gate_callee (f := 23) rfl ?_); refine goesL_ (some 32) rfl rfl Try.func23 (by kernel_rfl) rfl #[.pointer (some ⟨g, 0, none⟩), .string L, .int .i64 1] rfl (by (try simp only [List.map_toArray, List.map_cons, List.map_nil]); first | done | rfl) ?_; refine (stream_long (g := g) L 1 (by decide) (by decide) (by rw [ZL.out]; decide)).mono ?_; rintro e w11 ⟨rfl, hb⟩; refine ⟨_, rfl, ?_⟩; replace HT := Aside0.mk (HT.out.below hb); replace HB := bh HB hb; (try clear hb))
  | (go_at_call 23; refine (stream_long (g := g) L 1 (by decide) (by decide) (by rw [ZL.out]; decide)).mono ?_; rintro e w11 ⟨rfl, hb⟩; replace HT := Aside0.mk (HT.out.below hb); replace HB := bh HB hb; (try clear hb))
  | ((with_reducible refine gate_callee (f := 25) rfl ?_); refine goesL_ (some 38) rfl rfl Try.func25 (by kernel_rfl) rfl #[.int .i64 0] rfl (by (try simp only [List.map_toArray, List.map_cons, List.map_nil]); first | done | rfl) ?_; (with_reducible refine (octet_Num.calls 0 (numS 0) _ num0).mono ?_); rintro e w11 ⟨rfl, hb⟩; refine ⟨_, rfl, ?_⟩; replace HT := Aside0.mk (HT.out.below hb); replace HB := bh HB hb; (try clear hb))
  | (go_at_call 25; (with_reducible refine (octet_Num.calls 0 (numS 0) _ num0).mono ?_); rintro e w11 ⟨rfl, hb⟩; replace HT := Aside0.mk (HT.out.below hb); replace HB := bh HB hb; (try clear hb))
  | ((with_reducible refine gate_callee (f := 19) rfl ?_); refine goesL_ (some 40) rfl rfl Try.func19 (by kernel_rfl) rfl #[.pointer (some ⟨g, 0, none⟩), .string (L ++ numS 0)] rfl (by (try simp only [List.map_toArray, List.map_cons, List.map_nil]); first | done | rfl) ?_; refine (sum_far (g := g) (L ++ numS 0) (by rw [ZT.out, ZL.out]; decide)).mono ?_; rintro e w11 ⟨rfl, hb⟩; refine ⟨_, rfl, ?_⟩; replace HT := Aside0.mk (HT.out.below hb); replace HB := bh HB hb; (try clear hb))
  | (go_at_call 19; refine (sum_far (g := g) (L ++ numS 0) (by rw [ZT.out, ZL.out]; decide)).mono ?_; rintro e w11 ⟨rfl, hb⟩; replace HT := Aside0.mk (HT.out.below hb); replace HB := bh HB hb; (try clear hb)))
 go_ret
 exact ⟨by first | rfl | (simp; done) | (simp [*]; done), HB.out⟩
end Go.Proofs.Ytaffpnnhoagmaaa.P
