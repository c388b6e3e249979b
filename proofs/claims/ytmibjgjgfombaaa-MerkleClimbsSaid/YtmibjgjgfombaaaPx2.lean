/- Written by a program of this session: functions that the law reaches, as Lean functions, and that the code comes to their answers. Conditions: those that each theorem names. -/
import Derived.Test.YtmibjgjgfombaaaPx0
import Derived.Test.YtmibjgjgfombaaaPx1
namespace Go.Proofs.Ytmibjgjgfombaaa.P
open Go.RowKit Go.Proofs.YtmibjgjgfombaaaX Go.Proofs.YtmibjgjgfombaaaW.PrintWords Go.Proofs.YtmibjgjgfombaaaW.PrintLast Go.Proofs.YtmibjgjgfombaaaW.PrintMore
attribute [local go_sem] max2_int min2_int max_two min_two max_three min_three max_four min_four   -- for this text's walks alone
set_option linter.unusedVariables false
set_option linter.unusedSimpArgs false
set_option maxRecDepth 100000 in
theorem fld_lo2b (w : World) (a b : Int) : Sem.run Try.prog (Instr.field 91 (Value.agg #[Value.int IntKind.u64 a, Value.int IntKind.u64 b]) 1) w = Result.ok (Value.int IntKind.u64 b) w := by
  have hu := Try.underlying91
  go_simp
  rfl
attribute [local go_sem] fld_lo2b
set_option maxRecDepth 100000 in
theorem fld_lo2a (w : World) (a b : Int) : Sem.run Try.prog (Instr.field 87 (Value.agg #[Value.int IntKind.u64 a, Value.int IntKind.u64 b]) 1) w = Result.ok (Value.int IntKind.u64 b) w := by
  have hu := Try.underlying87
  go_simp
  rfl
attribute [local go_sem] fld_lo2a

/-! ### tower_Inv: function 50 -/
def tower_Inv.f (k : Nat) (a0 : Int) (a1_0 : Int) (a1_1 : Int) : Option (Int × Int) := (octet_Of.f k a0 a1_0 a1_1).bind fun t133 => (if t133 = true then (if a0 ≤ 6 then ((tower_inv.f k a0 a1_1).bind fun t134 => (some (0, t134))) else ((tower_mulX.f k 6 a1_0).bind fun t135 => ((tower_mul.f k 6 a1_1 (Go.bits .xor .u64 a1_1 t135)).bind fun t136 => ((tower_square.f k 6 a1_0).bind fun t137 => ((tower_inv.f k 6 (Go.bits .xor .u64 t136 t137)).bind fun t138 => ((tower_mul.f k 6 a1_0 t138).bind fun t139 => ((tower_mul.f k 6 (Go.bits .xor .u64 a1_1 t135) t138).bind fun t140 => (some (t139, t140))))))))) else (some (0, 0)))
theorem tower_Inv.mono : ∀ a0 a1 a2 k, LeO (tower_Inv.f k a0 a1 a2) (tower_Inv.f (k + 1) a0 a1 a2) := by
 intro a0 a1 a2 k
 unfold tower_Inv.f
 repeat' first
   | (with_reducible exact octet_Of.mono _ _ _ _)
   | (with_reducible exact tower_inv.mono _ _ _)
   | (with_reducible exact tower_mul.mono _ _ _ _)
   | (with_reducible exact tower_mulX.mono _ _ _)
   | (with_reducible exact tower_square.mono _ _ _)
   | (with_reducible exact LeO.refl _)
   | (with_reducible exact LeO.none _)
   | (with_reducible refine LeO.ite ?_ ?_)
   | (with_reducible refine LeO.bind ?_ (fun _ => ?_))
   | exact octet_Of.mono _ _ _ _
   | exact tower_inv.mono _ _ _
   | exact tower_mul.mono _ _ _ _
   | exact tower_mulX.mono _ _ _
   | exact tower_square.mono _ _ _
   | exact LeO.none _
   | refine LeO.ite ?_ ?_
   | refine LeO.bind ?_ (fun _ => ?_)
set_option maxHeartbeats 8000000 in
set_option maxRecDepth 100000 in
theorem tower_Inv.calls (k : Nat) (a0 : Int) (a1_0 : Int) (a1_1 : Int) (r1 : Int) (r2 : Int) (w : World) (h : tower_Inv.f k a0 a1_0 a1_1 = some (r1, r2)) :
  Calls Try.prog 50 #[.int .i64 a0, .agg #[.int .u64 a1_0, .int .u64 a1_1]] w fun e w' => e = .returned (.agg #[.int .u64 r1, .int .u64 r2]) ∧ Below w.heap.size w w' := by
 have hu87 := Try.underlying87
 have HB := Aside0.mk (Below.refl w.heap.size w)
 have H : ((octet_Of.f k a0 a1_0 a1_1).bind fun t133 => (if t133 = true then (if a0 ≤ 6 then ((tower_inv.f k a0 a1_1).bind fun t134 => (some (0, t134))) else ((tower_mulX.f k 6 a1_0).bind fun t135 => ((tower_mul.f k 6 a1_1 (Go.bits .xor .u64 a1_1 t135)).bind fun t136 => ((tower_square.f k 6 a1_0).bind fun t137 => ((tower_inv.f k 6 (Go.bits .xor .u64 t136 t137)).bind fun t138 => ((tower_mul.f k 6 a1_0 t138).bind fun t139 => ((tower_mul.f k 6 (Go.bits .xor .u64 a1_1 t135) t138).bind fun t140 => (some (t139, t140))))))))) else (some (0, 0)))) = some (r1, r2) := h
 clear h
 replace H := Option.bind_eq_some_iff.mp H
 obtain ⟨t133, A30, H⟩ := H
 replace H : (if t133 = true then (if a0 ≤ 6 then ((tower_inv.f k a0 a1_1).bind fun t134 => (some (0, t134))) else ((tower_mulX.f k 6 a1_0).bind fun t135 => ((tower_mul.f k 6 a1_1 (Go.bits .xor .u64 a1_1 t135)).bind fun t136 => ((tower_square.f k 6 a1_0).bind fun t137 => ((tower_inv.f k 6 (Go.bits .xor .u64 t136 t137)).bind fun t138 => ((tower_mul.f k 6 a1_0 t138).bind fun t139 => ((tower_mul.f k 6 (Go.bits .xor .u64 a1_1 t135) t138).bind fun t140 => (some (t139, t140))))))))) else (some (0, 0))) = some (r1, r2) := H
 have A3 := Aside0.mk A30
 clear A30
 by_cases c4 : t133 = true
 ·subst c4
  have H1 : (if a0 ≤ 6 then ((tower_inv.f k a0 a1_1).bind fun t134 => (some (0, t134))) else ((tower_mulX.f k 6 a1_0).bind fun t135 => ((tower_mul.f k 6 a1_1 (Go.bits .xor .u64 a1_1 t135)).bind fun t136 => ((tower_square.f k 6 a1_0).bind fun t137 => ((tower_inv.f k 6 (Go.bits .xor .u64 t136 t137)).bind fun t138 => ((tower_mul.f k 6 a1_0 t138).bind fun t139 => ((tower_mul.f k 6 (Go.bits .xor .u64 a1_1 t135) t138).bind fun t140 => (some (t139, t140))))))))) = some (r1, r2) := by rw [if_pos rfl] at H; exact H
  clear H
  have H := H1
  clear H1
  by_cases c5 : a0 ≤ 6
  ·rw [if_pos c5] at H
   have c5b0 : decide (a0 ≤ 6) = true := decide_eq_true c5
   clear c5
   replace H := Option.bind_eq_some_iff.mp H
   obtain ⟨t134, A60, H⟩ := H
   replace H : (some (0, t134)) = some (r1, r2) := H
   have A6 := Aside0.mk A60
   clear A60
   simp only [Option.some.injEq, Prod.mk.injEq] at H
   obtain ⟨rfl, rfl⟩ := H
   go_enter Try.func50, Try.ntmps50
   go_wp2_with (first | ((with_reducible refine gate_dst (N := 3) rfl ?_); refine box_event ?hg (N := 3) ?hd (cs := #[.int .u64 a1_0, .int .u64 a1_1]) (t := 87) ?hr ?_; (case hd => rfl); (case hg => rfl); (case hr => first | (go_simp; done) | (go_simp; rfl)); intro gb131 hg w7 hbox hb; have BK131 := Aside0.mk hbox; have GW131 := ge hg HB; have GE131 := ge hg HB; replace HB := bh HB hb; clear hb hbox hg) | ((with_reducible refine gate_dst (N := 4) rfl ?_); refine box_event ?hg (N := 4) ?hd (cs := #[.int .u64 0, .int .u64 0]) (t := 87) ?hr ?_; (case hd => rfl); (case hg => rfl); (case hr => first | (go_simp; done) | (go_simp; rfl)); intro gb132 hg w8 hbox hb; have BK132 := Aside0.mk hbox; have GW132 := ge hg HB; have GE132 := ge hg HB; have NB131_132 := nl hg BK131; have NB132_131 := ng hg BK131; replace BK131 := bb BK131 hb; replace HB := bh HB hb; clear hb hbox hg; have hnb9 := NB131_132.out; have hnc9 := NB132_131.out; obtain ⟨hcz10_0, hcz10_1⟩ := zc2 BK131; obtain ⟨hfz10_0, hfz10_1⟩ := zf2 BK131) | (go_at_call 71; (with_reducible refine (octet_Of.calls k a0 a1_0 a1_1 true _ A3.out).mono ?_); rintro e w11 ⟨rfl, hb⟩; replace BK131 := bb BK131 hb; replace BK132 := bb BK132 hb; replace HB := bh HB hb; (try clear hb); (try clear hb2); (try clear hk); (try clear hi); obtain ⟨hcz12_0, hcz12_1⟩ := zc2 BK131; obtain ⟨hfz12_0, hfz12_1⟩ := zf2 BK131) | (go_at_call 72; (with_reducible refine (tower_inv.calls k a0 a1_1 t134 _ A6.out).mono ?_); rintro e w' ⟨rfl, ⟨nd, rfl⟩⟩; (try first | exact ⟨rfl, _, World.drewN_drewN _ _ _⟩ | exact ⟨rfl, _, Eq.trans (World.drewN_drewN _ _ _) (congrArg (World.drewN _) (Nat.add_assoc _ _ _))⟩); obtain ⟨hcz13_0, hcz13_1⟩ := zc2 BK132; obtain ⟨hfz13_0, hfz13_1⟩ := zf2 BK132))
   repeat (go_quiet (first | ((with_reducible refine gate_dst (N := 3) rfl ?_); refine box_event ?hg (N := 3) ?hd (cs := #[.int .u64 a1_0, .int .u64 a1_1]) (t := 87) ?hr ?_; (case hd => rfl); (case hg => rfl); (case hr => first | (go_simp; done) | (go_simp; rfl)); intro gb131 hg w7 hbox hb; have BK131 := Aside0.mk hbox; have GW131 := ge hg HB; have GE131 := ge hg HB; replace HB := bh HB hb; clear hb hbox hg) | ((with_reducible refine gate_dst (N := 4) rfl ?_); refine box_event ?hg (N := 4) ?hd (cs := #[.int .u64 0, .int .u64 0]) (t := 87) ?hr ?_; (case hd => rfl); (case hg => rfl); (case hr => first | (go_simp; done) | (go_simp; rfl)); intro gb132 hg w8 hbox hb; have BK132 := Aside0.mk hbox; have GW132 := ge hg HB; have GE132 := ge hg HB; have NB131_132 := nl hg BK131; have NB132_131 := ng hg BK131; replace BK131 := bb BK131 hb; replace HB := bh HB hb; clear hb hbox hg; have hnb9 := NB131_132.out; have hnc9 := NB132_131.out; obtain ⟨hcz10_0, hcz10_1⟩ := zc2 BK131; obtain ⟨hfz10_0, hfz10_1⟩ := zf2 BK131) | (go_at_call 71; (with_reducible refine (octet_Of.calls k a0 a1_0 a1_1 true _ A3.out).mono ?_); rintro e w11 ⟨rfl, hb⟩; replace BK131 := bb BK131 hb; replace BK132 := bb BK132 hb; replace HB := bh HB hb; (try clear hb); (try clear hb2); (try clear hk); (try clear hi); obtain ⟨hcz12_0, hcz12_1⟩ := zc2 BK131; obtain ⟨hfz12_0, hfz12_1⟩ := zf2 BK131) | (go_at_call 72; (with_reducible refine (tower_inv.calls k a0 a1_1 t134 _ A6.out).mono ?_); rintro e w' ⟨rfl, ⟨nd, rfl⟩⟩; (try first | exact ⟨rfl, _, World.drewN_drewN _ _ _⟩ | exact ⟨rfl, _, Eq.trans (World.drewN_drewN _ _ _) (congrArg (World.drewN _) (Nat.add_assoc _ _ _))⟩); obtain ⟨hcz13_0, hcz13_1⟩ := zc2 BK132; obtain ⟨hfz13_0, hfz13_1⟩ := zf2 BK132)); try go_wp2_with (first | ((with_reducible refine gate_dst (N := 3) rfl ?_); refine box_event ?hg (N := 3) ?hd (cs := #[.int .u64 a1_0, .int .u64 a1_1]) (t := 87) ?hr ?_; (case hd => rfl); (case hg => rfl); (case hr => first | (go_simp; done) | (go_simp; rfl)); intro gb131 hg w7 hbox hb; have BK131 := Aside0.mk hbox; have GW131 := ge hg HB; have GE131 := ge hg HB; replace HB := bh HB hb; clear hb hbox hg) | ((with_reducible refine gate_dst (N := 4) rfl ?_); refine box_event ?hg (N := 4) ?hd (cs := #[.int .u64 0, .int .u64 0]) (t := 87) ?hr ?_; (case hd => rfl); (case hg => rfl); (case hr => first | (go_simp; done) | (go_simp; rfl)); intro gb132 hg w8 hbox hb; have BK132 := Aside0.mk hbox; have GW132 := ge hg HB; have GE132 := ge hg HB; have NB131_132 := nl hg BK131; have NB132_131 := ng hg BK131; replace BK131 := bb BK131 hb; replace HB := bh HB hb; clear hb hbox hg; have hnb9 := NB131_132.out; have hnc9 := NB132_131.out; obtain ⟨hcz10_0, hcz10_1⟩ := zc2 BK131; obtain ⟨hfz10_0, hfz10_1⟩ := zf2 BK131) | (go_at_call 71; (with_reducible refine (octet_Of.calls k a0 a1_0 a1_1 true _ A3.out).mono ?_); rintro e w11 ⟨rfl, hb⟩; replace BK131 := bb BK131 hb; replace BK132 := bb BK132 hb; replace HB := bh HB hb; (try clear hb); (try clear hb2); (try clear hk); (try clear hi); obtain ⟨hcz12_0, hcz12_1⟩ := zc2 BK131; obtain ⟨hfz12_0, hfz12_1⟩ := zf2 BK131) | (go_at_call 72; (with_reducible refine (tower_inv.calls k a0 a1_1 t134 _ A6.out).mono ?_); rintro e w' ⟨rfl, ⟨nd, rfl⟩⟩; (try first | exact ⟨rfl, _, World.drewN_drewN _ _ _⟩ | exact ⟨rfl, _, Eq.trans (World.drewN_drewN _ _ _) (congrArg (World.drewN _) (Nat.add_assoc _ _ _))⟩); obtain ⟨hcz13_0, hcz13_1⟩ := zc2 BK132; obtain ⟨hfz13_0, hfz13_1⟩ := zf2 BK132)))
   refine bodyPost_ret (results_cell_row rfl _ _ gb132 87 #[.int .u64 0, .int .u64 t134] (0, 0) _ rfl (by (with_reducible repeat refine bl ?_); refine blk_put (cs := #[.int .u64 0, .int .u64 0]) ?_ 1 _ rfl; (with_reducible repeat refine bl ?_); refine blk_put (cs := #[.int .u64 0, .int .u64 0]) ?_ 0 _ rfl; (with_reducible repeat refine bl ?_); exact BK132.out) Try.underlying87 rfl (by kernel_rfl)) rfl ?_
   exact ⟨by first | rfl | (simp [errW_none, errW_some] <;> rfl) | (simp [*, errW_none, errW_some] <;> rfl), bq HB.out⟩
  ·rw [if_neg c5] at H
   have c5b0 : decide (a0 ≤ 6) = false := decide_eq_false c5
   clear c5
   replace H := Option.bind_eq_some_iff.mp H
   obtain ⟨t135, A140, H⟩ := H
   replace H : ((tower_mul.f k 6 a1_1 (Go.bits .xor .u64 a1_1 t135)).bind fun t136 => ((tower_square.f k 6 a1_0).bind fun t137 => ((tower_inv.f k 6 (Go.bits .xor .u64 t136 t137)).bind fun t138 => ((tower_mul.f k 6 a1_0 t138).bind fun t139 => ((tower_mul.f k 6 (Go.bits .xor .u64 a1_1 t135) t138).bind fun t140 => (some (t139, t140))))))) = some (r1, r2) := H
   have A14 := Aside0.mk A140
   clear A140
   replace H := Option.bind_eq_some_iff.mp H
   obtain ⟨t136, A150, H⟩ := H
   replace H : ((tower_square.f k 6 a1_0).bind fun t137 => ((tower_inv.f k 6 (Go.bits .xor .u64 t136 t137)).bind fun t138 => ((tower_mul.f k 6 a1_0 t138).bind fun t139 => ((tower_mul.f k 6 (Go.bits .xor .u64 a1_1 t135) t138).bind fun t140 => (some (t139, t140)))))) = some (r1, r2) := H
   have A15 := Aside0.mk A150
   clear A150
   replace H := Option.bind_eq_some_iff.mp H
   obtain ⟨t137, A160, H⟩ := H
   replace H : ((tower_inv.f k 6 (Go.bits .xor .u64 t136 t137)).bind fun t138 => ((tower_mul.f k 6 a1_0 t138).bind fun t139 => ((tower_mul.f k 6 (Go.bits .xor .u64 a1_1 t135) t138).bind fun t140 => (some (t139, t140))))) = some (r1, r2) := H
   have A16 := Aside0.mk A160
   clear A160
   replace H := Option.bind_eq_some_iff.mp H
   obtain ⟨t138, A170, H⟩ := H
   replace H : ((tower_mul.f k 6 a1_0 t138).bind fun t139 => ((tower_mul.f k 6 (Go.bits .xor .u64 a1_1 t135) t138).bind fun t140 => (some (t139, t140)))) = some (r1, r2) := H
   have A17 := Aside0.mk A170
   clear A170
   replace H := Option.bind_eq_some_iff.mp H
   obtain ⟨t139, A180, H⟩ := H
   replace H : ((tower_mul.f k 6 (Go.bits .xor .u64 a1_1 t135) t138).bind fun t140 => (some (t139, t140))) = some (r1, r2) := H
   have A18 := Aside0.mk A180
   clear A180
   replace H := Option.bind_eq_some_iff.mp H
   obtain ⟨t140, A190, H⟩ := H
   replace H : (some (t139, t140)) = some (r1, r2) := H
   have A19 := Aside0.mk A190
   clear A190
   simp only [Option.some.injEq, Prod.mk.injEq] at H
   obtain ⟨rfl, rfl⟩ := H
   go_enter Try.func50, Try.ntmps50
   go_wp2_with (first | ((with_reducible refine gate_dst (N := 3) rfl ?_); refine box_event ?hg (N := 3) ?hd (cs := #[.int .u64 a1_0, .int .u64 a1_1]) (t := 87) ?hr ?_; (case hd => rfl); (case hg => rfl); (case hr => first | (go_simp; done) | (go_simp; rfl)); intro gb131 hg w20 hbox hb; have BK131 := Aside0.mk hbox; have GW131 := ge hg HB; have GE131 := ge hg HB; replace HB := bh HB hb; clear hb hbox hg) | ((with_reducible refine gate_dst (N := 4) rfl ?_); refine box_event ?hg (N := 4) ?hd (cs := #[.int .u64 0, .int .u64 0]) (t := 87) ?hr ?_; (case hd => rfl); (case hg => rfl); (case hr => first | (go_simp; done) | (go_simp; rfl)); intro gb132 hg w21 hbox hb; have BK132 := Aside0.mk hbox; have GW132 := ge hg HB; have GE132 := ge hg HB; have NB131_132 := nl hg BK131; have NB132_131 := ng hg BK131; replace BK131 := bb BK131 hb; replace HB := bh HB hb; clear hb hbox hg; have hnb22 := NB131_132.out; have hnc22 := NB132_131.out; obtain ⟨hcz23_0, hcz23_1⟩ := zc2 BK131; obtain ⟨hfz23_0, hfz23_1⟩ := zf2 BK131) | (go_at_call 71; (with_reducible refine (octet_Of.calls k a0 a1_0 a1_1 true _ A3.out).mono ?_); rintro e w24 ⟨rfl, hb⟩; replace BK131 := bb BK131 hb; replace BK132 := bb BK132 hb; replace HB := bh HB hb; (try clear hb); (try clear hb2); (try clear hk); (try clear hi); obtain ⟨hcz25_0, hcz25_1⟩ := zc2 BK131; obtain ⟨hfz25_0, hfz25_1⟩ := zf2 BK131) | (go_at_call 73; (with_reducible refine (tower_mulX.calls k 6 a1_0 t135 _ A14.out).mono ?_); rintro e w' ⟨rfl, ⟨nd, rfl⟩⟩; (try first | exact ⟨rfl, _, World.drewN_drewN _ _ _⟩ | exact ⟨rfl, _, Eq.trans (World.drewN_drewN _ _ _) (congrArg (World.drewN _) (Nat.add_assoc _ _ _))⟩)) | (go_at_call 74; (with_reducible refine (tower_mul.calls k 6 a1_1 (Go.bits .xor .u64 a1_1 t135) t136 _ A15.out).mono ?_); rintro e w' ⟨rfl, ⟨nd, rfl⟩⟩; (try first | exact ⟨rfl, _, World.drewN_drewN _ _ _⟩ | exact ⟨rfl, _, Eq.trans (World.drewN_drewN _ _ _) (congrArg (World.drewN _) (Nat.add_assoc _ _ _))⟩)) | (go_at_call 75; (with_reducible refine (tower_square.calls k 6 a1_0 t137 _ A16.out).mono ?_); rintro e w' ⟨rfl, ⟨nd, rfl⟩⟩; (try first | exact ⟨rfl, _, World.drewN_drewN _ _ _⟩ | exact ⟨rfl, _, Eq.trans (World.drewN_drewN _ _ _) (congrArg (World.drewN _) (Nat.add_assoc _ _ _))⟩)) | (go_at_call 72; (with_reducible refine (tower_inv.calls k 6 (Go.bits .xor .u64 t136 t137) t138 _ A17.out).mono ?_); rintro e w' ⟨rfl, ⟨nd, rfl⟩⟩; (try first | exact ⟨rfl, _, World.drewN_drewN _ _ _⟩ | exact ⟨rfl, _, Eq.trans (World.drewN_drewN _ _ _) (congrArg (World.drewN _) (Nat.add_assoc _ _ _))⟩)) | (go_at_call 74; (with_reducible refine (tower_mul.calls k 6 a1_0 t138 t139 _ A18.out).mono ?_); rintro e w' ⟨rfl, ⟨nd, rfl⟩⟩; (try first | exact ⟨rfl, _, World.drewN_drewN _ _ _⟩ | exact ⟨rfl, _, Eq.trans (World.drewN_drewN _ _ _) (congrArg (World.drewN _) (Nat.add_assoc _ _ _))⟩)) | (go_at_call 74; (with_reducible refine (tower_mul.calls k 6 (Go.bits .xor .u64 a1_1 t135) t138 t140 _ A19.out).mono ?_); rintro e w' ⟨rfl, ⟨nd, rfl⟩⟩; (try first | exact ⟨rfl, _, World.drewN_drewN _ _ _⟩ | exact ⟨rfl, _, Eq.trans (World.drewN_drewN _ _ _) (congrArg (World.drewN _) (Nat.add_assoc _ _ _))⟩); obtain ⟨hcz26_0, hcz26_1⟩ := zc2 BK132; obtain ⟨hfz26_0, hfz26_1⟩ := zf2 BK132))
   repeat (go_quiet (first | ((with_reducible refine gate_dst (N := 3) rfl ?_); refine box_event ?hg (N := 3) ?hd (cs := #[.int .u64 a1_0, .int .u64 a1_1]) (t := 87) ?hr ?_; (case hd => rfl); (case hg => rfl); (case hr => first | (go_simp; done) | (go_simp; rfl)); intro gb131 hg w20 hbox hb; have BK131 := Aside0.mk hbox; have GW131 := ge hg HB; have GE131 := ge hg HB; replace HB := bh HB hb; clear hb hbox hg) | ((with_reducible refine gate_dst (N := 4) rfl ?_); refine box_event ?hg (N := 4) ?hd (cs := #[.int .u64 0, .int .u64 0]) (t := 87) ?hr ?_; (case hd => rfl); (case hg => rfl); (case hr => first | (go_simp; done) | (go_simp; rfl)); intro gb132 hg w21 hbox hb; have BK132 := Aside0.mk hbox; have GW132 := ge hg HB; have GE132 := ge hg HB; have NB131_132 := nl hg BK131; have NB132_131 := ng hg BK131; replace BK131 := bb BK131 hb; replace HB := bh HB hb; clear hb hbox hg; have hnb22 := NB131_132.out; have hnc22 := NB132_131.out; obtain ⟨hcz23_0, hcz23_1⟩ := zc2 BK131; obtain ⟨hfz23_0, hfz23_1⟩ := zf2 BK131) | (go_at_call 71; (with_reducible refine (octet_Of.calls k a0 a1_0 a1_1 true _ A3.out).mono ?_); rintro e w24 ⟨rfl, hb⟩; replace BK131 := bb BK131 hb; replace BK132 := bb BK132 hb; replace HB := bh HB hb; (try clear hb); (try clear hb2); (try clear hk); (try clear hi); obtain ⟨hcz25_0, hcz25_1⟩ := zc2 BK131; obtain ⟨hfz25_0, hfz25_1⟩ := zf2 BK131) | (go_at_call 73; (with_reducible refine (tower_mulX.calls k 6 a1_0 t135 _ A14.out).mono ?_); rintro e w' ⟨rfl, ⟨nd, rfl⟩⟩; (try first | exact ⟨rfl, _, World.drewN_drewN _ _ _⟩ | exact ⟨rfl, _, Eq.trans (World.drewN_drewN _ _ _) (congrArg (World.drewN _) (Nat.add_assoc _ _ _))⟩)) | (go_at_call 74; (with_reducible refine (tower_mul.calls k 6 a1_1 (Go.bits .xor .u64 a1_1 t135) t136 _ A15.out).mono ?_); rintro e w' ⟨rfl, ⟨nd, rfl⟩⟩; (try first | exact ⟨rfl, _, World.drewN_drewN _ _ _⟩ | exact ⟨rfl, _, Eq.trans (World.drewN_drewN _ _ _) (congrArg (World.drewN _) (Nat.add_assoc _ _ _))⟩)) | (go_at_call 75; (with_reducible refine (tower_square.calls k 6 a1_0 t137 _ A16.out).mono ?_); rintro e w' ⟨rfl, ⟨nd, rfl⟩⟩; (try first | exact ⟨rfl, _, World.drewN_drewN _ _ _⟩ | exact ⟨rfl, _, Eq.trans (World.drewN_drewN _ _ _) (congrArg (World.drewN _) (Nat.add_assoc _ _ _))⟩)) | (go_at_call 72; (with_reducible refine (tower_inv.calls k 6 (Go.bits .xor .u64 t136 t137) t138 _ A17.out).mono ?_); rintro e w' ⟨rfl, ⟨nd, rfl⟩⟩; (try first | exact ⟨rfl, _, World.drewN_drewN _ _ _⟩ | exact ⟨rfl, _, Eq.trans (World.drewN_drewN _ _ _) (congrArg (World.drewN _) (Nat.add_assoc _ _ _))⟩)) | (go_at_call 74; (with_reducible refine (tower_mul.calls k 6 a1_0 t138 t139 _ A18.out).mono ?_); rintro e w' ⟨rfl, ⟨nd, rfl⟩⟩; (try first | exact ⟨rfl, _, World.drewN_drewN _ _ _⟩ | exact ⟨rfl, _, Eq.trans (World.drewN_drewN _ _ _) (congrArg (World.drewN _) (Nat.add_assoc _ _ _))⟩)) | (go_at_call 74; (with_reducible refine (tower_mul.calls k 6 (Go.bits .xor .u64 a1_1 t135) t138 t140 _ A19.out).mono ?_); rintro e w' ⟨rfl, ⟨nd, rfl⟩⟩; (try first | exact ⟨rfl, _, World.drewN_drewN _ _ _⟩ | exact ⟨rfl, _, Eq.trans (World.drewN_drewN _ _ _) (congrArg (World.drewN _) (Nat.add_assoc _ _ _))⟩); obtain ⟨hcz26_0, hcz26_1⟩ := zc2 BK132; obtain ⟨hfz26_0, hfz26_1⟩ := zf2 BK132)); try go_wp2_with (first | ((with_reducible refine gate_dst (N := 3) rfl ?_); refine box_event ?hg (N := 3) ?hd (cs := #[.int .u64 a1_0, .int .u64 a1_1]) (t := 87) ?hr ?_; (case hd => rfl); (case hg => rfl); (case hr => first | (go_simp; done) | (go_simp; rfl)); intro gb131 hg w20 hbox hb; have BK131 := Aside0.mk hbox; have GW131 := ge hg HB; have GE131 := ge hg HB; replace HB := bh HB hb; clear hb hbox hg) | ((with_reducible refine gate_dst (N := 4) rfl ?_); refine box_event ?hg (N := 4) ?hd (cs := #[.int .u64 0, .int .u64 0]) (t := 87) ?hr ?_; (case hd => rfl); (case hg => rfl); (case hr => first | (go_simp; done) | (go_simp; rfl)); intro gb132 hg w21 hbox hb; have BK132 := Aside0.mk hbox; have GW132 := ge hg HB; have GE132 := ge hg HB; have NB131_132 := nl hg BK131; have NB132_131 := ng hg BK131; replace BK131 := bb BK131 hb; replace HB := bh HB hb; clear hb hbox hg; have hnb22 := NB131_132.out; have hnc22 := NB132_131.out; obtain ⟨hcz23_0, hcz23_1⟩ := zc2 BK131; obtain ⟨hfz23_0, hfz23_1⟩ := zf2 BK131) | (go_at_call 71; (with_reducible refine (octet_Of.calls k a0 a1_0 a1_1 true _ A3.out).mono ?_); rintro e w24 ⟨rfl, hb⟩; replace BK131 := bb BK131 hb; replace BK132 := bb BK132 hb; replace HB := bh HB hb; (try clear hb); (try clear hb2); (try clear hk); (try clear hi); obtain ⟨hcz25_0, hcz25_1⟩ := zc2 BK131; obtain ⟨hfz25_0, hfz25_1⟩ := zf2 BK131) | (go_at_call 73; (with_reducible refine (tower_mulX.calls k 6 a1_0 t135 _ A14.out).mono ?_); rintro e w' ⟨rfl, ⟨nd, rfl⟩⟩; (try first | exact ⟨rfl, _, World.drewN_drewN _ _ _⟩ | exact ⟨rfl, _, Eq.trans (World.drewN_drewN _ _ _) (congrArg (World.drewN _) (Nat.add_assoc _ _ _))⟩)) | (go_at_call 74; (with_reducible refine (tower_mul.calls k 6 a1_1 (Go.bits .xor .u64 a1_1 t135) t136 _ A15.out).mono ?_); rintro e w' ⟨rfl, ⟨nd, rfl⟩⟩; (try first | exact ⟨rfl, _, World.drewN_drewN _ _ _⟩ | exact ⟨rfl, _, Eq.trans (World.drewN_drewN _ _ _) (congrArg (World.drewN _) (Nat.add_assoc _ _ _))⟩)) | (go_at_call 75; (with_reducible refine (tower_square.calls k 6 a1_0 t137 _ A16.out).mono ?_); rintro e w' ⟨rfl, ⟨nd, rfl⟩⟩; (try first | exact ⟨rfl, _, World.drewN_drewN _ _ _⟩ | exact ⟨rfl, _, Eq.trans (World.drewN_drewN _ _ _) (congrArg (World.drewN _) (Nat.add_assoc _ _ _))⟩)) | (go_at_call 72; (with_reducible refine (tower_inv.calls k 6 (Go.bits .xor .u64 t136 t137) t138 _ A17.out).mono ?_); rintro e w' ⟨rfl, ⟨nd, rfl⟩⟩; (try first | exact ⟨rfl, _, World.drewN_drewN _ _ _⟩ | exact ⟨rfl, _, Eq.trans (World.drewN_drewN _ _ _) (congrArg (World.drewN _) (Nat.add_assoc _ _ _))⟩)) | (go_at_call 74; (with_reducible refine (tower_mul.calls k 6 a1_0 t138 t139 _ A18.out).mono ?_); rintro e w' ⟨rfl, ⟨nd, rfl⟩⟩; (try first | exact ⟨rfl, _, World.drewN_drewN _ _ _⟩ | exact ⟨rfl, _, Eq.trans (World.drewN_drewN _ _ _) (congrArg (World.drewN _) (Nat.add_assoc _ _ _))⟩)) | (go_at_call 74; (with_reducible refine (tower_mul.calls k 6 (Go.bits .xor .u64 a1_1 t135) t138 t140 _ A19.out).mono ?_); rintro e w' ⟨rfl, ⟨nd, rfl⟩⟩; (try first | exact ⟨rfl, _, World.drewN_drewN _ _ _⟩ | exact ⟨rfl, _, Eq.trans (World.drewN_drewN _ _ _) (congrArg (World.drewN _) (Nat.add_assoc _ _ _))⟩); obtain ⟨hcz26_0, hcz26_1⟩ := zc2 BK132; obtain ⟨hfz26_0, hfz26_1⟩ := zf2 BK132)))
   refine bodyPost_ret (results_cell_row rfl _ _ gb132 87 #[.int .u64 t139, .int .u64 t140] (0, 0) _ rfl (by (with_reducible repeat refine bl ?_); refine blk_put (cs := #[.int .u64 t139, .int .u64 0]) ?_ 1 _ rfl; (with_reducible repeat refine bl ?_); refine blk_put (cs := #[.int .u64 0, .int .u64 0]) ?_ 0 _ rfl; (with_reducible repeat refine bl ?_); exact BK132.out) Try.underlying87 rfl (by kernel_rfl)) rfl ?_
   exact ⟨by first | rfl | (simp [errW_none, errW_some] <;> rfl) | (simp [*, errW_none, errW_some] <;> rfl), bq HB.out⟩
 ·replace c4 := Bool.eq_false_iff.mpr c4
  subst c4
  have H1 : (some (0, 0)) = some (r1, r2) := by rw [if_neg (show ¬ (false = true) by decide)] at H; exact H
  clear H
  have H := H1
  clear H1
  simp only [Option.some.injEq, Prod.mk.injEq] at H
  obtain ⟨rfl, rfl⟩ := H
  go_enter Try.func50, Try.ntmps50
  go_wp2_with (first | ((with_reducible refine gate_dst (N := 3) rfl ?_); refine box_event ?hg (N := 3) ?hd (cs := #[.int .u64 a1_0, .int .u64 a1_1]) (t := 87) ?hr ?_; (case hd => rfl); (case hg => rfl); (case hr => first | (go_simp; done) | (go_simp; rfl)); intro gb131 hg w27 hbox hb; have BK131 := Aside0.mk hbox; have GW131 := ge hg HB; have GE131 := ge hg HB; replace HB := bh HB hb; clear hb hbox hg) | ((with_reducible refine gate_dst (N := 4) rfl ?_); refine box_event ?hg (N := 4) ?hd (cs := #[.int .u64 0, .int .u64 0]) (t := 87) ?hr ?_; (case hd => rfl); (case hg => rfl); (case hr => first | (go_simp; done) | (go_simp; rfl)); intro gb132 hg w28 hbox hb; have BK132 := Aside0.mk hbox; have GW132 := ge hg HB; have GE132 := ge hg HB; have NB131_132 := nl hg BK131; have NB132_131 := ng hg BK131; replace BK131 := bb BK131 hb; replace HB := bh HB hb; clear hb hbox hg; have hnb29 := NB131_132.out; have hnc29 := NB132_131.out; obtain ⟨hcz30_0, hcz30_1⟩ := zc2 BK131; obtain ⟨hfz30_0, hfz30_1⟩ := zf2 BK131) | (go_at_call 71; (with_reducible refine (octet_Of.calls k a0 a1_0 a1_1 false _ A3.out).mono ?_); rintro e w31 ⟨rfl, hb⟩; replace BK131 := bb BK131 hb; replace BK132 := bb BK132 hb; replace HB := bh HB hb; (try clear hb); (try clear hb2); (try clear hk); (try clear hi); obtain ⟨hcz32_0, hcz32_1⟩ := zc2 BK132; obtain ⟨hfz32_0, hfz32_1⟩ := zf2 BK132))
  repeat (go_quiet (first | ((with_reducible refine gate_dst (N := 3) rfl ?_); refine box_event ?hg (N := 3) ?hd (cs := #[.int .u64 a1_0, .int .u64 a1_1]) (t := 87) ?hr ?_; (case hd => rfl); (case hg => rfl); (case hr => first | (go_simp; done) | (go_simp; rfl)); intro gb131 hg w27 hbox hb; have BK131 := Aside0.mk hbox; have GW131 := ge hg HB; have GE131 := ge hg HB; replace HB := bh HB hb; clear hb hbox hg) | ((with_reducible refine gate_dst (N := 4) rfl ?_); refine box_event ?hg (N := 4) ?hd (cs := #[.int .u64 0, .int .u64 0]) (t := 87) ?hr ?_; (case hd => rfl); (case hg => rfl); (case hr => first | (go_simp; done) | (go_simp; rfl)); intro gb132 hg w28 hbox hb; have BK132 := Aside0.mk hbox; have GW132 := ge hg HB; have GE132 := ge hg HB; have NB131_132 := nl hg BK131; have NB132_131 := ng hg BK131; replace BK131 := bb BK131 hb; replace HB := bh HB hb; clear hb hbox hg; have hnb29 := NB131_132.out; have hnc29 := NB132_131.out; obtain ⟨hcz30_0, hcz30_1⟩ := zc2 BK131; obtain ⟨hfz30_0, hfz30_1⟩ := zf2 BK131) | (go_at_call 71; (with_reducible refine (octet_Of.calls k a0 a1_0 a1_1 false _ A3.out).mono ?_); rintro e w31 ⟨rfl, hb⟩; replace BK131 := bb BK131 hb; replace BK132 := bb BK132 hb; replace HB := bh HB hb; (try clear hb); (try clear hb2); (try clear hk); (try clear hi); obtain ⟨hcz32_0, hcz32_1⟩ := zc2 BK132; obtain ⟨hfz32_0, hfz32_1⟩ := zf2 BK132)); try go_wp2_with (first | ((with_reducible refine gate_dst (N := 3) rfl ?_); refine box_event ?hg (N := 3) ?hd (cs := #[.int .u64 a1_0, .int .u64 a1_1]) (t := 87) ?hr ?_; (case hd => rfl); (case hg => rfl); (case hr => first | (go_simp; done) | (go_simp; rfl)); intro gb131 hg w27 hbox hb; have BK131 := Aside0.mk hbox; have GW131 := ge hg HB; have GE131 := ge hg HB; replace HB := bh HB hb; clear hb hbox hg) | ((with_reducible refine gate_dst (N := 4) rfl ?_); refine box_event ?hg (N := 4) ?hd (cs := #[.int .u64 0, .int .u64 0]) (t := 87) ?hr ?_; (case hd => rfl); (case hg => rfl); (case hr => first | (go_simp; done) | (go_simp; rfl)); intro gb132 hg w28 hbox hb; have BK132 := Aside0.mk hbox; have GW132 := ge hg HB; have GE132 := ge hg HB; have NB131_132 := nl hg BK131; have NB132_131 := ng hg BK131; replace BK131 := bb BK131 hb; replace HB := bh HB hb; clear hb hbox hg; have hnb29 := NB131_132.out; have hnc29 := NB132_131.out; obtain ⟨hcz30_0, hcz30_1⟩ := zc2 BK131; obtain ⟨hfz30_0, hfz30_1⟩ := zf2 BK131) | (go_at_call 71; (with_reducible refine (octet_Of.calls k a0 a1_0 a1_1 false _ A3.out).mono ?_); rintro e w31 ⟨rfl, hb⟩; replace BK131 := bb BK131 hb; replace BK132 := bb BK132 hb; replace HB := bh HB hb; (try clear hb); (try clear hb2); (try clear hk); (try clear hi); obtain ⟨hcz32_0, hcz32_1⟩ := zc2 BK132; obtain ⟨hfz32_0, hfz32_1⟩ := zf2 BK132)))
  refine bodyPost_ret (results_cell_row rfl _ _ gb132 87 #[.int .u64 0, .int .u64 0] (0, 0) _ rfl (by (with_reducible repeat refine bl ?_); refine blk_put (cs := #[.int .u64 0, .int .u64 0]) ?_ 1 _ rfl; (with_reducible repeat refine bl ?_); refine blk_put (cs := #[.int .u64 0, .int .u64 0]) ?_ 0 _ rfl; (with_reducible repeat refine bl ?_); exact BK132.out) Try.underlying87 rfl (by kernel_rfl)) rfl ?_
  exact ⟨by first | rfl | (simp [errW_none, errW_some] <;> rfl) | (simp [*, errW_none, errW_some] <;> rfl), bq HB.out⟩

/-! ### bits_RotateLeft8: function 51 -/
def bits_RotateLeft8.f (a0 : Int) (a1 : Int) : Option (Int) := if 0 ≤ (Go.bits .and .u64 (IntKind.u64.wrap (a1)) 7) then (if 0 ≤ (IntKind.u64.wrap (8 - (Go.bits .and .u64 (IntKind.u64.wrap (a1)) 7))) then (some (Go.bits .or .u8 (shl .u8 a0 (Go.bits .and .u64 (IntKind.u64.wrap (a1)) 7)) (shr .u8 a0 (IntKind.u64.wrap (8 - (Go.bits .and .u64 (IntKind.u64.wrap (a1)) 7)))))) else (none)) else (none)
set_option maxHeartbeats 8000000 in
set_option maxRecDepth 100000 in
theorem bits_RotateLeft8.calls (a0 : Int) (a1 : Int) (r : Int) (w : World) (h : bits_RotateLeft8.f a0 a1 = some r) :
  Calls Try.prog 51 #[.int .u8 a0, .int .i64 a1] w fun e w' => e = .returned (.int .u8 r) ∧ Drawn0 w w' := by
 have H : (if 0 ≤ (Go.bits .and .u64 (IntKind.u64.wrap (a1)) 7) then (if 0 ≤ (IntKind.u64.wrap (8 - (Go.bits .and .u64 (IntKind.u64.wrap (a1)) 7))) then (some (Go.bits .or .u8 (shl .u8 a0 (Go.bits .and .u64 (IntKind.u64.wrap (a1)) 7)) (shr .u8 a0 (IntKind.u64.wrap (8 - (Go.bits .and .u64 (IntKind.u64.wrap (a1)) 7)))))) else (none)) else (none)) = some r := h
 clear h
 obtain ⟨ji3, hji3⟩ : ∃ j_ : Int, (Go.bits .and .u64 (IntKind.u64.wrap (a1)) 7) = j_ := ⟨_, rfl⟩
 replace H : (if 0 ≤ (ji3) then (if 0 ≤ (IntKind.u64.wrap (8 - (ji3))) then (some (Go.bits .or .u8 (shl .u8 a0 (ji3)) (shr .u8 a0 (IntKind.u64.wrap (8 - (ji3)))))) else (none)) else (none)) = some r := by first | (rw [hji3] at H; exact H) | (simp only [hji3] at H ⊢; exact H)
 by_cases c4 : 0 ≤ (ji3)
 ·rw [if_pos c4] at H
  have c4b0 := eq_true c4
  have c4b1 : decide (0 ≤ (ji3)) = true := decide_eq_true c4
  clear c4
  obtain ⟨ji5, hji5⟩ : ∃ j_ : Int, (shl .u8 a0 (ji3)) = j_ := ⟨_, rfl⟩
  replace H : (if 0 ≤ (IntKind.u64.wrap (8 - (ji3))) then (some (Go.bits .or .u8 (ji5) (shr .u8 a0 (IntKind.u64.wrap (8 - (ji3)))))) else (none)) = some r := by first | (rw [hji5] at H; exact H) | (simp only [hji5] at H ⊢; exact H)
  have hji5_ : (IntKind.u8.wrap (a0 * 2 ^ min (ji3).toNat 8)) = ji5 := hji5
  have hji5z : (ji3) ≤ 8 → (IntKind.u8.wrap (a0 * 2 ^ (ji3).toNat)) = ji5 := shl_small hji5
  have hji5p0 := eq_true (show (0 : Int) ≤ ji5 by rw [← hji5_]; exact wrap_u8_nonneg _)
  have hji5p1 : decide (0 ≤ (ji5 : Int)) = true := decide_eq_true (of_eq_true hji5p0)
  obtain ⟨ji6, hji6⟩ : ∃ j_ : Int, (IntKind.u64.wrap (8 - (ji3))) = j_ := ⟨_, rfl⟩
  replace H : (if 0 ≤ (ji6) then (some (Go.bits .or .u8 (ji5) (shr .u8 a0 (ji6)))) else (none)) = some r := by first | (rw [hji6] at H; exact H) | (simp only [hji6] at H ⊢; exact H)
  by_cases c7 : 0 ≤ (ji6)
  ·rw [if_pos c7] at H
   have c7b0 := eq_true c7
   have c7b1 : decide (0 ≤ (ji6)) = true := decide_eq_true c7
   clear c7
   obtain ⟨ji8, hji8⟩ : ∃ j_ : Int, (shr .u8 a0 (ji6)) = j_ := ⟨_, rfl⟩
   replace H : (some (Go.bits .or .u8 (ji5) (ji8))) = some r := by first | (rw [hji8] at H; exact H) | (simp only [hji8] at H ⊢; exact H)
   have hji8_ : (a0 / 2 ^ min (ji6).toNat 8) = ji8 := hji8
   have hji8z : (ji6) ≤ 8 → (a0 / 2 ^ (ji6).toNat) = ji8 := shr_small hji8
   obtain rfl := Option.some.inj H
   go_enter Try.func51, Try.ntmps51
   go_wp2
   go_ret
   exact ⟨by first | rfl | (simp; done) | (simp only [← hji3, ← hji5, ← hji6, ← hji8] <;> (first | rfl | simp)) | (simp [*]; done), by repeat (first | exact Drawn0.refl _ | apply Drawn0.step)⟩
  ·rw [if_neg c7] at H
   exact absurd H (by simp)
 ·rw [if_neg c4] at H
  exact absurd H (by simp)

/-! ### perm_box: function 30 -/
def perm_box.l0 : Nat → Int → Int → Int → Option (Int)
 | 0, _, _, _ => none
 | k + 1, x3, x4, x13 => if x13 < 4 then ((bits_RotateLeft8.f x3 (wrap64 (x13 + 1))).bind fun t143 => (perm_box.l0 k x3 (Go.bits .xor .u8 x4 t143) (wrap64 (x13 + 1)))) else (some (Go.bits .xor .u8 x4 99))
def perm_box.f (k : Nat) (a0 : Int) : Option (Int) := (tower_Inv.f k 3 0 (IntKind.u64.wrap (a0))).bind fun bt141 => (perm_box.l0 k ((bt141.2) % 256) ((bt141.2) % 256) 0)
set_option maxHeartbeats 8000000 in
set_option maxRecDepth 100000 in
theorem perm_box.calls (k : Nat) (a0 : Int) (r : Int) (w : World) (h : perm_box.f k a0 = some r) :
  Calls Try.prog 30 #[.int .u8 a0] w fun e w' => e = .returned (.int .u8 r) ∧ Below w.heap.size w w' := by
 have hu87 := Try.underlying87
 have HB := Aside0.mk (Below.refl w.heap.size w)
 have H : ((tower_Inv.f k 3 0 (IntKind.u64.wrap (a0))).bind fun bt141 => (perm_box.l0 k ((bt141.2) % 256) ((bt141.2) % 256) 0)) = some r := h
 clear h
 replace H := Option.bind_eq_some_iff.mp H
 obtain ⟨⟨t141, t142⟩, A20, H⟩ := H
 replace H : (perm_box.l0 k ((t142) % 256) ((t142) % 256) 0) = some r := H
 have A2 := Aside0.mk A20
 clear A20
 have H' := Aside0.mk H
 clear H
 go_enter Try.func30, Try.ntmps30
 go_wp2_with (first | ((with_reducible refine gate_callee (f := 50) rfl ?_); refine goesL_ (some 9) rfl rfl Try.func50 (by kernel_rfl) rfl #[.int .i64 3, .agg #[.int .u64 0, .int .u64 (IntKind.u64.wrap (a0))]] rfl (by (try simp only [List.map_toArray, List.map_cons, List.map_nil]); first | done | rfl | (simp only [List.length_drop, List.length_take]; rfl)) ?_; (with_reducible refine (tower_Inv.calls k 3 0 (IntKind.u64.wrap (a0)) t141 t142 _ A2.out).mono ?_); rintro e w3 ⟨rfl, hb⟩; refine ⟨_, rfl, ?_⟩; replace HB := bh HB hb; (try clear hb); (try clear hb2); (try clear hk); (try clear hi)))
 go_loopg [4, 13] k (fun kq v4 v13 w' => ∃ (x4_1 : Int) (x13_1 : Int), v4 = .int .u8 x4_1 ∧ v13 = .int .i64 x13_1 ∧ Aside0 (perm_box.l0 kq ((t142) % 256) x4_1 x13_1 = some r) ∧ Aside0 (kq ≤ k) ∧ Aside0 (Below w.heap.size w w'))
 case atStart => exact ⟨((t142) % 256), (0), (by first | rfl | (simp; done) | (simp [*]; done)), (by first | rfl | (simp; done) | (simp [*]; done)), H', ⟨Nat.le_refl _⟩, ⟨bq HB.out⟩⟩
 case round =>
  clear H'
  try clear p2
  try clear c3
  obtain ⟨x4_1, x13_1, rfl, rfl, HA, HK1, HB⟩ := hrel
  cases gk with
  | zero => exact absurd HA.out (by simp [perm_box.l0])
  | succ k1 =>
   have H := HA.out
   clear HA
   simp only [perm_box.l0] at H
   by_cases c4 : x13_1 < 4
   ·rw [if_pos c4] at H
    have c4b0 : decide (x13_1 < 4) = true := decide_eq_true c4
    clear c4
    replace H := Option.bind_eq_some_iff.mp H
    obtain ⟨t143, A50, H⟩ := H
    replace H : (perm_box.l0 k1 ((t142) % 256) (Go.bits .xor .u8 x4_1 t143) (wrap64 (x13_1 + 1))) = some r := H
    have A5 := Aside0.mk A50
    clear A50
    have H' := Aside0.mk H
    clear H
    go_wp2_with (first | ((with_reducible refine gate_callee (f := 51) rfl ?_); refine goesL_ (some 20) rfl rfl Try.func51 (by kernel_rfl) rfl #[.int .u8 ((t142) % 256), .int .i64 (wrap64 (x13_1 + 1))] rfl (by (try simp only [List.map_toArray, List.map_cons, List.map_nil]); first | done | rfl | (simp only [List.length_drop, List.length_take]; rfl)) ?_; (with_reducible refine (bits_RotateLeft8.calls ((t142) % 256) (wrap64 (x13_1 + 1)) t143 _ A5.out).mono ?_); rintro e w' ⟨rfl, ⟨nd, rfl⟩⟩; refine ⟨_, rfl, ?_⟩))
    go_roundg k1
    case measure => have := HK1.out; omega
    case rel => exact ⟨(Go.bits .xor .u8 x4_1 t143), (wrap64 (x13_1 + 1)), (by first | rfl | (simp; done) | (simp [*]; done)), (by first | rfl | (simp; done) | (simp [*]; done)), H', ⟨by have := HK1.out; omega⟩, ⟨bq HB.out⟩⟩
   ·rw [if_neg c4] at H
    have c4b0 : decide (x13_1 < 4) = false := decide_eq_false c4
    clear c4
    obtain rfl := Option.some.inj H
    go_wp2
    go_ret
    exact ⟨by first | rfl | (simp [errW_none, errW_some] <;> rfl) | (simp [*, errW_none, errW_some] <;> rfl), bq HB.out⟩

/-! ### perm_mixing: function 31 -/
def perm_mixing.f  : Option (Int × Int × Int × Int × Int × Int × Int × Int) := some (2, 2, 3, 4, 5, 3, 5, 7)
set_option maxHeartbeats 8000000 in
set_option maxRecDepth 100000 in
theorem perm_mixing.calls  (r1 : Int) (r2 : Int) (r3 : Int) (r4 : Int) (r5 : Int) (r6 : Int) (r7 : Int) (r8 : Int) (w : World) (h : perm_mixing.f  = some (r1, r2, r3, r4, r5, r6, r7, r8)) :
  Calls Try.prog 31 #[] w fun e w' => e = .returned (.agg #[.int .u8 r1, .int .u8 r2, .int .u8 r3, .int .u8 r4, .int .u8 r5, .int .u8 r6, .int .u8 r7, .int .u8 r8]) ∧ Below w.heap.size w w' := by
 have hu69 := Try.underlying69
 have HB := Aside0.mk (Below.refl w.heap.size w)
 have H : (some (2, 2, 3, 4, 5, 3, 5, 7)) = some (r1, r2, r3, r4, r5, r6, r7, r8) := h
 clear h
 simp only [Option.some.injEq, Prod.mk.injEq] at H
 obtain ⟨rfl, rfl, rfl, rfl, rfl, rfl, rfl, rfl⟩ := H
 go_enter Try.func31, Try.ntmps31
 go_wp2_with (first | ((with_reducible refine gate_dst (N := 0) rfl ?_); refine box_event ?hg (N := 0) ?hd (cs := #[.int .u8 0, .int .u8 0, .int .u8 0, .int .u8 0, .int .u8 0, .int .u8 0, .int .u8 0, .int .u8 0]) (t := 69) ?hr ?_; (case hd => rfl); (case hg => rfl); (case hr => first | (go_simp; done) | (go_simp; rfl)); intro gb144 hg w1 hbox hb; have BK144 := Aside0.mk hbox; have GW144 := ge hg HB; have GE144 := ge hg HB; replace HB := bh HB hb; clear hb hbox hg; have hcz2_0 : w1.cell? ⟨gb144, 0, none⟩ = some (.int .u8 0) := (blk_cell BK144.out 0).trans rfl; have hcz2_1 : w1.cell? ⟨gb144, 1, none⟩ = some (.int .u8 0) := (blk_cell BK144.out 1).trans rfl; have hcz2_2 : w1.cell? ⟨gb144, 2, none⟩ = some (.int .u8 0) := (blk_cell BK144.out 2).trans rfl; have hcz2_3 : w1.cell? ⟨gb144, 3, none⟩ = some (.int .u8 0) := (blk_cell BK144.out 3).trans rfl; have hcz2_4 : w1.cell? ⟨gb144, 4, none⟩ = some (.int .u8 0) := (blk_cell BK144.out 4).trans rfl; have hcz2_5 : w1.cell? ⟨gb144, 5, none⟩ = some (.int .u8 0) := (blk_cell BK144.out 5).trans rfl; have hcz2_6 : w1.cell? ⟨gb144, 6, none⟩ = some (.int .u8 0) := (blk_cell BK144.out 6).trans rfl; have hcz2_7 : w1.cell? ⟨gb144, 7, none⟩ = some (.int .u8 0) := (blk_cell BK144.out 7).trans rfl; have hfz2_0 := blk_frozen BK144.out 0; have hfz2_1 := blk_frozen BK144.out 1; have hfz2_2 := blk_frozen BK144.out 2; have hfz2_3 := blk_frozen BK144.out 3; have hfz2_4 := blk_frozen BK144.out 4; have hfz2_5 := blk_frozen BK144.out 5; have hfz2_6 := blk_frozen BK144.out 6; have hfz2_7 := blk_frozen BK144.out 7))
 refine bodyPost_ret (results_cell_row rfl _ _ gb144 69 #[.int .u8 2, .int .u8 2, .int .u8 3, .int .u8 4, .int .u8 5, .int .u8 3, .int .u8 5, .int .u8 7] (0, 0) _ rfl (by (with_reducible repeat refine bl ?_); refine blk_put (cs := #[.int .u8 2, .int .u8 2, .int .u8 3, .int .u8 4, .int .u8 5, .int .u8 3, .int .u8 5, .int .u8 0]) ?_ 7 _ rfl; (with_reducible repeat refine bl ?_); refine blk_put (cs := #[.int .u8 2, .int .u8 2, .int .u8 3, .int .u8 4, .int .u8 5, .int .u8 3, .int .u8 0, .int .u8 0]) ?_ 6 _ rfl; (with_reducible repeat refine bl ?_); refine blk_put (cs := #[.int .u8 2, .int .u8 2, .int .u8 3, .int .u8 4, .int .u8 5, .int .u8 0, .int .u8 0, .int .u8 0]) ?_ 5 _ rfl; (with_reducible repeat refine bl ?_); refine blk_put (cs := #[.int .u8 2, .int .u8 2, .int .u8 3, .int .u8 4, .int .u8 0, .int .u8 0, .int .u8 0, .int .u8 0]) ?_ 4 _ rfl; (with_reducible repeat refine bl ?_); refine blk_put (cs := #[.int .u8 2, .int .u8 2, .int .u8 3, .int .u8 0, .int .u8 0, .int .u8 0, .int .u8 0, .int .u8 0]) ?_ 3 _ rfl; (with_reducible repeat refine bl ?_); refine blk_put (cs := #[.int .u8 2, .int .u8 2, .int .u8 0, .int .u8 0, .int .u8 0, .int .u8 0, .int .u8 0, .int .u8 0]) ?_ 2 _ rfl; (with_reducible repeat refine bl ?_); refine blk_put (cs := #[.int .u8 2, .int .u8 0, .int .u8 0, .int .u8 0, .int .u8 0, .int .u8 0, .int .u8 0, .int .u8 0]) ?_ 1 _ rfl; (with_reducible repeat refine bl ?_); refine blk_put (cs := #[.int .u8 0, .int .u8 0, .int .u8 0, .int .u8 0, .int .u8 0, .int .u8 0, .int .u8 0, .int .u8 0]) ?_ 0 _ rfl; (with_reducible repeat refine bl ?_); exact BK144.out) Try.underlying69 rfl (by kernel_rfl)) rfl ?_
 exact ⟨by first | rfl | (simp [errW_none, errW_some] <;> rfl) | (simp [*, errW_none, errW_some] <;> rfl), bq HB.out⟩

/-! ### tower_Mul: function 52 -/
def tower_Mul.j0 : Nat → Int → Bool → Int → Int → Int → Int → Option (Int × Int)
 | 0, _, _, _, _, _, _ => none
 | k + 1, x0, x10, x146000, x146001, x147000, x147001 => if x10 = true then (some (0, 0)) else (if x0 ≤ 6 then ((tower_mul.f k x0 x146001 x147001).bind fun t150 => (some (0, t150))) else ((tower_mul.f k 6 x146000 x147000).bind fun t151 => ((tower_mul.f k 6 x146001 x147001).bind fun t152 => ((tower_mul.f k 6 (Go.bits .xor .u64 x146000 x146001) (Go.bits .xor .u64 x147000 x147001)).bind fun t153 => ((tower_mulX.f k 6 t151).bind fun t154 => (some (Go.bits .xor .u64 (Go.bits .xor .u64 (Go.bits .xor .u64 t153 t151) t152) t154, Go.bits .xor .u64 t152 t151)))))))
def tower_Mul.f (k : Nat) (a0 : Int) (a1_0 : Int) (a1_1 : Int) (a2_0 : Int) (a2_1 : Int) : Option (Int × Int) := (octet_Of.f k a0 a1_0 a1_1).bind fun t148 => (if t148 = true then ((octet_Of.f k a0 a2_0 a2_1).bind fun t149 => (tower_Mul.j0 k a0 (!t149) a1_0 a1_1 a2_0 a2_1)) else (tower_Mul.j0 k a0 true a1_0 a1_1 a2_0 a2_1))
theorem tower_Mul.mono_l : ∀ k, (∀ y0 y1 y2 y3 y4 y5, LeO (tower_Mul.j0 k y0 y1 y2 y3 y4 y5) (tower_Mul.j0 (k + 1) y0 y1 y2 y3 y4 y5))
 | 0 => fun _ _ _ _ _ _ r h => by simp [tower_Mul.j0] at h
 | k + 1 => by
  have ih0 := tower_Mul.mono_l k
  ·intro y0 y1 y2 y3 y4 y5
   unfold tower_Mul.j0
   repeat' first
   | (with_reducible exact ih0 _ _ _ _ _ _)
   | (with_reducible exact octet_Of.mono _ _ _ _)
   | (with_reducible exact tower_mul.mono _ _ _ _)
   | (with_reducible exact tower_mulX.mono _ _ _)
   | (with_reducible exact LeO.refl _)
   | (with_reducible exact LeO.none _)
   | (with_reducible refine LeO.ite ?_ ?_)
   | (with_reducible refine LeO.bind ?_ (fun _ => ?_))
   | exact ih0 _ _ _ _ _ _
   | exact octet_Of.mono _ _ _ _
   | exact tower_mul.mono _ _ _ _
   | exact tower_mulX.mono _ _ _
   | exact LeO.none _
   | refine LeO.ite ?_ ?_
   | refine LeO.bind ?_ (fun _ => ?_)
theorem tower_Mul.mono : ∀ a0 a1 a2 a3 a4 k, LeO (tower_Mul.f k a0 a1 a2 a3 a4) (tower_Mul.f (k + 1) a0 a1 a2 a3 a4) := by
 intro a0 a1 a2 a3 a4 k
 have ih0 := tower_Mul.mono_l k
 unfold tower_Mul.f
 repeat' first
   | (with_reducible exact ih0 _ _ _ _ _ _)
   | (with_reducible exact octet_Of.mono _ _ _ _)
   | (with_reducible exact tower_mul.mono _ _ _ _)
   | (with_reducible exact tower_mulX.mono _ _ _)
   | (with_reducible exact LeO.refl _)
   | (with_reducible exact LeO.none _)
   | (with_reducible refine LeO.ite ?_ ?_)
   | (with_reducible refine LeO.bind ?_ (fun _ => ?_))
   | exact ih0 _ _ _ _ _ _
   | exact octet_Of.mono _ _ _ _
   | exact tower_mul.mono _ _ _ _
   | exact tower_mulX.mono _ _ _
   | exact LeO.none _
   | refine LeO.ite ?_ ?_
   | refine LeO.bind ?_ (fun _ => ?_)
set_option maxHeartbeats 8000000 in
set_option maxRecDepth 100000 in
theorem tower_Mul.calls (k : Nat) (a0 : Int) (a1_0 : Int) (a1_1 : Int) (a2_0 : Int) (a2_1 : Int) (r1 : Int) (r2 : Int) (w : World) (h : tower_Mul.f k a0 a1_0 a1_1 a2_0 a2_1 = some (r1, r2)) :
  Calls Try.prog 52 #[.int .i64 a0, .agg #[.int .u64 a1_0, .int .u64 a1_1], .agg #[.int .u64 a2_0, .int .u64 a2_1]] w fun e w' => e = .returned (.agg #[.int .u64 r1, .int .u64 r2]) ∧ Below w.heap.size w w' := by
 have hu87 := Try.underlying87
 have HB := Aside0.mk (Below.refl w.heap.size w)
 have H : ((octet_Of.f k a0 a1_0 a1_1).bind fun t148 => (if t148 = true then ((octet_Of.f k a0 a2_0 a2_1).bind fun t149 => (tower_Mul.j0 k a0 (!t149) a1_0 a1_1 a2_0 a2_1)) else (tower_Mul.j0 k a0 true a1_0 a1_1 a2_0 a2_1))) = some (r1, r2) := h
 clear h
 have HC4 := Aside0.mk H
 clear H
 go_enter Try.func52, Try.ntmps52
 go_upto_region 1 with (first | ((with_reducible refine gate_dst (N := 4) rfl ?_); refine box_event ?hg (N := 4) ?hd (cs := #[.int .u64 a1_0, .int .u64 a1_1]) (t := 87) ?hr ?_; (case hd => rfl); (case hg => rfl); (case hr => first | (go_simp; done) | (go_simp; rfl)); intro gb145 hg w5 hbox hb; have BK145 := Aside0.mk hbox; have GW145 := ge hg HB; have GE145 := ge hg HB; replace HB := bh HB hb; clear hb hbox hg) | ((with_reducible refine gate_dst (N := 5) rfl ?_); refine box_event ?hg (N := 5) ?hd (cs := #[.int .u64 a2_0, .int .u64 a2_1]) (t := 87) ?hr ?_; (case hd => rfl); (case hg => rfl); (case hr => first | (go_simp; done) | (go_simp; rfl)); intro gb146 hg w6 hbox hb; have BK146 := Aside0.mk hbox; have GW146 := ge hg HB; have GE146 := ge hg HB; have NB145_146 := nl hg BK145; have NB146_145 := ng hg BK145; replace BK145 := bb BK145 hb; replace HB := bh HB hb; clear hb hbox hg) | ((with_reducible refine gate_dst (N := 6) rfl ?_); refine box_event ?hg (N := 6) ?hd (cs := #[.int .u64 0, .int .u64 0]) (t := 87) ?hr ?_; (case hd => rfl); (case hg => rfl); (case hr => first | (go_simp; done) | (go_simp; rfl)); intro gb147 hg w7 hbox hb; have BK147 := Aside0.mk hbox; have GW147 := ge hg HB; have GE147 := ge hg HB; have NB145_147 := nl hg BK145; have NB147_145 := ng hg BK145; have NB146_147 := nl hg BK146; have NB147_146 := ng hg BK146; replace BK145 := bb BK145 hb; replace BK146 := bb BK146 hb; replace HB := bh HB hb; clear hb hbox hg))
 repeat (go_quiet (first | ((with_reducible refine gate_dst (N := 4) rfl ?_); refine box_event ?hg (N := 4) ?hd (cs := #[.int .u64 a1_0, .int .u64 a1_1]) (t := 87) ?hr ?_; (case hd => rfl); (case hg => rfl); (case hr => first | (go_simp; done) | (go_simp; rfl)); intro gb145 hg w5 hbox hb; have BK145 := Aside0.mk hbox; have GW145 := ge hg HB; have GE145 := ge hg HB; replace HB := bh HB hb; clear hb hbox hg) | ((with_reducible refine gate_dst (N := 5) rfl ?_); refine box_event ?hg (N := 5) ?hd (cs := #[.int .u64 a2_0, .int .u64 a2_1]) (t := 87) ?hr ?_; (case hd => rfl); (case hg => rfl); (case hr => first | (go_simp; done) | (go_simp; rfl)); intro gb146 hg w6 hbox hb; have BK146 := Aside0.mk hbox; have GW146 := ge hg HB; have GE146 := ge hg HB; have NB145_146 := nl hg BK145; have NB146_145 := ng hg BK145; replace BK145 := bb BK145 hb; replace HB := bh HB hb; clear hb hbox hg) | ((with_reducible refine gate_dst (N := 6) rfl ?_); refine box_event ?hg (N := 6) ?hd (cs := #[.int .u64 0, .int .u64 0]) (t := 87) ?hr ?_; (case hd => rfl); (case hg => rfl); (case hr => first | (go_simp; done) | (go_simp; rfl)); intro gb147 hg w7 hbox hb; have BK147 := Aside0.mk hbox; have GW147 := ge hg HB; have GE147 := ge hg HB; have NB145_147 := nl hg BK145; have NB147_145 := ng hg BK145; have NB146_147 := nl hg BK146; have NB147_146 := ng hg BK146; replace BK145 := bb BK145 hb; replace BK146 := bb BK146 hb; replace HB := bh HB hb; clear hb hbox hg)); go_upto_region 1 with (first | ((with_reducible refine gate_dst (N := 4) rfl ?_); refine box_event ?hg (N := 4) ?hd (cs := #[.int .u64 a1_0, .int .u64 a1_1]) (t := 87) ?hr ?_; (case hd => rfl); (case hg => rfl); (case hr => first | (go_simp; done) | (go_simp; rfl)); intro gb145 hg w5 hbox hb; have BK145 := Aside0.mk hbox; have GW145 := ge hg HB; have GE145 := ge hg HB; replace HB := bh HB hb; clear hb hbox hg) | ((with_reducible refine gate_dst (N := 5) rfl ?_); refine box_event ?hg (N := 5) ?hd (cs := #[.int .u64 a2_0, .int .u64 a2_1]) (t := 87) ?hr ?_; (case hd => rfl); (case hg => rfl); (case hr => first | (go_simp; done) | (go_simp; rfl)); intro gb146 hg w6 hbox hb; have BK146 := Aside0.mk hbox; have GW146 := ge hg HB; have GE146 := ge hg HB; have NB145_146 := nl hg BK145; have NB146_145 := ng hg BK145; replace BK145 := bb BK145 hb; replace HB := bh HB hb; clear hb hbox hg) | ((with_reducible refine gate_dst (N := 6) rfl ?_); refine box_event ?hg (N := 6) ?hd (cs := #[.int .u64 0, .int .u64 0]) (t := 87) ?hr ?_; (case hd => rfl); (case hg => rfl); (case hr => first | (go_simp; done) | (go_simp; rfl)); intro gb147 hg w7 hbox hb; have BK147 := Aside0.mk hbox; have GW147 := ge hg HB; have GE147 := ge hg HB; have NB145_147 := nl hg BK145; have NB147_145 := ng hg BK145; have NB146_147 := nl hg BK146; have NB147_146 := ng hg BK146; replace BK145 := bb BK145 hb; replace BK146 := bb BK146 hb; replace HB := bh HB hb; clear hb hbox hg)))
 (try simp only [Act.put, List.setIfInBounds_toArray, List.set_cons_zero, List.set_cons_succ])
 go_cut [10] (fun v10 wc => ∃ (kq : Nat) (x10_3 : Bool), v10 = .bool x10_3 ∧ Aside0 (tower_Mul.j0 kq a0 x10_3 a1_0 a1_1 a2_0 a2_1 = some (r1, r2)) ∧ Aside0 (kq ≤ k) ∧ Aside0 (wc.heap[gb145]? = some (.cells #[.int .u64 a1_0, .int .u64 a1_1] 87 (0, 0))) ∧ Aside0 (wc.heap[gb146]? = some (.cells #[.int .u64 a2_0, .int .u64 a2_1] 87 (0, 0))) ∧ Aside0 (wc.heap[gb147]? = some (.cells #[.int .u64 0, .int .u64 0] 87 (0, 0))) ∧ Aside0 (Below w.heap.size w wc))
 case first =>
  have H := HC4.out
  clear HC4
  replace H := Option.bind_eq_some_iff.mp H
  obtain ⟨t148, A80, H⟩ := H
  replace H : (if t148 = true then ((octet_Of.f k a0 a2_0 a2_1).bind fun t149 => (tower_Mul.j0 k a0 (!t149) a1_0 a1_1 a2_0 a2_1)) else (tower_Mul.j0 k a0 true a1_0 a1_1 a2_0 a2_1)) = some (r1, r2) := H
  have A8 := Aside0.mk A80
  clear A80
  by_cases c9 : t148 = true
  ·subst c9
   have H1 : ((octet_Of.f k a0 a2_0 a2_1).bind fun t149 => (tower_Mul.j0 k a0 (!t149) a1_0 a1_1 a2_0 a2_1)) = some (r1, r2) := by rw [if_pos rfl] at H; exact H
   clear H
   have H := H1
   clear H1
   replace H := Option.bind_eq_some_iff.mp H
   obtain ⟨t149, A100, H⟩ := H
   replace H : (tower_Mul.j0 k a0 (!t149) a1_0 a1_1 a2_0 a2_1) = some (r1, r2) := H
   have A10 := Aside0.mk A100
   clear A100
   have H' := Aside0.mk H
   clear H
   have hnb11 := NB145_146.out
   have hnc11 := NB146_145.out
   have hnb12 := NB145_147.out
   have hnc12 := NB147_145.out
   obtain ⟨hcz13_0, hcz13_1⟩ := zc2 BK145
   obtain ⟨hfz13_0, hfz13_1⟩ := zf2 BK145
   go_wp2_with (first | (go_at_call 71; (with_reducible refine (octet_Of.calls k a0 a1_0 a1_1 true _ A8.out).mono ?_); rintro e w14 ⟨rfl, hb⟩; replace BK145 := bb BK145 hb; replace BK146 := bb BK146 hb; replace BK147 := bb BK147 hb; replace HB := bh HB hb; (try clear hb); (try clear hb2); (try clear hk); (try clear hi); have hnb15 := NB146_147.out; have hnc15 := NB147_146.out; obtain ⟨hcz16_0, hcz16_1⟩ := zc2 BK146; obtain ⟨hfz16_0, hfz16_1⟩ := zf2 BK146) | (go_at_call 71; (with_reducible refine (octet_Of.calls k a0 a2_0 a2_1 t149 _ A10.out).mono ?_); rintro e w17 ⟨rfl, hb⟩; replace BK145 := bb BK145 hb; replace BK146 := bb BK146 hb; replace BK147 := bb BK147 hb; replace HB := bh HB hb; (try clear hb); (try clear hb2); (try clear hk); (try clear hi)))
   repeat (go_quiet (first | (go_at_call 71; (with_reducible refine (octet_Of.calls k a0 a1_0 a1_1 true _ A8.out).mono ?_); rintro e w14 ⟨rfl, hb⟩; replace BK145 := bb BK145 hb; replace BK146 := bb BK146 hb; replace BK147 := bb BK147 hb; replace HB := bh HB hb; (try clear hb); (try clear hb2); (try clear hk); (try clear hi); have hnb15 := NB146_147.out; have hnc15 := NB147_146.out; obtain ⟨hcz16_0, hcz16_1⟩ := zc2 BK146; obtain ⟨hfz16_0, hfz16_1⟩ := zf2 BK146) | (go_at_call 71; (with_reducible refine (octet_Of.calls k a0 a2_0 a2_1 t149 _ A10.out).mono ?_); rintro e w17 ⟨rfl, hb⟩; replace BK145 := bb BK145 hb; replace BK146 := bb BK146 hb; replace BK147 := bb BK147 hb; replace HB := bh HB hb; (try clear hb); (try clear hb2); (try clear hk); (try clear hi))); try go_wp2_with (first | (go_at_call 71; (with_reducible refine (octet_Of.calls k a0 a1_0 a1_1 true _ A8.out).mono ?_); rintro e w14 ⟨rfl, hb⟩; replace BK145 := bb BK145 hb; replace BK146 := bb BK146 hb; replace BK147 := bb BK147 hb; replace HB := bh HB hb; (try clear hb); (try clear hb2); (try clear hk); (try clear hi); have hnb15 := NB146_147.out; have hnc15 := NB147_146.out; obtain ⟨hcz16_0, hcz16_1⟩ := zc2 BK146; obtain ⟨hfz16_0, hfz16_1⟩ := zf2 BK146) | (go_at_call 71; (with_reducible refine (octet_Of.calls k a0 a2_0 a2_1 t149 _ A10.out).mono ?_); rintro e w17 ⟨rfl, hb⟩; replace BK145 := bb BK145 hb; replace BK146 := bb BK146 hb; replace BK147 := bb BK147 hb; replace HB := bh HB hb; (try clear hb); (try clear hb2); (try clear hk); (try clear hi))))
   go_meet
   case rel => exact ⟨_, (!t149), (by first | rfl | (simp; done) | (simp [*]; done)), H', ⟨by first | omega | exact Nat.le_refl _⟩, ⟨bk BK145.out⟩, ⟨bk BK146.out⟩, ⟨bk BK147.out⟩, ⟨bq HB.out⟩⟩
  ·replace c9 := Bool.eq_false_iff.mpr c9
   subst c9
   have H1 : (tower_Mul.j0 k a0 true a1_0 a1_1 a2_0 a2_1) = some (r1, r2) := by rw [if_neg (show ¬ (false = true) by decide)] at H; exact H
   clear H
   have H := H1
   clear H1
   have H' := Aside0.mk H
   clear H
   have hnb18 := NB145_146.out
   have hnc18 := NB146_145.out
   have hnb19 := NB145_147.out
   have hnc19 := NB147_145.out
   obtain ⟨hcz20_0, hcz20_1⟩ := zc2 BK145
   obtain ⟨hfz20_0, hfz20_1⟩ := zf2 BK145
   go_wp2_with (first | (go_at_call 71; (with_reducible refine (octet_Of.calls k a0 a1_0 a1_1 false _ A8.out).mono ?_); rintro e w21 ⟨rfl, hb⟩; replace BK145 := bb BK145 hb; replace BK146 := bb BK146 hb; replace BK147 := bb BK147 hb; replace HB := bh HB hb; (try clear hb); (try clear hb2); (try clear hk); (try clear hi)))
   repeat (go_quiet (first | (go_at_call 71; (with_reducible refine (octet_Of.calls k a0 a1_0 a1_1 false _ A8.out).mono ?_); rintro e w21 ⟨rfl, hb⟩; replace BK145 := bb BK145 hb; replace BK146 := bb BK146 hb; replace BK147 := bb BK147 hb; replace HB := bh HB hb; (try clear hb); (try clear hb2); (try clear hk); (try clear hi))); try go_wp2_with (first | (go_at_call 71; (with_reducible refine (octet_Of.calls k a0 a1_0 a1_1 false _ A8.out).mono ?_); rintro e w21 ⟨rfl, hb⟩; replace BK145 := bb BK145 hb; replace BK146 := bb BK146 hb; replace BK147 := bb BK147 hb; replace HB := bh HB hb; (try clear hb); (try clear hb2); (try clear hk); (try clear hi))))
   go_meet
   case rel => exact ⟨_, (true), (by first | rfl | (simp; done) | (simp [*]; done)), H', ⟨by first | omega | exact Nat.le_refl _⟩, ⟨bk BK145.out⟩, ⟨bk BK146.out⟩, ⟨bk BK147.out⟩, ⟨bq HB.out⟩⟩
 case rest =>
  clear HC4
  try clear c1
  try clear p2
  try clear c5
  try clear c9
  try clear c11
  try clear c12
  try clear c15
  try clear c18
  try clear c19
  try clear hcz13_0
  try clear hcz13_1
  try clear hcz16_0
  try clear hcz16_1
  try clear hcz20_0
  try clear hcz20_1
  try clear hfz13_0
  try clear hfz13_1
  try clear hfz16_0
  try clear hfz16_1
  try clear hfz20_0
  try clear hfz20_1
  obtain ⟨kq, x10_3, rfl, HA, HJ3, BK145, BK146, BK147, HB⟩ := hcut
  cases kq with
  | zero => exact absurd HA.out (by simp [tower_Mul.j0])
  | succ kj3 =>
   have H := HA.out
   clear HA
   simp only [tower_Mul.j0] at H
   by_cases c22 : x10_3 = true
   ·subst c22
    have H1 : (some (0, 0)) = some (r1, r2) := by rw [if_pos rfl] at H; exact H
    clear H
    have H := H1
    clear H1
    simp only [Option.some.injEq, Prod.mk.injEq] at H
    obtain ⟨rfl, rfl⟩ := H
    have hnb23 := NB147_145.out
    have hnc23 := NB145_147.out
    have hnb24 := NB147_146.out
    have hnc24 := NB146_147.out
    obtain ⟨hcz25_0, hcz25_1⟩ := zc2 BK147
    obtain ⟨hfz25_0, hfz25_1⟩ := zf2 BK147
    go_wp2
    repeat (go_quiet (fail); try go_wp2)
    refine bodyPost_ret (results_cell_row rfl _ _ gb147 87 #[.int .u64 0, .int .u64 0] (0, 0) _ rfl (by (with_reducible repeat refine bl ?_); refine blk_put (cs := #[.int .u64 0, .int .u64 0]) ?_ 1 _ rfl; (with_reducible repeat refine bl ?_); refine blk_put (cs := #[.int .u64 0, .int .u64 0]) ?_ 0 _ rfl; (with_reducible repeat refine bl ?_); exact BK147.out) Try.underlying87 rfl (by kernel_rfl)) rfl ?_
    exact ⟨by first | rfl | (simp [errW_none, errW_some] <;> rfl) | (simp [*, errW_none, errW_some] <;> rfl), bq HB.out⟩
   ·replace c22 := Bool.eq_false_iff.mpr c22
    subst c22
    have H1 : (if a0 ≤ 6 then ((tower_mul.f kj3 a0 a1_1 a2_1).bind fun t150 => (some (0, t150))) else ((tower_mul.f kj3 6 a1_0 a2_0).bind fun t151 => ((tower_mul.f kj3 6 a1_1 a2_1).bind fun t152 => ((tower_mul.f kj3 6 (Go.bits .xor .u64 a1_0 a1_1) (Go.bits .xor .u64 a2_0 a2_1)).bind fun t153 => ((tower_mulX.f kj3 6 t151).bind fun t154 => (some (Go.bits .xor .u64 (Go.bits .xor .u64 (Go.bits .xor .u64 t153 t151) t152) t154, Go.bits .xor .u64 t152 t151))))))) = some (r1, r2) := by rw [if_neg (show ¬ (false = true) by decide)] at H; exact H
    clear H
    have H := H1
    clear H1
    by_cases c26 : a0 ≤ 6
    ·rw [if_pos c26] at H
     have c26b0 : decide (a0 ≤ 6) = true := decide_eq_true c26
     clear c26
     replace H := Option.bind_eq_some_iff.mp H
     obtain ⟨t150, A270, H⟩ := H
     replace H : (some (0, t150)) = some (r1, r2) := H
     have A27 := Aside0.mk A270
     clear A270
     simp only [Option.some.injEq, Prod.mk.injEq] at H
     obtain ⟨rfl, rfl⟩ := H
     have hnb28 := NB145_146.out
     have hnc28 := NB146_145.out
     have hnb29 := NB145_147.out
     have hnc29 := NB147_145.out
     obtain ⟨hcz30_0, hcz30_1⟩ := zc2 BK145
     obtain ⟨hfz30_0, hfz30_1⟩ := zf2 BK145
     have hnb31 := NB146_147.out
     have hnc31 := NB147_146.out
     obtain ⟨hcz32_0, hcz32_1⟩ := zc2 BK146
     obtain ⟨hfz32_0, hfz32_1⟩ := zf2 BK146
     go_wp2_with (first | (go_at_call 74; (with_reducible refine (tower_mul.calls kj3 a0 a1_1 a2_1 t150 _ A27.out).mono ?_); rintro e w' ⟨rfl, ⟨nd, rfl⟩⟩; (try first | exact ⟨rfl, _, World.drewN_drewN _ _ _⟩ | exact ⟨rfl, _, Eq.trans (World.drewN_drewN _ _ _) (congrArg (World.drewN _) (Nat.add_assoc _ _ _))⟩); obtain ⟨hcz33_0, hcz33_1⟩ := zc2 BK147; obtain ⟨hfz33_0, hfz33_1⟩ := zf2 BK147))
     repeat (go_quiet (first | (go_at_call 74; (with_reducible refine (tower_mul.calls kj3 a0 a1_1 a2_1 t150 _ A27.out).mono ?_); rintro e w' ⟨rfl, ⟨nd, rfl⟩⟩; (try first | exact ⟨rfl, _, World.drewN_drewN _ _ _⟩ | exact ⟨rfl, _, Eq.trans (World.drewN_drewN _ _ _) (congrArg (World.drewN _) (Nat.add_assoc _ _ _))⟩); obtain ⟨hcz33_0, hcz33_1⟩ := zc2 BK147; obtain ⟨hfz33_0, hfz33_1⟩ := zf2 BK147)); try go_wp2_with (first | (go_at_call 74; (with_reducible refine (tower_mul.calls kj3 a0 a1_1 a2_1 t150 _ A27.out).mono ?_); rintro e w' ⟨rfl, ⟨nd, rfl⟩⟩; (try first | exact ⟨rfl, _, World.drewN_drewN _ _ _⟩ | exact ⟨rfl, _, Eq.trans (World.drewN_drewN _ _ _) (congrArg (World.drewN _) (Nat.add_assoc _ _ _))⟩); obtain ⟨hcz33_0, hcz33_1⟩ := zc2 BK147; obtain ⟨hfz33_0, hfz33_1⟩ := zf2 BK147)))
     refine bodyPost_ret (results_cell_row rfl _ _ gb147 87 #[.int .u64 0, .int .u64 t150] (0, 0) _ rfl (by (with_reducible repeat refine bl ?_); refine blk_put (cs := #[.int .u64 0, .int .u64 0]) ?_ 1 _ rfl; (with_reducible repeat refine bl ?_); refine blk_put (cs := #[.int .u64 0, .int .u64 0]) ?_ 0 _ rfl; (with_reducible repeat refine bl ?_); exact BK147.out) Try.underlying87 rfl (by kernel_rfl)) rfl ?_
     exact ⟨by first | rfl | (simp [errW_none, errW_some] <;> rfl) | (simp [*, errW_none, errW_some] <;> rfl), bq HB.out⟩
    ·rw [if_neg c26] at H
     have c26b0 : decide (a0 ≤ 6) = false := decide_eq_false c26
     clear c26
     replace H := Option.bind_eq_some_iff.mp H
     obtain ⟨t151, A340, H⟩ := H
     replace H : ((tower_mul.f kj3 6 a1_1 a2_1).bind fun t152 => ((tower_mul.f kj3 6 (Go.bits .xor .u64 a1_0 a1_1) (Go.bits .xor .u64 a2_0 a2_1)).bind fun t153 => ((tower_mulX.f kj3 6 t151).bind fun t154 => (some (Go.bits .xor .u64 (Go.bits .xor .u64 (Go.bits .xor .u64 t153 t151) t152) t154, Go.bits .xor .u64 t152 t151))))) = some (r1, r2) := H
     have A34 := Aside0.mk A340
     clear A340
     replace H := Option.bind_eq_some_iff.mp H
     obtain ⟨t152, A350, H⟩ := H
     replace H : ((tower_mul.f kj3 6 (Go.bits .xor .u64 a1_0 a1_1) (Go.bits .xor .u64 a2_0 a2_1)).bind fun t153 => ((tower_mulX.f kj3 6 t151).bind fun t154 => (some (Go.bits .xor .u64 (Go.bits .xor .u64 (Go.bits .xor .u64 t153 t151) t152) t154, Go.bits .xor .u64 t152 t151)))) = some (r1, r2) := H
     have A35 := Aside0.mk A350
     clear A350
     replace H := Option.bind_eq_some_iff.mp H
     obtain ⟨t153, A360, H⟩ := H
     replace H : ((tower_mulX.f kj3 6 t151).bind fun t154 => (some (Go.bits .xor .u64 (Go.bits .xor .u64 (Go.bits .xor .u64 t153 t151) t152) t154, Go.bits .xor .u64 t152 t151))) = some (r1, r2) := H
     have A36 := Aside0.mk A360
     clear A360
     replace H := Option.bind_eq_some_iff.mp H
     obtain ⟨t154, A370, H⟩ := H
     replace H : (some (Go.bits .xor .u64 (Go.bits .xor .u64 (Go.bits .xor .u64 t153 t151) t152) t154, Go.bits .xor .u64 t152 t151)) = some (r1, r2) := H
     have A37 := Aside0.mk A370
     clear A370
     simp only [Option.some.injEq, Prod.mk.injEq] at H
     obtain ⟨rfl, rfl⟩ := H
     have hnb38 := NB145_146.out
     have hnc38 := NB146_145.out
     have hnb39 := NB145_147.out
     have hnc39 := NB147_145.out
     obtain ⟨hcz40_0, hcz40_1⟩ := zc2 BK145
     obtain ⟨hfz40_0, hfz40_1⟩ := zf2 BK145
     have hnb41 := NB146_147.out
     have hnc41 := NB147_146.out
     obtain ⟨hcz42_0, hcz42_1⟩ := zc2 BK146
     obtain ⟨hfz42_0, hfz42_1⟩ := zf2 BK146
     go_wp2_with (first | (go_at_call 74; (with_reducible refine (tower_mul.calls kj3 6 a1_0 a2_0 t151 _ A34.out).mono ?_); rintro e w' ⟨rfl, ⟨nd, rfl⟩⟩; (try first | exact ⟨rfl, _, World.drewN_drewN _ _ _⟩ | exact ⟨rfl, _, Eq.trans (World.drewN_drewN _ _ _) (congrArg (World.drewN _) (Nat.add_assoc _ _ _))⟩)) | (go_at_call 74; (with_reducible refine (tower_mul.calls kj3 6 a1_1 a2_1 t152 _ A35.out).mono ?_); rintro e w' ⟨rfl, ⟨nd, rfl⟩⟩; (try first | exact ⟨rfl, _, World.drewN_drewN _ _ _⟩ | exact ⟨rfl, _, Eq.trans (World.drewN_drewN _ _ _) (congrArg (World.drewN _) (Nat.add_assoc _ _ _))⟩)) | (go_at_call 74; (with_reducible refine (tower_mul.calls kj3 6 (Go.bits .xor .u64 a1_0 a1_1) (Go.bits .xor .u64 a2_0 a2_1) t153 _ A36.out).mono ?_); rintro e w' ⟨rfl, ⟨nd, rfl⟩⟩; (try first | exact ⟨rfl, _, World.drewN_drewN _ _ _⟩ | exact ⟨rfl, _, Eq.trans (World.drewN_drewN _ _ _) (congrArg (World.drewN _) (Nat.add_assoc _ _ _))⟩)) | (go_at_call 73; (with_reducible refine (tower_mulX.calls kj3 6 t151 t154 _ A37.out).mono ?_); rintro e w' ⟨rfl, ⟨nd, rfl⟩⟩; (try first | exact ⟨rfl, _, World.drewN_drewN _ _ _⟩ | exact ⟨rfl, _, Eq.trans (World.drewN_drewN _ _ _) (congrArg (World.drewN _) (Nat.add_assoc _ _ _))⟩); obtain ⟨hcz43_0, hcz43_1⟩ := zc2 BK147; obtain ⟨hfz43_0, hfz43_1⟩ := zf2 BK147))
     repeat (go_quiet (first | (go_at_call 74; (with_reducible refine (tower_mul.calls kj3 6 a1_0 a2_0 t151 _ A34.out).mono ?_); rintro e w' ⟨rfl, ⟨nd, rfl⟩⟩; (try first | exact ⟨rfl, _, World.drewN_drewN _ _ _⟩ | exact ⟨rfl, _, Eq.trans (World.drewN_drewN _ _ _) (congrArg (World.drewN _) (Nat.add_assoc _ _ _))⟩)) | (go_at_call 74; (with_reducible refine (tower_mul.calls kj3 6 a1_1 a2_1 t152 _ A35.out).mono ?_); rintro e w' ⟨rfl, ⟨nd, rfl⟩⟩; (try first | exact ⟨rfl, _, World.drewN_drewN _ _ _⟩ | exact ⟨rfl, _, Eq.trans (World.drewN_drewN _ _ _) (congrArg (World.drewN _) (Nat.add_assoc _ _ _))⟩)) | (go_at_call 74; (with_reducible refine (tower_mul.calls kj3 6 (Go.bits .xor .u64 a1_0 a1_1) (Go.bits .xor .u64 a2_0 a2_1) t153 _ A36.out).mono ?_); rintro e w' ⟨rfl, ⟨nd, rfl⟩⟩; (try first | exact ⟨rfl, _, World.drewN_drewN _ _ _⟩ | exact ⟨rfl, _, Eq.trans (World.drewN_drewN _ _ _) (congrArg (World.drewN _) (Nat.add_assoc _ _ _))⟩)) | (go_at_call 73; (with_reducible refine (tower_mulX.calls kj3 6 t151 t154 _ A37.out).mono ?_); rintro e w' ⟨rfl, ⟨nd, rfl⟩⟩; (try first | exact ⟨rfl, _, World.drewN_drewN _ _ _⟩ | exact ⟨rfl, _, Eq.trans (World.drewN_drewN _ _ _) (congrArg (World.drewN _) (Nat.add_assoc _ _ _))⟩); obtain ⟨hcz43_0, hcz43_1⟩ := zc2 BK147; obtain ⟨hfz43_0, hfz43_1⟩ := zf2 BK147)); try go_wp2_with (first | (go_at_call 74; (with_reducible refine (tower_mul.calls kj3 6 a1_0 a2_0 t151 _ A34.out).mono ?_); rintro e w' ⟨rfl, ⟨nd, rfl⟩⟩; (try first | exact ⟨rfl, _, World.drewN_drewN _ _ _⟩ | exact ⟨rfl, _, Eq.trans (World.drewN_drewN _ _ _) (congrArg (World.drewN _) (Nat.add_assoc _ _ _))⟩)) | (go_at_call 74; (with_reducible refine (tower_mul.calls kj3 6 a1_1 a2_1 t152 _ A35.out).mono ?_); rintro e w' ⟨rfl, ⟨nd, rfl⟩⟩; (try first | exact ⟨rfl, _, World.drewN_drewN _ _ _⟩ | exact ⟨rfl, _, Eq.trans (World.drewN_drewN _ _ _) (congrArg (World.drewN _) (Nat.add_assoc _ _ _))⟩)) | (go_at_call 74; (with_reducible refine (tower_mul.calls kj3 6 (Go.bits .xor .u64 a1_0 a1_1) (Go.bits .xor .u64 a2_0 a2_1) t153 _ A36.out).mono ?_); rintro e w' ⟨rfl, ⟨nd, rfl⟩⟩; (try first | exact ⟨rfl, _, World.drewN_drewN _ _ _⟩ | exact ⟨rfl, _, Eq.trans (World.drewN_drewN _ _ _) (congrArg (World.drewN _) (Nat.add_assoc _ _ _))⟩)) | (go_at_call 73; (with_reducible refine (tower_mulX.calls kj3 6 t151 t154 _ A37.out).mono ?_); rintro e w' ⟨rfl, ⟨nd, rfl⟩⟩; (try first | exact ⟨rfl, _, World.drewN_drewN _ _ _⟩ | exact ⟨rfl, _, Eq.trans (World.drewN_drewN _ _ _) (congrArg (World.drewN _) (Nat.add_assoc _ _ _))⟩); obtain ⟨hcz43_0, hcz43_1⟩ := zc2 BK147; obtain ⟨hfz43_0, hfz43_1⟩ := zf2 BK147)))
     refine bodyPost_ret (results_cell_row rfl _ _ gb147 87 #[.int .u64 (Go.bits .xor .u64 (Go.bits .xor .u64 (Go.bits .xor .u64 t153 t151) t152) t154), .int .u64 (Go.bits .xor .u64 t152 t151)] (0, 0) _ rfl (by (with_reducible repeat refine bl ?_); refine blk_put (cs := #[.int .u64 (Go.bits .xor .u64 (Go.bits .xor .u64 (Go.bits .xor .u64 t153 t151) t152) t154), .int .u64 0]) ?_ 1 _ rfl; (with_reducible repeat refine bl ?_); refine blk_put (cs := #[.int .u64 0, .int .u64 0]) ?_ 0 _ rfl; (with_reducible repeat refine bl ?_); exact BK147.out) Try.underlying87 rfl (by kernel_rfl)) rfl ?_
     exact ⟨by first | rfl | (simp [errW_none, errW_some] <;> rfl) | (simp [*, errW_none, errW_some] <;> rfl), bq HB.out⟩

/-! ### perm_mul: function 32 -/
def perm_mul.f (k : Nat) (a0 : Int) (a1 : Int) : Option (Int) := (tower_Mul.f k 3 0 (IntKind.u64.wrap (a0)) 0 (IntKind.u64.wrap (a1))).bind fun bt155 => (some ((bt155.2) % 256))
set_option maxHeartbeats 8000000 in
set_option maxRecDepth 100000 in
theorem perm_mul.calls (k : Nat) (a0 : Int) (a1 : Int) (r : Int) (w : World) (h : perm_mul.f k a0 a1 = some r) :
  Calls Try.prog 32 #[.int .u8 a0, .int .u8 a1] w fun e w' => e = .returned (.int .u8 r) ∧ Below w.heap.size w w' := by
 have hu87 := Try.underlying87
 have HB := Aside0.mk (Below.refl w.heap.size w)
 have H : ((tower_Mul.f k 3 0 (IntKind.u64.wrap (a0)) 0 (IntKind.u64.wrap (a1))).bind fun bt155 => (some ((bt155.2) % 256))) = some r := h
 clear h
 replace H := Option.bind_eq_some_iff.mp H
 obtain ⟨⟨t155, t156⟩, A30, H⟩ := H
 replace H : (some ((t156) % 256)) = some r := H
 have A3 := Aside0.mk A30
 clear A30
 obtain rfl := Option.some.inj H
 go_enter Try.func32, Try.ntmps32
 go_wp2_with (first | ((with_reducible refine gate_callee (f := 52) rfl ?_); refine goesL_ (some 11) rfl rfl Try.func52 (by kernel_rfl) rfl #[.int .i64 3, .agg #[.int .u64 0, .int .u64 (IntKind.u64.wrap (a0))], .agg #[.int .u64 0, .int .u64 (IntKind.u64.wrap (a1))]] rfl (by (try simp only [List.map_toArray, List.map_cons, List.map_nil]); first | done | rfl | (simp only [List.length_drop, List.length_take]; rfl)) ?_; (with_reducible refine (tower_Mul.calls k 3 0 (IntKind.u64.wrap (a0)) 0 (IntKind.u64.wrap (a1)) t155 t156 _ A3.out).mono ?_); rintro e w4 ⟨rfl, hb⟩; refine ⟨_, rfl, ?_⟩; replace HB := bh HB hb; (try clear hb); (try clear hb2); (try clear hk); (try clear hi)))
 go_ret
 exact ⟨by first | rfl | (simp [errW_none, errW_some] <;> rfl) | (simp [*, errW_none, errW_some] <;> rfl), bq HB.out⟩

end Go.Proofs.Ytmibjgjgfombaaa.P
