/- The conjugates that are yielded, in order (frob.conjugates and its closure). Conditions: those that each theorem names. -/
import Derived.Test.YtlegcabfgkccmaaHRange
import Derived.Shelf.Abstract
import Derived.Shelf.RegionOpen
import Derived.WalkKit
import Derived.OwnWalkIn
import Derived.TacticsInMore
import Derived.LoopNIn
import Derived.LoopIn
import Derived.Sort.LoopGhostIn
import Derived.Test.YtlegcabfgkccmaaPx0
set_option linter.unusedVariables false
set_option linter.unusedSimpArgs false
namespace Go.Proofs.Ytlegcabfgkccmaa.P
open Go.RowKit Go.Shelf Go.Rc Go.Proofs.YtlegcabfgkccmaaX Go.Proofs.YtlegcabfgkccmaaW.PrintWords Go.Proofs.YtlegcabfgkccmaaW.PrintLast Go.Proofs.YtlegcabfgkccmaaW.PrintMore
attribute [local go_sem] Oper.semAt_some
/-- m squarings. -/
def sqs (sq : Int → Int → Int → Option (Int × Int)) (level : Int) : Nat → Int × Int → Option (Int × Int)
  | 0, a => some a
  | m + 1, a => (sq level a.1 a.2).bind fun b => sqs sq level m b
/-- The list of n elements, each one t squarings behind the one before. -/
def cj (sq : Int → Int → Int → Option (Int × Int)) (level : Int) (t : Nat) : Nat → Int × Int → Option (List (Int × Int))
  | 0, _ => some []
  | n + 1, a => (sqs sq level t a).bind fun b => (cj sq level t n b).bind fun l => some (a :: l)
def encE (x : Int × Int) : Array Value := #[.agg #[.int .u64 x.1, .int .u64 x.2]]
/-- A round keeps the three boxes. -/
def Kp3 (gl gt ga : Nat) (W W' : World) : Prop := ∀ k, k = gl ∨ k = gt ∨ k = ga → W'.heap[k]? = W.heap[k]?
/-- A step of the walk turns one block alone. -/
structure Ks1 (g : Nat) (W W' : World) : Prop where
  os : W'.os = W.os
  tape : W'.tape = W.tape
  output : W'.output = W.output
  size : W.heap.size ≤ W'.heap.size
  block : ∀ k, k < W.heap.size → k ≠ g → W'.heap[k]? = W.heap[k]?
theorem Ks1.below {g : Nat} {W W' : World} (h : Below W.heap.size W W') : Ks1 g W W' := ⟨h.os, h.tape, h.output, h.size, fun k hk _ => h.block k hk⟩
theorem Ks1.set {g : Nat} (W : World) (j : Nat) (v : Value) : Ks1 g W (W.setCell ⟨g, j, none⟩ v) := by
  have h := (Below.refl 0 W).setCell (p := ⟨g, j, none⟩) (Nat.zero_le _) v
  exact ⟨h.os, h.tape, h.output, h.size, fun k _ hk => Below.heap_setCell W ⟨g, j, none⟩ v k hk⟩
theorem Ks1.trans {g : Nat} {A B C : World} (h : Ks1 g A B) (k : Ks1 g B C) : Ks1 g A C := ⟨k.os.trans h.os, k.tape.trans h.tape, k.output.trans h.output, Nat.le_trans h.size k.size, fun i hi hg => (k.block i (Nat.lt_of_lt_of_le hi h.size) hg).trans (h.block i hi hg)⟩
theorem wpow {t : Nat} (h : t ≤ 7) : IntKind.i64.wrap (1 * 2 ^ ((t : Nat) : Int).toNat) = ((2 ^ t : Nat) : Int) := by
  rw [Int.toNat_natCast, Int.one_mul]
  have h2 : (2 : Nat) ^ t ≤ 2 ^ 7 := Nat.pow_le_pow_right (by decide) h
  have h3 : ((2 : Int) ^ t) = ((2 ^ t : Nat) : Int) := by rw [Int.natCast_pow]; rfl
  rw [h3, i64_w]
  generalize (2 : Nat) ^ t = q at h2 ⊢
  unfold wrap64
  omega
set_option maxHeartbeats 4000000 in
set_option maxRecDepth 100000 in
theorem frob_conj.gives {sq : Int → Int → Int → Option (Int × Int)} (hsq : ∀ l a0 a1 r0 r1 w, sq l a0 a1 = some (r0, r1) → Calls Try.prog 45 #[.int .i64 l, .agg #[.int .u64 a0, .int .u64 a1]] w fun e w' => e = .returned (.agg #[.int .u64 r0, .int .u64 r1]) ∧ Below w.heap.size w w')
    (n : Nat) (hn : 3 ≤ n) (m t : Nat) (lv : Int) (hlv : lv = ((m + t : Nat) : Int)) (hm : m + t ≤ 7) (a : Int × Int) (xs : List (Int × Int)) (gl gt ga : Nat) (w : World) (hlg : gl ≠ ga) (htg : gt ≠ ga)
    (hl : w.heap[gl]? = some (.cells #[.int .i64 lv] 3 (0, 0))) (ht : w.heap[gt]? = some (.cells #[.int .i64 (t : Int)] 3 (0, 0))) (ha : w.heap[ga]? = some (.cells #[.int .u64 a.1, .int .u64 a.2] 24 (0, 0)))
    (h : cj sq lv (2 ^ t) (2 ^ m) a = some xs) :
    Gives Fence.wide n Try.prog 52 #[.pointer (some ⟨gl, 0, none⟩), .pointer (some ⟨gt, 0, none⟩), .pointer (some ⟨ga, 0, none⟩)] encE (Kp3 gl gt ga) (Ks1 ga) xs w := by
  intro l J W hW hJ hY h0
  have hu24 := Try.underlying24
  have hsub : wrap64 (lv - (t : Int)) = (m : Int) := by
    rw [hlv]
    unfold wrap64
    omega
  clear hlv
  obtain ⟨q, hq⟩ : ∃ q : Nat, 2 ^ m = q := ⟨_, rfl⟩
  obtain ⟨p, hp⟩ : ∃ p : Nat, 2 ^ t = p := ⟨_, rfl⟩
  have hq7 : q ≤ 128 := by rw [← hq]; exact Nat.pow_le_pow_right (by decide) (show m ≤ 7 by omega)
  have hp7 : p ≤ 128 := by rw [← hp]; exact Nat.pow_le_pow_right (by decide) (show t ≤ 7 by omega)
  have hsm : wrap64 ((2 : Int) ^ m) = (q : Int) := by
    have := wpow (t := m) (by omega)
    rw [Int.toNat_natCast, Int.one_mul, i64_w] at this
    rw [this, hq]
  have hst : wrap64 ((2 : Int) ^ t) = (p : Int) := by
    have := wpow (t := t) (by omega)
    rw [Int.toNat_natCast, Int.one_mul, i64_w] at this
    rw [this, hp]
  rw [hq, hp] at h
  refine callsIn_of_wp Try.func52 rfl trivial ?_ rfl
  simp only [Try.ntmps52, List.size_toArray, List.length_cons, List.length_nil, Nat.reduceAdd, Nat.reduceSub, Array.replicate_succ, Array.replicate_zero, List.push_toArray, List.append_toArray, List.nil_append, List.cons_append]
  gi_wp2
  gi_loopg [5] q (fun kq v5 w' => ∃ (i : Nat) (b : Int × Int) (pre rest : List (Int × Int)), v5 = .int .i64 (i : Int) ∧ Aside0 (xs = pre ++ rest) ∧ Aside0 (cj sq lv p kq b = some rest) ∧ Aside0 (i + kq = q) ∧ Aside0 (w'.heap[gl]? = some (.cells #[.int .i64 lv] 3 (0, 0))) ∧ Aside0 (w'.heap[gt]? = some (.cells #[.int .i64 (t : Int)] 3 (0, 0))) ∧ Aside0 (w'.heap[ga]? = some (.cells #[.int .u64 b.1, .int .u64 b.2] 24 (0, 0))) ∧ Aside0 (J pre w'))
  case atStart =>
    refine ⟨0, a, [], xs, rfl, ⟨rfl⟩, ⟨h⟩, ⟨Nat.zero_add _⟩, ⟨?_⟩, ⟨?_⟩, ⟨?_⟩, ⟨h0⟩⟩
    · exact blk_below hl hW
    · exact blk_below ht hW
    · exact blk_below ha hW
  case round =>
    obtain ⟨i, ⟨b0, b1⟩, pre, rest, rfl, hx, hc, hk, BL, BT, BA, hj⟩ := hrel
    have hcl := zc1 BL
    have hct := zc1 BT
    obtain ⟨hca0, hca1⟩ := zc2 BA
    cases gk with
    | zero =>
      have e0 := hk.out
      have d0 : decide (i < q) = false := decide_eq_false (by omega)
      have d1 : decide ((i : Int) < (q : Int)) = false := decide_eq_false (by omega)
      have d2 : ¬ (i < q) := by omega
      clear e0
      have hend : J xs wr := by
        have h1 := hc.out
        unfold cj at h1
        have := hx.out
        rw [← Option.some.inj h1, List.append_nil] at this
        rw [this]
        exact hj.out
      have HE := Aside0.mk hend
      clear hend
      gi_wp2
      refine ⟨fun _ h => (by cases h), ?_⟩
      gi_wp2
      go_end0
      exact ⟨⟨_, rfl⟩, HE.out⟩
    | succ gko =>
      have e0 := hk.out
      have d0 : decide (i < q) = true := decide_eq_true (by omega)
      have d1 : decide ((i : Int) < (q : Int)) = true := decide_eq_true (by omega)
      have d2 : i < q := by omega
      clear e0
      have h1 := hc.out
      unfold cj at h1
      obtain ⟨b2, hb2, h1⟩ := Option.bind_eq_some_iff.mp h1
      obtain ⟨rest2, hr2, h1⟩ := Option.bind_eq_some_iff.mp h1
      obtain rfl := Option.some.inj h1
      clear h1 hc
      have hx2 := hx.out
      have HR2 := Aside0.mk hr2
      have HB2 := Aside0.mk hb2
      clear hr2 hb2
      obtain ⟨fn, tmps, assign, body, hy, hR⟩ := hY pre (b0, b1) wr hj.out ⟨rest2, by rw [hx2, List.append_assoc, List.singleton_append]⟩
      have HX := Aside0.mk (show xs = (pre ++ [(b0, b1)]) ++ rest2 by rw [hx2, List.append_assoc, List.singleton_append])
      clear hx hx2
      dsimp only [encE] at hy
      gi_wp2
      refine ⟨fun _ => by omega, hR.mono ?_⟩
      rintro e W2 ⟨rfl, hj2, hkp⟩
      replace BL := Aside0.mk ((hkp gl (.inl rfl)).trans BL.out)
      replace BT := Aside0.mk ((hkp gt (.inr (.inl rfl))).trans BT.out)
      replace BA := Aside0.mk ((hkp ga (.inr (.inr rfl))).trans BA.out)
      have hcl := zc1 BL
      have hct := zc1 BT
      have HJ2 := Aside0.mk hj2
      clear hj hj2 hkp hR hy
      gi_wp2
      rw [hst]
      gi_loopg [21] p (fun kq v21 w' => ∃ (i2 : Nat) (b : Int × Int), v21 = .int .i64 (i2 : Int) ∧ Aside0 (sqs sq lv kq b = some b2) ∧ Aside0 (i2 + kq = p) ∧ Aside0 (w'.heap[gl]? = some (.cells #[.int .i64 lv] 3 (0, 0))) ∧ Aside0 (w'.heap[gt]? = some (.cells #[.int .i64 (t : Int)] 3 (0, 0))) ∧ Aside0 (w'.heap[ga]? = some (.cells #[.int .u64 b.1, .int .u64 b.2] 24 (0, 0))) ∧ Aside0 (J (pre ++ [(b0, b1)]) w'))
      case atStart => exact ⟨0, (b0, b1), rfl, HB2, ⟨Nat.zero_add _⟩, BL, BT, BA, HJ2⟩
      case round =>
        obtain ⟨i2, ⟨c0, c1⟩, rfl, hs, hk2, BL, BT, BA, HJ3⟩ := hrel
        have hcl := zc1 BL
        have hct := zc1 BT
        obtain ⟨hca0, hca1⟩ := zc2 BA
        cases gk with
        | zero =>
          have e0 := hk2.out
          have d0 : decide (i2 < p) = false := decide_eq_false (by omega)
          have d1 : decide ((i2 : Int) < (p : Int)) = false := decide_eq_false (by omega)
          have d2 : ¬ (i2 < p) := by omega
          clear e0
          have h1 := hs.out
          unfold sqs at h1
          obtain rfl := Option.some.inj h1
          clear h1 hs
          gi_wp2
          gi_roundg gko
          case measure => exact Nat.lt_succ_self _
          case rel => exact ⟨i + 1, (c0, c1), pre ++ [(b0, b1)], rest2, rfl, HX, HR2, ⟨by have := hk.out; omega⟩, BL, BT, BA, HJ3⟩
        | succ g2 =>
          have e0 := hk2.out
          have d0 : decide (i2 < p) = true := decide_eq_true (by omega)
          have d1 : decide ((i2 : Int) < (p : Int)) = true := decide_eq_true (by omega)
          have d2 : i2 < p := by omega
          clear e0
          have h1 := hs.out
          unfold sqs at h1
          obtain ⟨⟨f0, f1⟩, hf, h1⟩ := Option.bind_eq_some_iff.mp h1
          have HF := Aside0.mk hf
          have HS2 := Aside0.mk h1
          clear h1 hf hs
          gi_wp2
          refine ⟨trivial, fun _ => by omega, (callsIn_wide.2 (hsq _ _ _ _ _ _ HF.out)).mono ?_⟩
          rintro e w2 ⟨rfl, hb⟩
          replace BL := Aside0.mk (blk_below BL.out hb)
          replace BT := Aside0.mk (blk_below BT.out hb)
          replace BA := Aside0.mk (blk_below BA.out hb)
          have HJ4 := Aside0.mk (hJ _ _ _ HJ3.out (Ks1.below hb))
          clear HJ3 hb hcl hct hca0 hca1
          have hcl := zc1 BL
          have hct := zc1 BT
          obtain ⟨hca0, hca1⟩ := zc2 BA
          obtain ⟨hfa0, hfa1⟩ := zf2 BA
          gi_wp2
          gi_roundg g2
          case measure => exact Nat.lt_succ_self _
          case rel => exact ⟨i2 + 1, (f0, f1), rfl, HS2, ⟨by have := hk2.out; omega⟩, ⟨blk_far (blk_far BL.out hlg _) hlg _⟩, ⟨blk_far (blk_far BT.out htg _) htg _⟩, ⟨blk_put (blk_put BA.out 0 _ rfl) 1 _ rfl⟩, ⟨hJ _ _ _ HJ4.out ((Ks1.set _ 0 _).trans (Ks1.set _ 1 _))⟩⟩
set_option maxHeartbeats 1000000 in
set_option maxRecDepth 100000 in
/-- The iterator that conjugates makes: three boxes of its own. -/
theorem frob_conj.calls (a0 a1 a2_0 a2_1 : Int) (w : World) : Calls Try.prog 37 #[.int .i64 a0, .int .i64 a1, .agg #[.int .u64 a2_0, .int .u64 a2_1]] w fun e w' => ∃ gl gt ga : Nat,
    e = .returned (.func (.func 52) #[] #[.pointer (some ⟨gl, 0, none⟩), .pointer (some ⟨gt, 0, none⟩), .pointer (some ⟨ga, 0, none⟩)]) ∧ w.heap.size ≤ ga ∧ gl ≠ ga ∧ gt ≠ ga ∧
    w'.heap[gl]? = some (.cells #[.int .i64 a0] 3 (0, 0)) ∧ w'.heap[gt]? = some (.cells #[.int .i64 a1] 3 (0, 0)) ∧ w'.heap[ga]? = some (.cells #[.int .u64 a2_0, .int .u64 a2_1] 24 (0, 0)) ∧ Below w.heap.size w w' := by
  have hmf : ∀ (fn : Fn) (first cap : Array Value) (w : World), (Instr.makeFunc fn first cap).run Try.prog w = .ok (.func fn first cap) w := fun _ _ _ _ => rfl
  have hu24 := Try.underlying24
  have HB := Aside0.mk (Below.refl w.heap.size w)
  go_enter Try.func37, Try.ntmps37
  go_wp2_with (first
    | ((with_reducible refine gate_dst (N := 3) rfl ?_); refine box_event ?hg (N := 3) ?hd (cs := #[.int .i64 a0]) (t := 3) ?hr ?_; (case hd => rfl); (case hg => rfl); (case hr => first | (go_simp; done) | (go_simp; rfl)); intro gl hgl w4 hbox hb; have BL := Aside0.mk hbox; replace HB := bh HB hb; clear hb hbox hgl)
    | ((with_reducible refine gate_dst (N := 4) rfl ?_); refine box_event ?hg (N := 4) ?hd (cs := #[.int .i64 a1]) (t := 3) ?hr ?_; (case hd => rfl); (case hg => rfl); (case hr => first | (go_simp; done) | (go_simp; rfl)); intro gt hgt w5 hbox hb; have BT := Aside0.mk hbox; replace BL := bb BL hb; replace HB := bh HB hb; clear hb hbox hgt)
    | ((with_reducible refine gate_dst (N := 5) rfl ?_); refine box_event ?hg (N := 5) ?hd (cs := #[.int .u64 a2_0, .int .u64 a2_1]) (t := 24) ?hr ?_; (case hd => rfl); (case hg => rfl); (case hr => first | (go_simp; done) | (go_simp; rfl)); intro ga hga w6 hbox hb; have BA := Aside0.mk hbox; have NL := nl hga BL; have NT := nl hga BT; have GA := ge hga HB; replace BL := bb BL hb; replace BT := bb BT hb; replace HB := bh HB hb; clear hb hbox hga))
  go_ret
  exact ⟨gl, gt, ga, rfl, GA.out, NL.out, NT.out, BL.out, BT.out, BA.out, HB.out⟩
end Go.Proofs.Ytlegcabfgkccmaa.P
