/- The blocks of a text, yielded in order (sponge.cut and its closure) (layer 10). Conditions: those that each theorem names. Printed by gen_st.py. -/
import Derived.Test.YtaffpnnhoagmaaaHRange
import Derived.Shelf.Abstract
import Derived.Shelf.RegionOpen
import Derived.WalkKit
import Derived.OwnWalkIn
import Derived.TacticsInMore
import Derived.LoopNIn
import Derived.LoopIn
import Derived.Sort.LoopGhostIn
import Derived.Test.YtaffpnnhoagmaaaPmSp
set_option linter.unusedVariables false
set_option linter.unusedSimpArgs false
set_option maxRecDepth 100000
namespace Go.Proofs.Ytaffpnnhoagmaaa.P
open Go.RowKit Go.Shelf Go.Rc Go.Proofs.Ytaffpnnhoagmaaa.Br Go.Proofs.YtaffpnnhoagmaaaX Go.Proofs.YtaffpnnhoagmaaaW.PrintWords Go.Proofs.YtaffpnnhoagmaaaW.PrintLast Go.Proofs.YtaffpnnhoagmaaaW.PrintMore
attribute [local go_sem] Oper.semAt_some
def encS (x : ByteArray) : Array Value := #[.string x]
/-- A round keeps the box. -/
def Kp1 (gs : Nat) (W W' : World) : Prop := W'.heap[gs]? = W.heap[gs]?
/-- A step of the walk turns one block alone. -/
structure Ks1 (g : Nat) (W W' : World) : Prop where
  os : W'.os = W.os
  tape : W'.tape = W.tape
  output : W'.output = W.output
  size : W.heap.size ≤ W'.heap.size
  block : ∀ k, k < W.heap.size → k ≠ g → W'.heap[k]? = W.heap[k]?
theorem Ks1.set {g : Nat} (W : World) (j : Nat) (v : Value) : Ks1 g W (W.setCell ⟨g, j, none⟩ v) := by
  have h := (Below.refl 0 W).setCell (p := ⟨g, j, none⟩) (Nat.zero_le _) v
  exact ⟨h.os, h.tape, h.output, h.size, fun k _ hk => Below.heap_setCell W ⟨g, j, none⟩ v k hk⟩
theorem Ks1.refl {g : Nat} (W : World) : Ks1 g W W := ⟨rfl, rfl, rfl, Nat.le_refl _, fun _ _ _ => rfl⟩
theorem below_putObj {n₀ : Nat} {w W : World} (hb : Below n₀ w W) (l : Nat) (o' : Obj) (hn : n₀ ≤ l) : Below n₀ w (W.putObj l o') :=
  ⟨hb.os, hb.tape, hb.output, by simpa [World.putObj] using hb.size, fun k hk => (World.putObj_heap_other (by omega)).trans (hb.block k hk)⟩
theorem Ks1.later {g n₀ : Nat} {w A B : World} (hb : Below n₀ w A) (hk : Ks1 g A B) (hg : n₀ ≤ g) (hw : n₀ ≤ w.heap.size) : Below n₀ w B :=
  ⟨hk.os.trans hb.os, hk.tape.trans hb.tape, hk.output.trans hb.output, Nat.le_trans hb.size hk.size, fun k h => (hk.block k (by have := hb.size; omega) (by omega)).trans (hb.block k h)⟩
set_option maxHeartbeats 8000000 in
set_option maxRecDepth 100000 in
theorem cut_gives (n : Nat) (hn : 3 ≤ n) (m : Nat) (hm : m ≤ 17592186044416) (f : ByteArray) (hf : f.size = 64 * m) (gs : Nat) (w : World) (hs : w.heap[gs]? = some (.cells #[.string f] 9 (0, 0))) :
    Gives Fence.wide n Try.prog 62 #[.pointer (some ⟨gs, 0, none⟩)] encS (Kp1 gs) (Ks1 gs) (cutL m f) w := by
  intro l J W hW hJ hY h0
  refine callsIn_of_wp Try.func62 rfl trivial ?_ rfl
  simp only [Try.ntmps62, List.size_toArray, List.length_cons, List.length_nil, Nat.reduceAdd, Nat.reduceSub, Array.replicate_succ, Array.replicate_zero, List.push_toArray, List.append_toArray, List.nil_append, List.cons_append]
  gi_wp2
  gi_loopg [3] m (fun kq v3 w' => ∃ (s : ByteArray) (pre : List ByteArray), Aside0 (cutL m f = pre ++ cutL kq s) ∧ Aside0 (s.size = 64 * kq) ∧ Aside0 (kq ≤ m) ∧ Aside0 (w'.heap[gs]? = some (.cells #[.string s] 9 (0, 0))) ∧ Aside0 (J pre w'))
  case atStart => exact ⟨f, [], ⟨rfl⟩, ⟨hf⟩, ⟨Nat.le_refl _⟩, ⟨blk_below hs hW⟩, ⟨h0⟩⟩
  case round =>
    obtain ⟨s, pre, hx, hz, hk, BS, hj⟩ := hrel
    have hcs := zc1 BS
    cases gk with
    | zero =>
      have e0 := hz.out
      have d1 : decide (64 ≤ (s.size : Int)) = false := decide_eq_false (by omega)
      have d2 : decide (64 ≤ s.size) = false := decide_eq_false (by omega)
      clear e0
      have hend : J (cutL m f) wr := by
        have := hx.out
        rw [show cutL 0 s = [] from rfl, List.append_nil] at this
        rw [this]
        exact hj.out
      have HE := Aside0.mk hend
      clear hend
      gi_wp2
      refine ⟨fun _ h => (by cases h), ?_⟩
      gi_wp2
      go_end0
      exact ⟨⟨_, rfl⟩, HE.out⟩
    | succ gko =>
      have e0 := hz.out
      have d1 : decide (64 ≤ (s.size : Int)) = true := decide_eq_true (by omega)
      have d2 : decide (64 ≤ s.size) = true := decide_eq_true (by omega)
      have d3 : (64 ≤ (s.size : Int)) = True := eq_true (by omega)
      have d4 : (64 ≤ s.size) = True := eq_true (by omega)
      obtain ⟨fn, tmps, assign, body, hy, hR⟩ := hY pre (s.extract 0 64) wr hj.out ⟨cutL gko (s.extract 64 s.size), by rw [hx.out, List.append_assoc]; rfl⟩
      have HX := Aside0.mk (show cutL m f = (pre ++ [s.extract 0 64]) ++ cutL gko (s.extract 64 s.size) by rw [hx.out, List.append_assoc]; rfl)
      have HZ2 := Aside0.mk (ext_size1 e0)
      clear hx e0
      dsimp only [encS] at hy
      gi_wp2
      refine ⟨fun _ => by omega, hR.mono ?_⟩
      rintro e W2 ⟨rfl, hj2, hkp⟩
      clear hcs
      replace BS := Aside0.mk (Eq.trans hkp BS.out)
      have hcs := zc1 BS
      have hfz := blk_frozen BS.out 0
      have HJ2 := Aside0.mk hj2
      clear hj hj2 hkp hR hy
      gi_wp2
      gi_roundg gko
      case measure => exact Nat.lt_succ_self _
      case rel => exact ⟨s.extract 64 s.size, pre ++ [s.extract 0 64], HX, HZ2, ⟨by have := hk.out; omega⟩, ⟨blk_put BS.out 0 _ rfl⟩, ⟨hJ _ _ _ HJ2.out (Ks1.set _ _ _)⟩⟩
set_option maxHeartbeats 8000000 in
set_option maxRecDepth 100000 in
theorem cut_calls (s : ByteArray) (w : World) : Calls Try.prog 43 #[.string s] w fun e w' => ∃ gs : Nat, e = .returned (.func (.func 62) #[] #[.pointer (some ⟨gs, 0, none⟩)]) ∧ w.heap.size ≤ gs ∧ w'.heap[gs]? = some (.cells #[.string s] 9 (0, 0)) ∧ Below w.heap.size w w' := by
  have hmf : ∀ (fn : Fn) (first cap : Array Value) (w : World), (Instr.makeFunc fn first cap).run Try.prog w = .ok (.func fn first cap) w := fun _ _ _ _ => rfl
  have HB := Aside0.mk (Below.refl w.heap.size w)
  go_enter Try.func43, Try.ntmps43
  go_wp2_with (first
    | ((with_reducible refine gate_dst (N := 1) rfl ?_); refine box_event ?hg (N := 1) ?hd (cs := #[.string s]) (t := 9) ?hr ?_; (case hd => rfl); (case hg => rfl); (case hr => first | (go_simp; done) | (go_simp; rfl)); intro gs hgs w4 hbox hb; have BS := Aside0.mk hbox; have GS := ge hgs HB; replace HB := bh HB hb; clear hb hbox hgs))
  go_ret
  exact ⟨gs, rfl, GS.out, BS.out, HB.out⟩
end Go.Proofs.Ytaffpnnhoagmaaa.P
