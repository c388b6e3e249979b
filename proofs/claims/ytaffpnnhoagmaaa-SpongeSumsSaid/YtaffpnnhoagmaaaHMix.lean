/- Columns of a state are mixed (layer 10). Conditions: those that each theorem names. Printed by gen_st.py. -/
import Derived.Test.YtaffpnnhoagmaaaHTurn
import Derived.Test.YtaffpnnhoagmaaaPx2
set_option linter.unusedVariables false
set_option linter.unusedSimpArgs false
set_option maxRecDepth 100000
namespace Go.Proofs.Ytaffpnnhoagmaaa.P
open Go.RowKit Go.Proofs.YtaffpnnhoagmaaaX Go.Proofs.YtaffpnnhoagmaaaW.PrintWords Go.Proofs.YtaffpnnhoagmaaaW.PrintLast Go.Proofs.YtaffpnnhoagmaaaW.PrintMore
attribute [local go_sem] zero_st
/-- The first k products of a mixed byte, added. -/
def mixP (ml : Nat → Nat → Nat) (f : Nat → Nat) (n : Nat) : Nat → Nat
  | 0 => 0
  | k + 1 => mixP ml f n k ^^^ ml (mixL.getD k 0) (f (8 * (n / 8) + (n % 8 + k) % 8))
/-- A state whose columns are mixed. -/
def mixF (ml : Nat → Nat → Nat) (f : Nat → Nat) (n : Nat) : Nat := mixP ml f n 8
theorem mixL_getD {k : Nat} (h : k < 8) : mixL.getD k 0 = mixL[k]'h := by
  rw [List.getD_eq_getElem?_getD, List.getElem?_eq_getElem h]
  rfl
theorem mixP_lt {ml : Nat → Nat → Nat} {f : Nat → Nat} (hm8 : ∀ b q : Nat, b < 256 → q ∈ mixL → ml q b < 256) (hf : ∀ n, n < 64 → f n < 256) {n : Nat} (hn : n < 64) : ∀ {k : Nat}, k ≤ 8 → mixP ml f n k < 256
  | 0, _ => show (0 : Nat) < 256 by decide
  | k + 1, h => by
    have hk : k < 8 := h
    unfold mixP
    refine xor_lt (mixP_lt hm8 hf hn (Nat.le_of_succ_le h)) (hm8 _ _ (hf _ (by omega)) ?_)
    rw [mixL_getD hk]
    exact List.getElem_mem hk
set_option maxHeartbeats 8000000 in
set_option maxRecDepth 100000 in
theorem mix_calls {bx : Nat → Nat} {ml : Nat → Nat → Nat} {gt g : Nat} {ct cs : Array Value} {w : World} {f : Nat → Nat} (hm8 : ∀ b q : Nat, b < 256 → q ∈ mixL → ml q b < 256) (hT : w.heap[gt]? = some (.cells ct 54 (0, 0))) (hTab : Tab bx ml 256 256 256 0 ct) (hg : gt < g) (hS : w.heap[g]? = some (.cells cs 101 (0, 0))) (hf : Sta f cs) :
  Calls Try.prog 73 #[.pointer (some ⟨g, 0, none⟩), .pointer (some ⟨gt, 0, none⟩)] w fun e w' => e = .returned (.tuple #[]) ∧ (∃ cs', w'.heap[g]? = some (.cells cs' 101 (0, 0)) ∧ Sta (mixF ml f) cs') ∧ Below g w w' := by
 have HB := Aside0.mk (Below.refl g w)
 have HS := Aside0.mk hS
 have HF := Aside0.mk hf
 have HI := Aside0.mk (sta_info hf)
 have HGW := Aside0.mk (blk_lt hS)
 have HT := Aside0.mk hT
 have TB := Aside0.mk hTab
 have M8 := Aside0.mk hm8
 have TG := Aside0.mk hg
 clear hS hf hT hTab hm8 hg
 go_enter Try.func73, Try.ntmps73
 go_wp2_with (first
  | ((with_reducible refine gate_dst (N := 12) rfl ?_); refine wpList_load_row rfl 101 (.tmp 11) rfl g (by rfl) 101 cs (0, 0) _ HS.out Try.underlying101 rfl HI.out ?_)
  | ((with_reducible refine gate_dst (N := 4) rfl ?_); refine box_event ?hg (N := 4) ?hd (cs := zSt) (t := 101) ?hr ?_; (case hd => rfl); (case hg => rfl); (case hr => first | (go_simp; done) | (go_simp; rfl)); intro g2 hg2 w2 hbox hb; have B2 := Aside0.mk hbox; have NG := Aside0.mk (show g ≠ g2 by have := blk_lt HS.out; omega); have G2 := Aside0.mk (show g ≤ g2 by have := blk_lt HS.out; omega); replace HS := Aside0.mk (blk_below HS.out hb); replace HT := Aside0.mk (blk_below HT.out hb); replace HB := Aside0.mk (below_far HB.out HGW.out hb); clear hb hbox hg2)
  | ((with_reducible refine gate_store (t := 101) (p := 4) rfl ?_); refine wpList_store_row rfl 101 (.tmp 4) (.tmp 12) rfl g2 cs (by rfl) (by rfl) 101 _ B2.out HI.out (by rw [HF.out.size, zSt_size]) (sta_one HF.out) ?_; replace HS := Aside0.mk (blk_setRow HS.out NG.out cs); replace HT := Aside0.mk (blk_setRow HT.out (show gt ≠ g2 by have := TG.out; have := G2.out; omega) cs); replace HB := Aside0.mk (below_setRow HB.out G2.out cs); replace B2 := Aside0.mk (setRow_heap _ g2 _ cs 101 (0, 0) B2.out); (generalize World.setRow _ g2 cs = w3 at HS HT HB B2 ⊢)))
 obtain ⟨cs0, e0⟩ : ∃ cs0, cs0 = cs := ⟨_, rfl⟩
 have HF0 : Aside0 (Sta f cs0) := ⟨e0 ▸ HF.out⟩
 have B0 := Aside0.mk (show _ = _ from e0 ▸ B2.out)
 clear B2 e0
 go_loopg [13] 8 (fun kq v13 w' => ∃ (c : Nat) (cs : Array Value), v13 = .int .i64 (c : Int) ∧ Aside0 (c + kq = 8) ∧ Aside0 (w'.heap[g]? = some (.cells cs 101 (0, 0))) ∧ Aside0 (w'.heap[g2]? = some (.cells cs0 101 (0, 0))) ∧ Aside0 (w'.heap[gt]? = some (.cells ct 54 (0, 0))) ∧ Aside0 (Sta (fun n => if n < 8 * c then mixF ml f n else f n) cs) ∧ Aside0 (Below g w w'))
 case atStart => exact ⟨0, _, rfl, ⟨rfl⟩, HS, B0, HT, ⟨HF.out.congr (fun n _ => by rw [if_neg (by omega)])⟩, HB⟩
 case round =>
  clear HS HB B0 HI HF HT
  obtain ⟨c, cs, rfl, HM, HS, B0, HT, HW, HB⟩ := hrel
  cases gk with
  | zero =>
   obtain rfl : c = 8 := by have := HM.out; omega
   go_wp2
   go_end0
   exact ⟨rfl, ⟨cs, HS.out, HW.out.congr (fun n hn => by rw [if_pos (by omega)])⟩, HB.out⟩
  | succ k2 =>
   have hc : c < 8 := by have := HM.out; omega
   have HC := Aside0.mk hc
   have d0 : decide ((c : Int) < 8) = true := decide_eq_true (by omega)
   have d1 : decide (c < 8) = true := decide_eq_true hc
   clear hc
   go_wp2
   obtain ⟨wo, rfl⟩ : ∃ wo : World, wo = wr := ⟨_, rfl⟩
   go_loopg [16] 8 (fun kq v16 w' => ∃ (r : Nat) (cs : Array Value), v16 = .int .i64 (r : Int) ∧ Aside0 (r + kq = 8) ∧ Aside0 (w'.heap[g]? = some (.cells cs 101 (0, 0))) ∧ Aside0 (w'.heap[g2]? = some (.cells cs0 101 (0, 0))) ∧ Aside0 (w'.heap[gt]? = some (.cells ct 54 (0, 0))) ∧ Aside0 (Sta (fun n => if n < 8 * c + r then mixF ml f n else f n) cs) ∧ Aside0 (Below g w w'))
   case atStart => exact ⟨0, _, rfl, ⟨rfl⟩, HS, B0, HT, HW, HB⟩
   case round =>
    clear HS HB B0 HW HT
    obtain ⟨r, cs, rfl, HR, HS, B0, HT, HW, HB⟩ := hrel
    cases gk with
    | zero =>
     obtain rfl : r = 8 := by have := HR.out; omega
     go_wp2
     go_roundg k2
     case measure => omega
     case rel =>
      have hc := HC.out
      exact ⟨c + 1, cs, by rw [step_1 (by omega)], ⟨by have := HM.out; omega⟩, HS, B0, HT, HW, HB⟩
    | succ k3 =>
     have hr : r < 8 := by have := HR.out; omega
     have HR8 := Aside0.mk hr
     have d2 : decide ((r : Int) < 8) = true := decide_eq_true (by omega)
     have d3 : decide (r < 8) = true := decide_eq_true hr
     clear hr
     go_wp2_with (first
      | ((with_reducible refine gate_callee (f := 27) rfl ?_); refine goesL_ (some 19) rfl rfl Try.func27 (by kernel_rfl) rfl #[] rfl (by (try simp only [List.map_toArray, List.map_cons, List.map_nil]); first | done | rfl) ?_; (with_reducible refine (perm_mixing.calls 2 2 3 4 5 3 5 7 _ rfl).mono ?_); rintro e w11 ⟨rfl, hb⟩; refine ⟨_, rfl, ?_⟩; replace HS := Aside0.mk (blk_below HS.out hb); replace B0 := Aside0.mk (blk_below B0.out hb); replace HT := Aside0.mk (blk_below HT.out hb); replace HB := Aside0.mk (below_far HB.out HGW.out hb); clear hb)
      | (go_at_call 27; (with_reducible refine (perm_mixing.calls 2 2 3 4 5 3 5 7 _ rfl).mono ?_); rintro e w11 ⟨rfl, hb⟩; replace HS := Aside0.mk (blk_below HS.out hb); replace B0 := Aside0.mk (blk_below B0.out hb); replace HT := Aside0.mk (blk_below HT.out hb); replace HB := Aside0.mk (below_far HB.out HGW.out hb); clear hb))
     go_loopg [7, 20] 8 (fun kq v7 v20 w' => ∃ k : Nat, v20 = .int .i64 (k : Int) ∧ v7 = .int .u8 (mixP ml f (8 * c + r) k : Int) ∧ Aside0 (k + kq = 8) ∧ Aside0 (w'.heap[g]? = some (.cells cs 101 (0, 0))) ∧ Aside0 (w'.heap[g2]? = some (.cells cs0 101 (0, 0))) ∧ Aside0 (w'.heap[gt]? = some (.cells ct 54 (0, 0))) ∧ Aside0 (Below g w w'))
     case atStart => exact ⟨0, rfl, rfl, ⟨rfl⟩, HS, B0, HT, HB⟩
     case round =>
      clear HS HB B0 HT
      obtain ⟨k, rfl, rfl, HK, HS, B0, HT, HB⟩ := hrel
      cases gk with
      | zero =>
       obtain rfl : k = 8 := by have := HK.out; omega
       have hc := HC.out
       have hr := HR8.out
       have LT := Aside0.mk (idx_64 hc hr)
       obtain ⟨x, ex⟩ : ∃ x : Nat, x = mixP ml f (8 * c + r) 8 := ⟨_, rfl⟩
       have X8 := Aside0.mk (show x < 256 from ex ▸ mixP_lt M8.out HF0.out.lt LT.out (Nat.le_refl _))
       have EX := Aside0.mk ex
       rw [← ex]
       have hcell : wr.cell? ⟨g, 8 * c + r, none⟩ = some (.int .u8 ((if 8 * c + r < 8 * c + r then mixF ml f (8 * c + r) else f (8 * c + r) : Nat) : Int)) := (blk_cell HS.out _).trans (HW.out.cell _ LT.out)
       generalize ((if 8 * c + r < 8 * c + r then mixF ml f (8 * c + r) else f (8 * c + r) : Nat) : Int) = old at hcell
       have hz : wr.frozen? ⟨g, 8 * c + r, none⟩ = false := blk_frozen HS.out _
       have p1 := idx_lt hc hr
       have p3 := idx_ge hc hr
       have s0 := idx_w0 hc
       have s1 := idx_w1 hc hr
       have t0 := idx_nat c r
       have q0 := (i64_w _).symm.trans (idx_w0 hc)
       have q1 := (i64_w _).symm.trans (idx_w1 hc hr)
       clear hc hr ex
       go_wp2
       clear s0 s1 q0 q1 p1 p3 t0 hcell hz
       go_roundg k3
       case measure => omega
       case rel =>
        have hc := HC.out
        have hr := HR8.out
        refine ⟨r + 1, _, by rw [step_1 (by omega)], ⟨by have := HR.out; omega⟩, ⟨blk_put HS.out (8 * c + r) _ rfl⟩, ⟨blk_far B0.out (Ne.symm NG.out) _⟩, ⟨blk_far HT.out (Nat.ne_of_lt TG.out) _⟩, ⟨HW.out.set LT.out X8.out rfl (fun n hn => ?_)⟩, ⟨HB.out.setCell (Nat.le_refl _) _⟩⟩
        by_cases e : n = 8 * c + r
        · subst e
          rw [if_pos (by omega), if_pos rfl]
          exact EX.out.symm
        · rw [if_neg e]
          by_cases e2 : n < 8 * c + r
          · rw [if_pos (by omega), if_pos e2]
          · rw [if_neg (by omega), if_neg e2]
      | succ k4 =>
       have hk : k < 8 := by have := HK.out; omega
       have HK8 := Aside0.mk hk
       have hc := HC.out
       have hr := HR8.out
       have d4 : decide ((k : Int) < 8) = true := decide_eq_true (by omega)
       have d5 : decide (k < 8) = true := decide_eq_true hk
       have q0 : ((k : Int) < 8) = True := eq_true (by omega)
       have hq : mixL[k]'HK8.out ∈ mixL := List.getElem_mem HK8.out
       obtain ⟨q, eq⟩ : ∃ q : Nat, q = mixL[k]'HK8.out := ⟨_, rfl⟩
       have HQ := Aside0.mk eq
       have hq7 : q ∈ mixL := eq ▸ hq
       have HQM := Aside0.mk hq7
       have q1 : ((q : Int) < 8) = True := eq_true (by have := (mixL_le hq7).2.1; omega)
       have q2 : decide (q < 8) = true := decide_eq_true (by have := (mixL_le hq7).2.1; omega)
       obtain ⟨d, hd⟩ : ∃ d : Nat, d = (r + k) % 8 := ⟨_, rfl⟩
       have HD := Aside0.mk hd
       have hd8 := idx_m8 hd
       have LT := Aside0.mk (idx_64 hc hr)
       have LF := Aside0.mk (idx_64 hc hd8)
       obtain ⟨b, eb⟩ : ∃ b : Nat, b = f (8 * c + d) := ⟨_, rfl⟩
       have hb8 : b < 256 := eb ▸ HF0.out.lt _ LF.out
       have b8 : ((b : Int) < 256) = True := eq_true (by omega)
       have HBE := Aside0.mk eb
       have HB8 := Aside0.mk hb8
       obtain ⟨x, ex⟩ : ∃ x : Nat, x = mixP ml f (8 * c + r) k := ⟨_, rfl⟩
       have X8 := Aside0.mk (show x < 256 from ex ▸ mixP_lt M8.out HF0.out.lt LT.out (Nat.le_of_lt hk))
       have EX := Aside0.mk ex
       rw [← ex]
       obtain ⟨y, ey⟩ : ∃ y : Nat, y = ml q b := ⟨_, rfl⟩
       have Y8 := Aside0.mk (show y < 256 from ey ▸ M8.out _ _ hb8 hq7)
       have EY := Aside0.mk ey
       have hw : wr.cell? ⟨g2, 8 * c + d, none⟩ = some (.int .u8 (b : Int)) := (blk_cell B0.out _).trans (eb ▸ HF0.out.cell _ LF.out)
       have hv : wr.cell? ⟨gt, 512 + q * 256 + b, none⟩ = some (.int .u8 (y : Int)) := (blk_cell HT.out _).trans (by have t := TB.out.times b q hb8 hq7; rw [Nat.mul_comm 256 q, ← ey] at t; exact t)
       have HX := Aside0.mk (u8_xor x y X8.out Y8.out)
       clear hq hq7 eq
       go_wp2_with (first
        | ((with_reducible refine gate_dst (N := 23) rfl ?_); refine Kd.event_run (v := .int .u8 (q : Int)) rfl (HQ.out ▸ mix_index HK8.out _ _ rfl rfl rfl) ?_))
       have e1 := idx_sumw hr hk
       have e2 := idx_mod hd
       have e3 := idx_tmod hd
       have p2 := idx_lt hc hd8
       have p4 := idx_ge hc hd8
       have s2 := idx_w0 hc
       have s3 := idx_w1 hc hd8
       have t1 := idx_nat c d
       clear hc hr hk hd8 hd eb hb8 ex ey
       go_still_tail 17, (by kernel_rfl)
       change wpList _ _ _ _ _ wr.drew
       clear e1 e2 e3 s2 s3 p2 p4 t1 hw hv
       replace HS := Aside0.mk (blk_drew HS.out)
       replace B0 := Aside0.mk (blk_drew B0.out)
       replace HT := Aside0.mk (blk_drew HT.out)
       replace HB := Aside0.mk (below_drew1 HB.out)
       generalize wr.drew = w4 at HS HB B0 HT ⊢
       go_wp2
       go_roundg k4
       case measure => omega
       case rel =>
        have hk := HK8.out
        have hr := HR8.out
        refine ⟨k + 1, by rw [step_1 (by omega)], ?_, ⟨by have := HK.out; omega⟩, HS, B0, HT, HB⟩
        show Value.int .u8 _ = Value.int .u8 (((mixP ml f (8 * c + r) k ^^^ ml (mixL.getD k 0) (f (8 * ((8 * c + r) / 8) + ((8 * c + r) % 8 + k) % 8)) : Nat)) : Int)
        rw [mixL_getD hk, ← HQ.out, ← EX.out, show (8 * c + r) / 8 = c by omega, show (8 * c + r) % 8 = r by omega, ← HD.out, ← HBE.out, ← EY.out, HX.out]
end Go.Proofs.Ytaffpnnhoagmaaa.P
