/- An element again and again (slices.Repeat of a list of one element). Conditions: the list has one element, the count is from 0 to 65536. -/
import Derived.Test.YtceneggampgboaaPx0
import Derived.Test.YtceneggampgboaaHCopy
import Derived.Test.YtceneggampgboaaBrBits
import Derived.Test.YtceneggampgboaaPx18
import Derived.Lib.SliceRun
set_option linter.unusedVariables false
set_option linter.unusedSimpArgs false
namespace Go.Proofs.Ytceneggampgboaa.P
open Go.RowKit Go.Proofs.YtceneggampgboaaX Go.Proofs.YtceneggampgboaaW.PrintWords Go.Proofs.YtceneggampgboaaW.PrintLast Go.Proofs.YtceneggampgboaaW.PrintMore
/-- The rounds: what is copied doubles. -/
def api_Elem.l0 : Nat → Nat → Nat → Option Unit
  | 0, _, _ => none
  | k + 1, c, n => if c < n then api_Elem.l0 k (c + min c (n - c)) n else some ()
def api_Elem.f (k : Nat) (l0 : List S25) (a1 : Int) : Option (List S25) :=
  if l0.length = 1 then if 0 ≤ a1 then if a1 ≤ 65536 then (api_Elem.l0 k (min 1 a1.toNat) a1.toNat).bind fun _ => some (List.replicate a1.toNat (rd_T25 l0 0)) else none else none else none
theorem api_Elem.mono_l : ∀ k c n, LeO (api_Elem.l0 k c n) (api_Elem.l0 (k + 1) c n)
  | 0, c, n => fun r h => by simp [api_Elem.l0] at h
  | k + 1, c, n => by
    unfold api_Elem.l0
    exact LeO.ite (api_Elem.mono_l k _ _) (LeO.refl _)
theorem api_Elem.mono : ∀ a0 a1 k, LeO (api_Elem.f k a0 a1) (api_Elem.f (k + 1) a0 a1) := by
  intro a0 a1 k
  unfold api_Elem.f
  exact LeO.ite (LeO.ite (LeO.ite (LeO.bind (api_Elem.mono_l k _ _) (fun _ => LeO.refl _)) (LeO.none _)) (LeO.none _)) (LeO.none _)
theorem api_Elem.KM {w w' : World} {base : Nat} {ok : Nat → Prop} {x : S25} {cs : List Value} (h : k25.K w x cs) : k25.M w' base ok x cs := by
  rw [k25_open h]
  exact k25_mkM w' base ok x
theorem api_Elem.mul (m : Nat) (h : m ≤ 65536) : bits_Mul.f 1 (m : Int) = some (0, (m : Int)) := by
  have a1 : Go.bits .and .u64 (m : Int) 4294967295 = (m : Int) := by
    have := Br.bits_and m (2 ^ 32 - 1) (by omega) (by decide)
    rw [Nat.and_two_pow_sub_one_eq_mod, Nat.mod_eq_of_lt (by omega)] at this
    exact this
  have a0 : Go.bits .and .u64 (1 : Int) 4294967295 = 1 := by decide +kernel
  have a2 : Go.bits .and .u64 (0 : Int) 4294967295 = 0 := by decide +kernel
  have d1 : (m : Int) / 4294967296 = 0 := by omega
  have z : IntKind.u64.wrap 0 = 0 := by decide
  have w : IntKind.u64.wrap (m : Int) = (m : Int) := Br.wrap_u64 m (by omega)
  unfold bits_Mul.f bits_Mul64.f
  simp only [d1, a0, a1, show (1 : Int) / 4294967296 = 0 by decide, Int.zero_mul, Int.mul_zero, Int.one_mul, z, w, Int.zero_add, Int.add_zero, a2, show (0 : Int) / 4294967296 = 0 by decide, Option.bind_some]
/-- What stands in the row when c elements of n are copied. -/
theorem api_Elem.row0 {n : Nat} (x : S25) (l0 : List S25) (h1 : l0.length = 1) (hx : x = rd_T25 l0 0) (z : S25) :
    (List.replicate n z).take 0 ++ l0.take (min 1 n) ++ (List.replicate n z).drop (0 + min 1 n) = List.replicate (min 1 n) x ++ List.replicate (n - min 1 n) z := by
  obtain ⟨y, rfl⟩ := List.length_eq_one_iff.1 h1
  subst hx
  rw [List.take_zero, List.nil_append, List.drop_replicate, Nat.zero_add]
  rcases Nat.eq_zero_or_pos n with rfl | hn
  · rfl
  · rw [Nat.min_eq_left hn]
    rfl
theorem api_Elem.row1 {c n : Nat} (h : c ≤ n) (x z : S25) :
    (List.replicate c x ++ List.replicate (n - c) z).take c ++ ((List.replicate c x ++ List.replicate (n - c) z).take c).take (min c (n - c)) ++ (List.replicate c x ++ List.replicate (n - c) z).drop (c + min c (n - c)) = List.replicate (c + min c (n - c)) x ++ List.replicate (n - (c + min c (n - c))) z := by
  rw [List.take_append_of_le_length (by rw [List.length_replicate]; exact Nat.le_refl _), List.take_of_length_le (by rw [List.length_replicate]; exact Nat.le_refl _), List.take_replicate, List.drop_append, List.length_replicate, List.drop_replicate, List.drop_replicate]
  rw [show c - (c + min c (n - c)) = 0 by omega, List.replicate_zero, List.nil_append, show min (min c (n - c)) c = min c (n - c) by omega, ← List.replicate_append_replicate]
  rw [show n - c - (c + min c (n - c) - c) = n - (c + min c (n - c)) by omega]
theorem api_Elem.w64 (m : Nat) (h : m ≤ 200000) : IntKind.i64.wrap (m : Int) = (m : Int) := by
  rw [i64_w]
  unfold wrap64
  omega
theorem kread {w : World} {base : Nat} {ok : Nat → Prop} {g n cap : Nat} {xs : List S25} (h : Kd.R k25 25 w base ok (.slice (some ⟨g, 0, none⟩) n cap) xs) (c : Nat) (hc : c ≤ xs.length) : Kd.C k25 w (some ⟨g, 0, none⟩) c (xs.take c) := by
  have h1 := (Kd.R_reads' h).2.2
  refine ⟨by rw [List.length_take]; omega, by have := h1.2.1; omega, fun hp => ?_⟩
  obtain ⟨ad, e, hq⟩ := h1.2.2 (by omega)
  refine ⟨ad, e, fun j p hj => hq j p ?_⟩
  rw [List.getElem?_take] at hj
  split at hj
  · exact hj
  · cases hj
set_option maxHeartbeats 4000000 in
set_option maxRecDepth 100000 in
theorem api_Elem.calls (k : Nat) (A0 : Option Addr) (c0 : Nat) (l0 : List S25) (a1 : Int) (r : List S25) (w : World) (hr0 : Kd.C k25 w A0 l0.length l0) (hc0 : l0.length ≤ c0) (h : api_Elem.f k l0 a1 = some r) :
    Calls Try.prog 49 #[.slice A0 l0.length c0, .int .i64 a1] w fun e w' => ∃ v0_ : Value, e = .returned (v0_) ∧ Kd.R k25 25 w' w.heap.size (fun _ => True) v0_ r ∧ Below w.heap.size w w' := by
  unfold api_Elem.f at h
  by_cases h1 : l0.length = 1
  · rw [if_pos h1] at h
    by_cases h2 : 0 ≤ a1
    · rw [if_pos h2] at h
      by_cases h3 : a1 ≤ 65536
      · rw [if_pos h3] at h
        obtain ⟨n, rfl⟩ := Int.eq_ofNat_of_zero_le h2
        have h3 : n ≤ 65536 := by omega
        rw [Int.toNat_natCast] at h
        obtain ⟨u, hl, h⟩ := Option.bind_eq_some_iff.mp h
        obtain rfl := Option.some.inj h
        clear h h2
        obtain ⟨ad, rfl, _⟩ := hr0.2.2 (by omega)
        rw [h1] at hr0 hc0 ⊢
        have HR := Aside0.mk hr0
        have HL := Aside0.mk hl
        have HN := Aside0.mk h3
        have H1 := Aside0.mk h1
        clear hr0 hl h3 h1
        have HB := Aside0.mk (Below.refl w.heap.size w)
        have d1 : decide ((n : Int) < 0) = false := decide_eq_false (by omega)
        have d2 : decide ((n : Int) > 9223372036854775807) = false := decide_eq_false (by have := HN.out; omega)
        have d3 : decide ((0 : Int) > 0) = false := rfl
        have w1 : IntKind.u64.wrap (n : Int) = (n : Int) := Br.wrap_u64 n (by have := HN.out; omega)
        have w2 : IntKind.i64.wrap (n : Int) = (n : Int) := api_Elem.w64 n (by have := HN.out; omega)
        go_enter Try.func49, Try.ntmps49
        go_wp2_with (first
          | ((with_reducible refine gate_callee (f := 54) rfl ?_); refine goesL_ (some 18) rfl rfl Try.func54 (by kernel_rfl) rfl #[.int .u64 1, .int .u64 n] rfl (by (try simp only [List.map_toArray, List.map_cons, List.map_nil]); first | done | rfl | (simp; done)) ?_; (with_reducible refine (bits_Mul.calls 1 n 0 n _ (api_Elem.mul n HN.out)).mono ?_); rintro e w' ⟨rfl, ⟨nd, rfl⟩⟩; refine ⟨_, rfl, ?_⟩)
          | ((with_reducible refine gate_dst (N := 30) rfl ?_); refine Kd.R_make k25 (w0 := w) w.heap.size 25 rfl (N := 30) rfl 22 _ _ rfl (n : Int) rfl rfl Try.underlying22 (.agg #[.int .u64 0, .int .u64 0]) 16 info25 rfl (by decide) (by omega) (⟨0, 0⟩ : S25) (ok := fun _ => True) (okp := fun _ => True) (k25_mkM _ _ _ _) (fun _ hk => hk) trivial (by omega) (by have := HN.out; rw [Int.toNat_natCast]; omega) (bq HB.out) (below_size (bq HB.out)) ?_; intro v30 w30 ho hb hg hat; rw [Int.toNat_natCast] at ho; obtain ⟨g, hgb, hgw⟩ := hat; obtain ⟨cap, rfl, hcap, hmax⟩ := H.R_at ho hgb; rw [List.length_replicate] at ho hcap ⊢; have HO := Aside0.mk ho; replace HB := Aside0.mk hb; replace HR := Aside0.mk (Kd.C_below HR.out hb); clear ho hb hg hgb hgw)
          | ((with_reducible refine gate_builtin (b := .copy) (xs := #[.tmp 31, .tmp 32]) rfl ?_); refine H.R_copy_event api_Elem.KM (w0 := w) w.heap.size rfl (.tmp 31) (.tmp 32) 22 22 25 rfl Try.underlying22 (by first | rfl | (rw [info25]; rfl)) (g := g) (cap := cap) (p := 0) (n' := n) (c' := cap) (m := 1) (c := c0) (xs := List.replicate n (⟨0, 0⟩ : S25)) (ys := l0) (ad := ad) (ok := fun _ => True) List.length_replicate (by rfl) (by rfl) HO.out (Nat.zero_add n) HR.out HB.out (below_size HB.out) ?_; intro w33 ho hb hg; have HO := Aside0.mk ho; replace HB := Aside0.mk hb; clear ho hb hg))
        replace HO := Aside0.mk (api_Elem.row0 _ l0 H1.out rfl ⟨0, 0⟩ ▸ HO.out)
        go_loopg [8] k (fun kq v8 w' => ∃ c : Nat, v8 = .int .i64 (c : Int) ∧ Aside0 (api_Elem.l0 kq c n = some u) ∧ Aside0 (kq ≤ k) ∧ Aside0 (c ≤ n ∧ (n = 0 ∨ 0 < c)) ∧ Aside0 (Kd.R k25 25 w' w.heap.size (fun _ => True) (.slice (some ⟨g, 0, none⟩) n cap) (List.replicate c (rd_T25 l0 0) ++ List.replicate (n - c) (⟨0, 0⟩ : S25))) ∧ Aside0 (Below w.heap.size w w'))
        case atStart => exact ⟨min 1 n, rfl, HL, ⟨Nat.le_refl _⟩, ⟨by omega⟩, HO, HB⟩
        case round =>
          clear HL HO HB HR
          obtain ⟨c, rfl, HA, HK1, HC, HO, HB⟩ := hrel
          cases gk with
          | zero => exact absurd HA.out (by simp [api_Elem.l0])
          | succ k1 =>
            have H := HA.out
            clear HA
            simp only [api_Elem.l0] at H
            by_cases c1 : c < n
            · rw [if_pos c1] at H
              have H' := Aside0.mk H
              clear H
              have c1b : decide ((c : Int) < (n : Int)) = true := decide_eq_true (by omega)
              have HR := Aside0.mk (Kd.R_reads' HO.out).2.2
              go_wp2_with fail
              refine start_ (n := 10) (S := fun _ => True) (ds := []) #[false, false, false, false, false, false, false, false, false, false] (by kernel_rfl) rfl rfl trivial (fun _ => ?_)
              replace HO := Aside0.mk (kr (w' := wr.drew) HO.out)
              replace HB := Aside0.mk (bq (w' := wr.drew) HB.out)
              have hcn : c ≤ n := Nat.le_of_lt c1
              have hcc : ¬ cap = c := by omega
              have hcp : c ≤ cap := by omega
              refine pure_ (i := 0) (N := some 38) (v := ?_) (a' := ?_) #[true, false, false, false, false, false, false, false, false, false] rfl rfl (by kernel_rfl) (fun _ _ _ h => h) (Or.inl ⟨by rfl, ?_⟩) ?_ ?_
              rotate_left
              · intro w'
                go_simp
                with_reducible rfl
              rotate_left
              · simp only [Act.put, List.setIfInBounds_toArray, List.set_cons_zero, List.set_cons_succ]
                rfl
              refine pure_ (i := 1) (N := some 39) (v := ?_) (a' := ?_) #[true, true, false, false, false, false, false, false, false, false] rfl rfl (by kernel_rfl) (fun _ _ _ h => h) (Or.inl ⟨by rfl, ?_⟩) ?_ ?_
              rotate_left
              · intro w'
                go_simp
                with_reducible rfl
              rotate_left
              · simp only [Act.put, List.setIfInBounds_toArray, List.set_cons_zero, List.set_cons_succ]
                rfl
              refine pure_ (i := 2) (N := some 40) (v := ?_) (a' := ?_) #[true, true, true, false, false, false, false, false, false, false] rfl rfl (by kernel_rfl) (fun _ _ _ h => h) (Or.inl ⟨by rfl, ?_⟩) ?_ ?_
              rotate_left
              · intro w'
                go_simp
                with_reducible rfl
              rotate_left
              · simp only [Act.put, List.setIfInBounds_toArray, List.set_cons_zero, List.set_cons_succ]
                rfl
              refine pure_ (i := 3) (N := some 41) (v := ?_) (a' := ?_) #[true, true, true, true, false, false, false, false, false, false] rfl rfl (by kernel_rfl) (fun _ _ _ h => h) (Or.inl ⟨by rfl, ?_⟩) ?_ ?_
              rotate_left
              · intro w'
                go_simp
                with_reducible rfl
              rotate_left
              · simp only [Act.put, List.setIfInBounds_toArray, List.set_cons_zero, List.set_cons_succ]
                rfl
              refine pure_ (i := 4) (N := some 42) (v := ?_) (a' := ?_) #[true, true, true, true, true, false, false, false, false, false] rfl rfl (by kernel_rfl) (fun _ _ _ h => h) (Or.inl ⟨by rfl, ?_⟩) ?_ ?_
              rotate_left
              · intro w'
                go_simp
                with_reducible rfl
              rotate_left
              · simp only [Act.put, List.setIfInBounds_toArray, List.set_cons_zero, List.set_cons_succ]
                rfl
              refine pure_ (i := 5) (N := some 43) (v := ?_) (a' := ?_) #[true, true, true, true, true, true, false, false, false, false] rfl rfl (by kernel_rfl) (fun _ _ _ h => h) (Or.inl ⟨by rfl, ?_⟩) ?_ ?_
              rotate_left
              · intro w'
                go_simp
                with_reducible rfl
              rotate_left
              · simp only [Act.put, List.setIfInBounds_toArray, List.set_cons_zero, List.set_cons_succ]
                rfl
              refine pure_ (i := 6) (N := some 44) (v := ?_) (a' := ?_) #[true, true, true, true, true, true, true, false, false, false] rfl rfl (by kernel_rfl) (fun _ _ _ h => h) (Or.inl ⟨by rfl, ?_⟩) ?_ ?_
              rotate_left
              · intro w'
                go_simp
                with_reducible rfl
              rotate_left
              · simp only [Act.put, List.setIfInBounds_toArray, List.set_cons_zero, List.set_cons_succ]
                rfl
              refine one_ (i := 7) (N := some 45) #[true, true, true, true, true, true, true, true, false, false] rfl rfl (by kernel_rfl) (by decide) (fun K hK => ?_)
              have HR := Aside0.mk (kread HO.out c (by rw [List.length_append, List.length_replicate, List.length_replicate]; omega))
              obtain ⟨w1, hr, h1, h2, h3⟩ := H.R_copy_run (P := Try.prog) api_Elem.KM (w0 := w) w.heap.size 22 22 3 25 Try.underlying22 (by first | rfl | (rw [info25]; rfl)) (g := g) (cap := cap) (o := c) (n' := n - c) (c' := cap - c) (m := c) (c := cap) (nx := n) (by rw [List.length_append, List.length_replicate, List.length_replicate]; omega) HO.out (by omega) HR.out HB.out (below_size HB.out)
              rw [if_pos (by rfl)]
              refine H.R_copy_oper (.tmp 41) (.tmp 44) 22 22 rfl (by rfl) (by rfl) (N := some 45) rfl (ty := 3) rfl hr (hK.out _ _ trivial (fun _ => ?_))
              clear hK K hr HR
              replace HO := Aside0.mk (api_Elem.row1 hcn (rd_T25 l0 0) ⟨0, 0⟩ ▸ h1)
              replace HB := Aside0.mk h2
              clear h1 h2 h3
              have w3 : IntKind.i64.wrap ((c : Int) + ((min c (n - c) : Nat) : Int)) = ((c + min c (n - c) : Nat) : Int) := by have := HN.out; rw [show (c : Int) + ((min c (n - c) : Nat) : Int) = ((c + min c (n - c) : Nat) : Int) by omega]; exact api_Elem.w64 _ (by omega)
              refine pure_ (i := 8) (N := some 46) (v := ?_) (a' := ?_) #[true, true, true, true, true, true, true, true, true, false] rfl rfl (by kernel_rfl) (fun _ _ _ h => h) (Or.inl ⟨by rfl, ?_⟩) ?_ ?_
              rotate_left
              · intro w'
                go_simp
                try rw [w3]
                with_reducible rfl
              rotate_left
              · simp only [Act.put, List.setIfInBounds_toArray, List.set_cons_zero, List.set_cons_succ]
                rfl
              refine pure_ (i := 9) (N := some 8) (v := ?_) (a' := ?_) #[true, true, true, true, true, true, true, true, true, true] rfl rfl (by kernel_rfl) (fun _ _ _ h => h) (Or.inl ⟨by rfl, ?_⟩) ?_ ?_
              rotate_left
              · intro w'
                go_simp
                with_reducible rfl
              rotate_left
              · simp only [Act.put, List.setIfInBounds_toArray, List.set_cons_zero, List.set_cons_succ]
                rfl
              refine done_ (by kernel_rfl) ?_
              try go_wp2
              go_roundg k1
              case measure => have := HK1.out; omega
              case rel => exact ⟨c + min c (n - c), by first | rfl | (simp; done), H', ⟨by have := HK1.out; omega⟩, ⟨by have := HC.out; omega⟩, HO, HB⟩
            · rw [if_neg c1] at H
              have c1b : decide ((c : Int) < (n : Int)) = false := decide_eq_false (by omega)
              go_wp2
              go_ret
              obtain rfl : c = n := by have := HC.out; omega
              refine ⟨_, rfl, ?_, HB.out⟩
              have := HO.out
              rw [Nat.sub_self, List.replicate_zero, List.append_nil] at this
              exact this
      · rw [if_neg h3] at h
        cases h
    · rw [if_neg h2] at h
      cases h
  · rw [if_neg h1] at h
    cases h
end Go.Proofs.Ytceneggampgboaa.P
