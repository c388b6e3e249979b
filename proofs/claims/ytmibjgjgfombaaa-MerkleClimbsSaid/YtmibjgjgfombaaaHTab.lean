/- The cells of a byte's tables while they are made (perm.Make). Conditions: those that each theorem names. -/
import Derived.Test.YtmibjgjgfombaaaPx2
import Derived.KernelRfl
set_option linter.unusedVariables false
set_option linter.unusedSimpArgs false
set_option maxRecDepth 100000
namespace Go.Proofs.Ytmibjgjgfombaaa.P
open Go.RowKit Go.Proofs.YtmibjgjgfombaaaX Go.Proofs.YtmibjgjgfombaaaW.PrintWords Go.Proofs.YtmibjgjgfombaaaW.PrintLast Go.Proofs.YtmibjgjgfombaaaW.PrintMore
/-- The cells of empty tables. -/
def zTab : Array Value := (List.replicate 2560 (Value.int .u8 0)).toArray
theorem zTab_size : zTab.size = 2560 := by rw [zTab, List.size_toArray, List.length_replicate]
theorem zTab_at {n : Nat} (h : n < 2560) : zTab[n]? = some (.int .u8 0) := by
  rw [zTab, List.getElem?_toArray, List.getElem?_replicate, if_pos h]
theorem zTab_info : (Try.prog.info? 67).map (fun i => (i.zero, i.size)) = some (some (.agg zTab), 2560) := by kernel_rfl
def mixL : List Nat := [2, 2, 3, 4, 5, 3, 5, 7]
theorem mixL_le {k : Nat} (h : k ∈ mixL) : 2 ≤ k ∧ k ≤ 7 ∧ k ≠ 6 := by
  simp only [mixL, List.mem_cons, List.not_mem_nil, or_false] at h
  omega
/-- Tables in the making: boxes below nb, their way back below nu, products below nt by all, and of nt by the first j. -/
structure Tab (bx : Nat → Nat) (ml : Nat → Nat → Nat) (nb nu nt j : Nat) (cs : Array Value) : Prop where
  size : cs.size = 2560
  cell : ∀ n, n < 2560 → ∃ v, cs[n]? = some (.int .u8 v)
  box : ∀ b, b < nb → cs[b]? = some (.int .u8 (bx b : Int))
  back : ∀ b, b < nu → cs[256 + bx b]? = some (.int .u8 (b : Int))
  times : ∀ b k, b < nt → k ∈ mixL → cs[512 + 256 * k + b]? = some (.int .u8 (ml k b : Int))
  part : ∀ k, k ∈ mixL.take j → cs[512 + 256 * k + nt]? = some (.int .u8 (ml k nt : Int))
  zero : ∀ b k, b < 256 → (k = 0 ∨ k = 1 ∨ k = 6) → cs[512 + 256 * k + b]? = some (.int .u8 0)
theorem Tab.start (bx : Nat → Nat) (ml : Nat → Nat → Nat) : Tab bx ml 0 0 0 0 zTab :=
  ⟨zTab_size, fun n h => ⟨0, zTab_at h⟩, fun b h => absurd h (by omega), fun b h => absurd h (by omega), fun b k h => absurd h (by omega), fun k h => by rw [List.take_zero] at h; exact absurd h List.not_mem_nil, fun b k h hk => zTab_at (by omega)⟩
theorem set_at {cs : Array Value} {n : Nat} {v : Value} (h : n < cs.size) : (cs.setIfInBounds n v)[n]? = some v := by
  rw [Array.getElem?_setIfInBounds_self, if_pos h]
theorem set_ne {cs : Array Value} {n m : Nat} {v : Value} (h : n ≠ m) : (cs.setIfInBounds n v)[m]? = cs[m]? := Array.getElem?_setIfInBounds_ne h
theorem set_some {cs : Array Value} {n : Nat} {x : Int} (hz : cs.size = 2560) (h : ∀ n, n < 2560 → ∃ v, cs[n]? = some (.int .u8 v)) : ∀ m, m < 2560 → ∃ v, (cs.setIfInBounds n (.int .u8 x))[m]? = some (.int .u8 v) := by
  intro m hm
  by_cases e : n = m
  · subst e
    exact ⟨x, set_at (by omega)⟩
  · rw [set_ne e]
    exact h m hm
theorem Tab.set_box {bx : Nat → Nat} {ml : Nat → Nat → Nat} {i : Nat} {cs : Array Value} (h : Tab bx ml i i i 0 cs) (hi : i < 256) : Tab bx ml (i + 1) i i 0 (cs.setIfInBounds i (.int .u8 (bx i : Int))) := by
  have hz := h.size
  refine ⟨by rw [Array.size_setIfInBounds]; exact h.size, set_some h.size h.cell, fun b hb => ?_, fun b hb => ?_, fun b k hb hk => ?_, fun k hk => ?_, fun b k hb hk => ?_⟩
  · by_cases e : i = b
    · subst e
      exact set_at (by omega)
    · rw [set_ne e]
      exact h.box b (by omega)
  · rw [set_ne (by omega)]
    exact h.back b hb
  · rw [set_ne (by omega)]
    exact h.times b k hb hk
  · rw [set_ne (by omega)]
    exact h.part k hk
  · rw [set_ne (by omega)]
    exact h.zero b k hb hk
theorem Tab.set_back {bx : Nat → Nat} {ml : Nat → Nat → Nat} {i : Nat} {cs : Array Value} (h : Tab bx ml (i + 1) i i 0 cs) (hi : i < 256) (hb : ∀ b, b < 256 → bx b < 256) (hinj : ∀ b c, b < 256 → c < 256 → bx b = bx c → b = c) : Tab bx ml (i + 1) (i + 1) i 0 (cs.setIfInBounds (256 + bx i) (.int .u8 (i : Int))) := by
  have hz := h.size
  have hbi := hb i hi
  refine ⟨by rw [Array.size_setIfInBounds]; exact h.size, set_some h.size h.cell, fun b hb' => ?_, fun b hb' => ?_, fun b k hb' hk => ?_, fun k hk => ?_, fun b k hb' hk => ?_⟩
  · rw [set_ne (by omega)]
    exact h.box b hb'
  · by_cases e : i = b
    · subst e
      exact set_at (by omega)
    · rw [set_ne (fun e2 => e (hinj i b hi (by omega) (by omega)))]
      exact h.back b (by omega)
  · rw [set_ne (by omega)]
    exact h.times b k hb' hk
  · rw [set_ne (by omega)]
    exact h.part k hk
  · rw [set_ne (by omega)]
    exact h.zero b k hb' hk
theorem Tab.set_times {bx : Nat → Nat} {ml : Nat → Nat → Nat} {i j : Nat} {cs : Array Value} (h : Tab bx ml (i + 1) (i + 1) i j cs) (hi : i < 256) (hb : ∀ b, b < 256 → bx b < 256) (hj : j < mixL.length) : Tab bx ml (i + 1) (i + 1) i (j + 1) (cs.setIfInBounds (512 + 256 * mixL[j] + i) (.int .u8 (ml mixL[j] i : Int))) := by
  have hz := h.size
  have hm : mixL[j] ∈ mixL := List.getElem_mem hj
  have hk7 := mixL_le hm
  generalize hq : mixL[j] = q at *
  refine ⟨by rw [Array.size_setIfInBounds]; exact h.size, set_some h.size h.cell, fun b hb' => ?_, fun b hb' => ?_, fun b k hb' hk => ?_, fun k hk => ?_, fun b k hb' hk => ?_⟩
  · rw [set_ne (by omega)]
    exact h.box b hb'
  · have := hb b (by omega)
    rw [set_ne (by omega)]
    exact h.back b hb'
  · have := mixL_le hk
    rw [set_ne (by omega)]
    exact h.times b k hb' hk
  · by_cases e : q = k
    · subst e
      exact set_at (by omega)
    · rw [set_ne (by omega)]
      refine h.part k ?_
      rw [List.take_add_one, List.getElem?_eq_getElem hj, hq] at hk
      rcases List.mem_append.1 hk with hk | hk
      · exact hk
      · exact absurd (List.mem_singleton.1 hk).symm e
  · rw [set_ne (by omega)]
    exact h.zero b k hb' hk
theorem Tab.round {bx : Nat → Nat} {ml : Nat → Nat → Nat} {i : Nat} {cs : Array Value} (h : Tab bx ml (i + 1) (i + 1) i 8 cs) : Tab bx ml (i + 1) (i + 1) (i + 1) 0 cs := by
  refine ⟨h.size, h.cell, h.box, h.back, fun b k hb hk => ?_, fun k hk => by rw [List.take_zero] at hk; exact absurd hk List.not_mem_nil, h.zero⟩
  by_cases e : b = i
  · subst e
    exact h.part k hk
  · exact h.times b k (by omega) hk
end Go.Proofs.Ytmibjgjgfombaaa.P
