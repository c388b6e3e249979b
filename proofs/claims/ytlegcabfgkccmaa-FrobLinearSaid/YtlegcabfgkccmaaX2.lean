/- Short names for what printed texts say often. Conditions: none. -/
import Derived.Test.YtlegcabfgkccmaaPx0
namespace Go.Proofs.YtlegcabfgkccmaaX
open Go.RowKit Go.Proofs.YtlegcabfgkccmaaW.PrintWords
theorem sA {α : Type} {l : List α} {i : Nat} {a : α} : l.toArray.setIfInBounds i a = (l.set i a).toArray := List.setIfInBounds_toArray ..
theorem s0 {α : Type} {x y : α} {l : List α} : (x :: l).set 0 y = y :: l := List.set_cons_zero
theorem sS {α : Type} {x y : α} {l : List α} {n : Nat} : (x :: l).set (n + 1) y = x :: l.set n y := List.set_cons_succ
theorem bc {w : World} {g : Nat} {cs : Array Value} {t : TypeId} (h : Aside0 (w.heap[g]? = some (.cells cs t (0, 0)))) (i : Nat) {v : Value} (hv : cs[i]? = some v) : w.cell? ⟨g, i, none⟩ = some v := (blk_cell h.out i).trans hv
theorem zc6 {w : World} {g : Nat} {t : TypeId} {a b c d e f : Value} (h : Aside0 (w.heap[g]? = some (.cells #[a, b, c, d, e, f] t (0, 0)))) : w.cell? ⟨g, 0, none⟩ = some a ∧ w.cell? ⟨g, 1, none⟩ = some b ∧ w.cell? ⟨g, 2, none⟩ = some c ∧ w.cell? ⟨g, 3, none⟩ = some d ∧ w.cell? ⟨g, 4, none⟩ = some e ∧ w.cell? ⟨g, 5, none⟩ = some f := ⟨bc h 0 rfl, bc h 1 rfl, bc h 2 rfl, bc h 3 rfl, bc h 4 rfl, bc h 5 rfl⟩
theorem mA {α β : Type} {f : α → β} {l : List α} : l.toArray.map f = (l.map f).toArray := List.map_toArray ..
theorem mC {α β : Type} {f : α → β} {a : α} {l : List α} : (a :: l).map f = f a :: l.map f := List.map_cons ..
theorem mN {α β : Type} {f : α → β} : [].map f = [] := List.map_nil
abbrev yy : Bool := true
abbrev nn : Bool := false
abbrev lv8 (a : Int) : Int := Int.tmod (wrap64 ((Int.tmod a 8) + 8)) 8
abbrev lj8 (a b : Int) : Int := Int.tmod (wrap64 ((wrap64 ((Int.tmod b (wrap64 ((lv8 a) + 1))) + (lv8 a))) + 1)) (wrap64 ((lv8 a) + 1))
end Go.Proofs.YtlegcabfgkccmaaX
