/- Short names for what printed texts say often. Conditions: none. -/
import Derived.Test.YtmibjgjgfombaaaPx0
namespace Go.Proofs.YtmibjgjgfombaaaX
open Go.RowKit Go.Proofs.YtmibjgjgfombaaaW.PrintWords
theorem sA {α : Type} {l : List α} {i : Nat} {a : α} : l.toArray.setIfInBounds i a = (l.set i a).toArray := List.setIfInBounds_toArray ..
theorem s0 {α : Type} {x y : α} {l : List α} : (x :: l).set 0 y = y :: l := List.set_cons_zero
theorem sS {α : Type} {x y : α} {l : List α} {n : Nat} : (x :: l).set (n + 1) y = x :: l.set n y := List.set_cons_succ
theorem bc {w : World} {g : Nat} {cs : Array Value} {t : TypeId} (h : Aside0 (w.heap[g]? = some (.cells cs t (0, 0)))) (i : Nat) {v : Value} (hv : cs[i]? = some v) : w.cell? ⟨g, i, none⟩ = some v := (blk_cell h.out i).trans hv
theorem mA {α β : Type} {f : α → β} {l : List α} : l.toArray.map f = (l.map f).toArray := List.map_toArray ..
theorem mC {α β : Type} {f : α → β} {a : α} {l : List α} : (a :: l).map f = f a :: l.map f := List.map_cons ..
theorem mN {α β : Type} {f : α → β} : [].map f = [] := List.map_nil
abbrev yy : Bool := true
abbrev nn : Bool := false
end Go.Proofs.YtmibjgjgfombaaaX
