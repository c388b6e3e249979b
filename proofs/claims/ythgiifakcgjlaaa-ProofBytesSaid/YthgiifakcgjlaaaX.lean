/- Short words for what stays when memory is made or an order is drawn. Conditions: those that each theorem names. -/
import Derived.Test.YthgiifakcgjlaaaWWords
namespace Go.Proofs.YthgiifakcgjlaaaX
open Go.RowKit Go.Proofs.YthgiifakcgjlaaaW.PrintWords
/-- A fact that is looked for by its kind. -/
class Aside1 (p : Prop) : Prop where
  out : p
/-- One plain step. -/
class Gs (w' : World) (w : outParam World) : Prop where
  h : Below w.heap.size w w'
instance (w : World) (o : Obj) : Gs (w.alloc o) w := ⟨below_alloc (Below.refl _ _) o⟩
instance (w : World) (n : Nat) : Gs (w.drewN n) w := ⟨pw_below_drewN (Below.refl _ _) n⟩
instance (w : World) : Gs w.drew w := ⟨below_drew1 (Below.refl _ _)⟩
/-- Any number of them. -/
class Gt (w w' : World) : Prop where
  h : Below w.heap.size w w'
instance (w : World) : Gt w w := ⟨Below.refl _ _⟩
instance (w w' : World) (o : Obj) [g : Gt w w'] : Gt w (w'.alloc o) := ⟨below_alloc g.h o⟩
instance (w w' : World) (n : Nat) [g : Gt w w'] : Gt w (w'.drewN n) := ⟨pw_below_drewN g.h n⟩
instance (w w' : World) [g : Gt w w'] : Gt w w'.drew := ⟨below_drew1 g.h⟩
/-- The same, and stores into what is newer than v. -/
class Gb (v w w' : World) : Prop where
  h : Below v.heap.size v w → Below v.heap.size v w'
instance (v w : World) : Gb v w w := ⟨fun h => h⟩
instance (v w w' : World) (o : Obj) [g : Gb v w w'] : Gb v w (w'.alloc o) := ⟨fun h => below_alloc (g.h h) o⟩
instance (v w w' : World) (n : Nat) [g : Gb v w w'] : Gb v w (w'.drewN n) := ⟨fun h => pw_below_drewN (g.h h) n⟩
instance (v w w' : World) [g : Gb v w w'] : Gb v w w'.drew := ⟨fun h => below_drew1 (g.h h)⟩
instance (v w w' : World) (b j : Nat) (u : Value) [a : Aside1 (v.heap.size ≤ b)] [g : Gb v w w'] : Gb v w (w'.setCell ⟨b, j, none⟩ u) := ⟨fun h => below_set (g.h h) a.out⟩
/-- A box stays, whatever is made, drawn, or stored elsewhere. -/
class Gk (b : Nat) (w w' : World) : Prop where
  h : ∀ {cs : Array Value} {t : TypeId}, w.heap[b]? = some (.cells cs t (0, 0)) → w'.heap[b]? = some (.cells cs t (0, 0))
instance (b : Nat) (w : World) : Gk b w w := ⟨fun h => h⟩
instance (b : Nat) (w w' : World) (o : Obj) [g : Gk b w w'] : Gk b w (w'.alloc o) := ⟨fun h => blk_alloc (g.h h) o⟩
instance (b : Nat) (w w' : World) (n : Nat) [g : Gk b w w'] : Gk b w (w'.drewN n) := ⟨fun h => blk_drewN (g.h h) n⟩
instance (b : Nat) (w w' : World) [g : Gk b w w'] : Gk b w w'.drew := ⟨fun h => blk_drew (g.h h)⟩
instance (b : Nat) (w w' : World) (c j : Nat) (u : Value) [a : Aside1 (b ≠ c)] [g : Gk b w w'] : Gk b w (w'.setCell ⟨c, j, none⟩ u) := ⟨fun h => blk_far (g.h h) a.out u⟩
theorem bq {v w w' : World} [g : Gb v w w'] (h : Below v.heap.size v w) : Below v.heap.size v w' := g.h h
theorem bk {w w' : World} [k : Gt w w'] {g : Nat} {o : Obj} (h : w.heap[g]? = some o) : w'.heap[g]? = some o := blk_below h k.h
theorem bl {w w' : World} [k : Gs w' w] {g : Nat} {o : Obj} (h : w.heap[g]? = some o) : w'.heap[g]? = some o := blk_below h k.h
theorem kr {α : Type} {d : Kd α} {e : Nat} {w w' : World} [k : Gt w w'] {base : Nat} {ok : Nat → Prop} {v : Value} {xs : List α} (h : d.R e w base ok v xs) : d.R e w' base ok v xs := Kd.R_below h k.h
theorem kl {α : Type} {d : Kd α} {e : Nat} {w w' : World} [k : Gs w' w] {base : Nat} {ok : Nat → Prop} {v : Value} {xs : List α} (h : d.R e w base ok v xs) : d.R e w' base ok v xs := Kd.R_below h k.h
/-! Behind an event: hb. -/
theorem bh {v w W w2 : World} (h : Aside0 (Below v.heap.size v w)) (hb : Below W.heap.size W w2) [g : Gb v w W] : Aside0 (Below v.heap.size v w2) := ⟨below_step (g.h h.out) hb⟩
theorem ge {v w W : World} {b : Nat} (hg : b = W.heap.size) (h : Aside0 (Below v.heap.size v w)) [g : Gb v w W] : Aside1 (v.heap.size ≤ b) := ⟨hg ▸ below_size (g.h h.out)⟩
theorem bb {w W w2 : World} {b : Nat} {cs : Array Value} {t : TypeId} (h : Aside0 (w.heap[b]? = some (.cells cs t (0, 0)))) (hb : Below W.heap.size W w2) [k : Gk b w W] : Aside0 (w2.heap[b]? = some (.cells cs t (0, 0))) := ⟨blk_below (k.h h.out) hb⟩
theorem nl {w W : World} {b b' : Nat} {cs : Array Value} {t : TypeId} (hg : b' = W.heap.size) (h : Aside0 (w.heap[b]? = some (.cells cs t (0, 0)))) [k : Gk b w W] : Aside1 (b ≠ b') := ⟨hg ▸ Nat.ne_of_lt (blk_lt (k.h h.out))⟩
theorem ng {w W : World} {b b' : Nat} {cs : Array Value} {t : TypeId} (hg : b' = W.heap.size) (h : Aside0 (w.heap[b]? = some (.cells cs t (0, 0)))) [k : Gk b w W] : Aside1 (b' ≠ b) := ⟨hg ▸ Nat.ne_of_gt (blk_lt (k.h h.out))⟩
theorem kb {α : Type} {d : Kd α} {e : Nat} {w W w2 : World} {base : Nat} {ok : Nat → Prop} {v : Value} {xs : List α} (h : Aside0 (d.R e w base ok v xs)) (hb : Below W.heap.size W w2) [k : Gt w W] : Aside0 (d.R e w2 base ok v xs) := ⟨Kd.R_below (Kd.R_below h.out k.h) hb⟩
theorem kw {α : Type} {d : Kd α} {e : Nat} {v0 w W w2 : World} {ok : Nat → Prop} {v : Value} {xs : List α} (ho : d.R e w2 W.heap.size ok v xs) (h : Aside0 (Below v0.heap.size v0 w)) [g : Gb v0 w W] : Aside0 (d.R e w2 v0.heap.size ok v xs) := ⟨Kd.R_lower ho (below_size (g.h h.out))⟩
/-! A row stays where a box of another kind is written. -/
/-! A box's cells. -/
variable {w : World} {g : Nat} {t : TypeId} {a b c d e f i j : Value}
theorem zc1 (h : Aside0 (w.heap[g]? = some (.cells #[a] t (0, 0)))) : w.cell? ⟨g, 0, none⟩ = some a := (blk_cell h.out 0).trans rfl
theorem zc2 (h : Aside0 (w.heap[g]? = some (.cells #[a, b] t (0, 0)))) : w.cell? ⟨g, 0, none⟩ = some a ∧ w.cell? ⟨g, 1, none⟩ = some b := ⟨(blk_cell h.out 0).trans rfl, (blk_cell h.out 1).trans rfl⟩
theorem zc4 (h : Aside0 (w.heap[g]? = some (.cells #[a, b, c, d] t (0, 0)))) : w.cell? ⟨g, 0, none⟩ = some a ∧ w.cell? ⟨g, 1, none⟩ = some b ∧ w.cell? ⟨g, 2, none⟩ = some c ∧ w.cell? ⟨g, 3, none⟩ = some d := ⟨(blk_cell h.out 0).trans rfl, (blk_cell h.out 1).trans rfl, (blk_cell h.out 2).trans rfl, (blk_cell h.out 3).trans rfl⟩
theorem zf2 {o : Array Value} (h : Aside0 (w.heap[g]? = some (.cells o t (0, 0)))) : w.frozen? ⟨g, 0, none⟩ = false ∧ w.frozen? ⟨g, 1, none⟩ = false := ⟨blk_frozen h.out 0, blk_frozen h.out 1⟩
theorem zf4 {o : Array Value} (h : Aside0 (w.heap[g]? = some (.cells o t (0, 0)))) : w.frozen? ⟨g, 0, none⟩ = false ∧ w.frozen? ⟨g, 1, none⟩ = false ∧ w.frozen? ⟨g, 2, none⟩ = false ∧ w.frozen? ⟨g, 3, none⟩ = false := ⟨blk_frozen h.out 0, blk_frozen h.out 1, blk_frozen h.out 2, blk_frozen h.out 3⟩
end Go.Proofs.YthgiifakcgjlaaaX
