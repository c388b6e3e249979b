/- A box that holds a reader's pointer, or a number, stays what it is while the reader turns. Conditions: those that each theorem names. -/
import Derived.Test.YthgiifakcgjlaaaPx0
set_option linter.unusedVariables false
namespace Go.Proofs.Ythgiifakcgjlaaa.P
open Go.RowKit Go.Proofs.YthgiifakcgjlaaaX Go.Proofs.YthgiifakcgjlaaaW.PrintWords Go.Proofs.YthgiifakcgjlaaaW.PrintLast Go.Proofs.YthgiifakcgjlaaaW.PrintMore
/-- Block gb is a box of the pointer to block g. -/
structure Boxed (w : World) (gb g : Nat) : Prop where
  lt : gb < w.heap.size
  ne : gb ≠ g
  is : w.heap[gb]? = some (.cells #[.pointer (some ⟨g, 0, none⟩)] 88 (0, 0))
theorem Boxed.keep {w W : World} {gb g : Nat} (h : Boxed w gb g) (hk : KeepBut w W g none) : Boxed W gb g :=
  ⟨Nat.lt_of_lt_of_le h.lt hk.1, h.ne, (hk.2 gb h.lt h.ne (by simp)).trans h.is⟩
theorem Boxed.cell {w : World} {gb g : Nat} (h : Boxed w gb g) : w.cell? ⟨gb, 0, none⟩ = some (.pointer (some ⟨g, 0, none⟩)) := (blk_cell h.is 0).trans rfl
theorem Boxed.below {w W : World} {gb g : Nat} (h : Boxed w gb g) (hb : Below w.heap.size w W) : Boxed W gb g :=
  ⟨Nat.lt_of_lt_of_le h.lt (below_size hb), h.ne, blk_below h.is hb⟩
theorem set_size (w : World) (p : Addr) (v : Value) : (w.setCell p v).heap.size = w.heap.size := by simp [World.setCell]
theorem Boxed.made {w : World} {gb g : Nat} (h : w.heap[gb]? = some (.cells #[.pointer none] 88 (0, 0))) (hne : gb ≠ g) : Boxed (w.setCell ⟨gb, 0, none⟩ (.pointer (some ⟨g, 0, none⟩))) gb g :=
  ⟨by rw [set_size]; exact blk_lt h, hne, blk_put (cs := #[.pointer none]) h 0 _ rfl⟩
theorem Boxed.far {w : World} {gb g : Nat} {p : Addr} (h : Boxed w gb g) (hn : gb ≠ p.block) (v : Value) : Boxed (w.setCell p v) gb g :=
  ⟨by rw [set_size]; exact h.lt, h.ne, blk_far h.is hn v⟩
theorem Boxed.drewN {w : World} {gb g : Nat} (h : Boxed w gb g) (m : Nat) : Boxed (w.drewN m) gb g := ⟨h.lt, h.ne, h.is⟩
theorem Boxed.drew {w : World} {gb g : Nat} (h : Boxed w gb g) : Boxed w.drew gb g := ⟨h.lt, h.ne, h.is⟩
theorem Boxed.alloc {w : World} {gb g : Nat} (h : Boxed w gb g) (o : Obj) : Boxed (w.alloc o) gb g := h.below (below_alloc (Below.refl _ _) o)
theorem Boxed.grown {w W : World} {gb g : Nat} {row : Option Nat} (h : Boxed w gb g) (hg : w.grownBy W row) (hne : some gb ≠ row) : Boxed W gb g :=
  ⟨blk_lt (blk_grown h.is hg hne), h.ne, blk_grown h.is hg hne⟩
/-- Block gl is a box of a number. -/
structure BoxedI (w : World) (gl g : Nat) (a : Int) : Prop where
  lt : gl < w.heap.size
  ne : gl ≠ g
  is : w.heap[gl]? = some (.cells #[.int .i64 a] 3 (0, 0))
theorem BoxedI.keep {w W : World} {gl g : Nat} {a : Int} (h : BoxedI w gl g a) (hk : KeepBut w W g none) : BoxedI W gl g a :=
  ⟨Nat.lt_of_lt_of_le h.lt hk.1, h.ne, (hk.2 gl h.lt h.ne (by simp)).trans h.is⟩
theorem BoxedI.cell {w : World} {gl g : Nat} {a : Int} (h : BoxedI w gl g a) : w.cell? ⟨gl, 0, none⟩ = some (.int .i64 a) := (blk_cell h.is 0).trans rfl
theorem BoxedI.below {w W : World} {gl g : Nat} {a : Int} (h : BoxedI w gl g a) (hb : Below w.heap.size w W) : BoxedI W gl g a :=
  ⟨Nat.lt_of_lt_of_le h.lt (below_size hb), h.ne, blk_below h.is hb⟩
theorem BoxedI.made {w : World} {gl g : Nat} {a : Int} (h : w.heap[gl]? = some (.cells #[.int .i64 0] 3 (0, 0))) (hne : gl ≠ g) : BoxedI (w.setCell ⟨gl, 0, none⟩ (.int .i64 a)) gl g a :=
  ⟨by rw [set_size]; exact blk_lt h, hne, blk_put (cs := #[.int .i64 0]) h 0 _ rfl⟩
theorem BoxedI.far {w : World} {gl g : Nat} {a : Int} {p : Addr} (h : BoxedI w gl g a) (hn : gl ≠ p.block) (v : Value) : BoxedI (w.setCell p v) gl g a :=
  ⟨by rw [set_size]; exact h.lt, h.ne, blk_far h.is hn v⟩
theorem BoxedI.drewN {w : World} {gl g : Nat} {a : Int} (h : BoxedI w gl g a) (m : Nat) : BoxedI (w.drewN m) gl g a := ⟨h.lt, h.ne, h.is⟩
theorem BoxedI.drew {w : World} {gl g : Nat} {a : Int} (h : BoxedI w gl g a) : BoxedI w.drew gl g a := ⟨h.lt, h.ne, h.is⟩
theorem BoxedI.alloc {w : World} {gl g : Nat} {a : Int} (h : BoxedI w gl g a) (o : Obj) : BoxedI (w.alloc o) gl g a := h.below (below_alloc (Below.refl _ _) o)
/-- Block gl is a box of the level. -/
structure LevB (w : World) (gl : Nat) (a : Int) : Prop where
  lt : gl < w.heap.size
  is : w.heap[gl]? = some (.cells #[.int .i64 a] 3 (0, 0))
theorem LevB.cell {w : World} {gl : Nat} {a : Int} (h : LevB w gl a) : w.cell? ⟨gl, 0, none⟩ = some (.int .i64 a) := (blk_cell h.is 0).trans rfl
theorem LevB.below {w W : World} {gl : Nat} {a : Int} (h : LevB w gl a) (hb : Below w.heap.size w W) : LevB W gl a := ⟨Nat.lt_of_lt_of_le h.lt (below_size hb), blk_below h.is hb⟩
theorem lev_of {w : World} {gl : Nat} {a : Int} (h : w.heap[gl]? = some (.cells #[.int .i64 a] 3 (0, 0))) : LevB w gl a := ⟨blk_lt h, h⟩
theorem lev_cell {w : World} {gl : Nat} {a : Int} (h : Aside0 (w.heap[gl]? = some (.cells #[.int .i64 a] 3 (0, 0)))) : w.cell? ⟨gl, 0, none⟩ = some (.int .i64 a) := (blk_cell h.out 0).trans rfl
/-- A call of a closure in a region that draws its order. -/
theorem goesV_ {P : Program} {ops : Array Oper} {Q : Exit → Act → World → Prop} {oi : Oper} {N : Option Tmp} {a : Act} {w : World} {K : Act → World → Prop} {f : FuncId} {fn : Func} {o : Operand} {ar : Array Operand} {ts : Array TypeId} (hf : P.funcs[f]? = some fn) (hname : (fn.name == "runtime.NumGoroutine") = false) (hb : fn.body.isSome = true) (args cap : Array Value)
    (hw : Region.wanted oi (yielded ops a.tmps) = true) (hN : oi.dst = N) (hop : oi.op = .call { callee := .value o, args := ar, argTypes := ts }) (hv : a.eval o = .func (.func f) #[] cap) (hargs : ar.map a.eval ++ cap = args)
    (h : Calls P f args w fun e w' => ∃ v, e = .returned v ∧ K (a.put N v) w') : if Region.wanted oi (yielded ops a.tmps) = true then Oper.wp P oi a w K Q else K (a.put N undef) w := by
  refine call_ f args hw hN ?_ h
  have he := enters_ hf hname hb args w
  unfold execOp
  simp only [hop, resolve, hv, Deferred.ofValue]
  subst hargs
  simp [invoke, he]
end Go.Proofs.Ythgiifakcgjlaaa.P
