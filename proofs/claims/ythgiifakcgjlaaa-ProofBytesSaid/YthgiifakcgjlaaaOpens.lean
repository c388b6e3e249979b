/- What a law's row says of an argument that came in, told as the printed contracts want it: the cells are of a kind 'Kd', numbers are of their kinds, and strings and slices take no more bytes than the form's reach. Conditions: none. -/
import Derived.Test.YthgiifakcgjlaaaWWords
import Derived.ChangeArms
import Derived.ChangeSlices
import Derived.DataElems
import Derived.SizedLaws
import Derived.WideShapes
import Derived.OpenShut
namespace Go.Proofs.YthgiifakcgjlaaaQ
open Go.ChangeShapes Go.WideShapes Go.Proofs.YthgiifakcgjlaaaW.PrintWords

structure Opens {α : Type} (P : Program) (t : TypeId) (d : Kd α) (wf : α → Prop) : Prop where
  sz : P.cellsOf t = d.sz
  op : ∀ {H : Type} {enc : TypeId × Value → H} {w : World} {held : Bool} {fuel : Nat} {cs : List Value} {x : DataW H × List MemPlace},
    DataW.trod enc P w 0 (fun _ => true) held fuel t cs = some x → (∀ n ∈ x.1.weights P t, n ≤ reachBytes) → ∃ a, d.K w a cs ∧ wf a

theorem Opens.imp {α : Type} {P : Program} {t : TypeId} {d : Kd α} {wf wf' : α → Prop} (h : Opens P t d wf) (hi : ∀ a, wf a → wf' a) : Opens P t d wf' :=
  ⟨h.sz, fun e r => by
    obtain ⟨a, h1, h2⟩ := h.op e r
    exact ⟨a, h1, hi a h2⟩⟩
theorem Opens.int {P : Program} {t : TypeId} {k : IntKind} (ht : P.underlying t = some (.int k)) (hc : P.cellsOf t = 1) : Opens P t (Kd.int k) (fun n => (Lit.int k n).wf = true) :=
  ⟨hc, fun e _ => by
    obtain ⟨m, rfl, rfl, hw⟩ := DataW.trod_int ht e
    exact ⟨m, rfl, hw⟩⟩
theorem Opens.bool {P : Program} {t : TypeId} (ht : P.underlying t = some .bool) (hc : P.cellsOf t = 1) : Opens P t Kd.bool (fun _ => True) :=
  ⟨hc, fun e _ => by
    obtain ⟨m, rfl, rfl⟩ := DataW.trod_bool ht e
    exact ⟨m, rfl, trivial⟩⟩
theorem Opens.string {P : Program} {t : TypeId} (ht : P.underlying t = some .string) (hc : P.cellsOf t = 1) : Opens P t Kd.string (fun s => s.size ≤ 140737488351232) :=
  ⟨hc, fun e r => by
    obtain ⟨s, rfl, rfl, hm⟩ := DataW.trod_string ht e
    refine ⟨s, rfl, ?_⟩
    have h1 : s.data.toList.length ≤ reachBytes := r s.data.toList.length List.mem_cons_self
    rw [Array.length_toList] at h1
    exact h1⟩

theorem list_of {α : Type} {Q : Nat → α → Prop} : ∀ n : Nat, (∀ i, i < n → ∃ a, Q i a) → ∃ l : List α, l.length = n ∧ ∀ i a, l[i]? = some a → Q i a
  | 0, _ => ⟨[], rfl, fun i a h => by simp at h⟩
  | n + 1, h => by
    obtain ⟨l, hl, hq⟩ := list_of n (fun i hi => h i (by omega))
    obtain ⟨a, ha⟩ := h n (by omega)
    refine ⟨l ++ [a], by simp [hl], fun i b hb => ?_⟩
    by_cases hi : i < n
    · rw [List.getElem?_append_left (by omega)] at hb
      exact hq i b hb
    · have h1 : i < (l ++ [a]).length := (List.getElem?_eq_some_iff.1 hb).1
      have h2 : i = n := by simp [hl] at h1; omega
      subst h2
      rw [List.getElem?_append_right (by omega), hl, Nat.sub_self] at hb
      cases hb
      exact ha
theorem weights_mem {H : Type} {P : Program} {e : TypeId} : ∀ {l : List (DataW H)} {d : DataW H}, d ∈ l → ∀ n ∈ d.weights P e, n ∈ DataW.weightsAll P e l
  | [], _, h => by simp at h
  | x :: r, d, h => fun n hn => by
    simp only [DataW.weightsAll, List.mem_append]
    rcases List.mem_cons.1 h with rfl | h
    · exact .inl hn
    · exact .inr (weights_mem h n hn)
theorem Opens.slice {α : Type} {P : Program} {t e : TypeId} {d : Kd α} {wf : α → Prop} (h : Opens P e d wf) (ht : P.underlying t = some (.slice e)) (hc : P.cellsOf t = 1) {B : Nat} (hB : P.bytesOf e = B) :
    Opens P t (Kd.slice e d) (fun l => l.length ≤ maxLen ∧ l.length * B ≤ 140737488351232 ∧ ∀ x ∈ l, wf x) :=
  ⟨hc, fun {H enc w held fuel cs x} he hr => by
    rcases DataW.trod_slice ht he with ⟨rfl, rfl⟩ | ⟨a, len, cap, elems, rest, n, _, rfl, rfl, hb, hl, hm, hlen, hel, hsp, _⟩
    · refine ⟨[], ⟨none, 0, rfl, Nat.le_refl _, Kd.C_nil d w⟩, by simp [maxLen], by simp, by simp⟩
    · have hw0 : ∀ m ∈ DataW.weightsAll P e (elems.map (·.1)), m ≤ reachBytes := fun m hm => hr m (by
        simp only [DataW.weights, ht]
        exact List.mem_cons_of_mem _ (List.mem_append_left _ hm))
      have hw1 : (elems.length + rest.length) * P.bytesOf e ≤ reachBytes := hr _ (by
        simp only [DataW.weights, ht, List.length_map]
        exact List.mem_cons_self)
      obtain ⟨l, hll, hq⟩ := list_of (Q := fun i b => (∃ c, w.cells? 0 (a.add (i * P.cellsOf e)) (P.cellsOf e) = some c ∧ d.K w b c) ∧ wf b) len (fun i hi => by
        have h1 := hel i hi
        have h2 : elems[i]? = some (elems[i]'(by omega)) := List.getElem?_eq_getElem (by omega)
        rw [h2, Option.bind_eq_some_iff] at h1
        obtain ⟨c, hc, hd⟩ := h1
        obtain ⟨b, hk, hwf⟩ := h.op hd (fun m hm => hw0 m (weights_mem (List.mem_map_of_mem (List.getElem_mem _)) m hm))
        exact ⟨b, ⟨c, hc, hk⟩, hwf⟩)
      refine ⟨l, ⟨some a, cap, by rw [hll], by omega, ?_⟩, by simp only [maxLen] at hm ⊢; omega, ?_, ?_⟩
      · refine ⟨rfl, by simp only [maxLen] at hm; omega, fun h0 => ⟨a, rfl, fun j p hp => ?_⟩⟩
        obtain ⟨⟨c, hc, hk⟩, _⟩ := hq j p hp
        refine ⟨c, d.K_len hk, hk, fun i u hu => ?_⟩
        have hi : i < c.length := (List.getElem?_eq_some_iff.1 hu).1
        rw [← hu, ← h.sz]
        rw [← Addr.add_add]
        exact (World.cells?_some hc).2.2 i (by rw [← (World.cells?_some hc).2.1]; exact hi)
      · rw [hB] at hw1
        have : l.length * B ≤ (elems.length + rest.length) * B := Nat.mul_le_mul_right _ (by omega)
        simp only [reachBytes] at hw1
        omega
      · intro b hb
        obtain ⟨i, hi⟩ := List.getElem?_of_mem hb
        exact (hq i b hi).2⟩

/-- A struct's fields, in line from the cell 'off' on. -/
structure OpensF {α : Type} (P : Program) (fs : List Field) (off : Nat) (d : Kd α) (wf : α → Prop) : Prop where
  op : ∀ {H : Type} {enc : TypeId × Value → H} {w : World} {held : Bool} {n : Nat} {cs : List Value} {xs : List (DataW H × List MemPlace)},
    cs.length = off + d.sz → xs.length = fs.length → (∀ (i : Nat) (f : Field), fs[i]? = some f → DataW.trod enc P w 0 (fun _ => true) held n f.type ((cs.drop f.offset).take (P.cellsOf f.type)) = xs[i]?) →
    (∀ m ∈ DataW.weightsEach P (fs.map (·.type)) (xs.map (·.1)), m ≤ reachBytes) → ∃ a, d.K w a (cs.drop off) ∧ wf a
theorem OpensF.one {α : Type} {P : Program} {f : Field} {off : Nat} {d : Kd α} {wf : α → Prop} (h : Opens P f.type d wf) (ho : f.offset = off) : OpensF P [f] off d wf :=
  ⟨fun {H enc w held n cs xs} hl hx hi hr => by
    obtain ⟨x, rfl⟩ : ∃ x, xs = [x] := by
      match xs, hx with
      | [x], _ => exact ⟨x, rfl⟩
    have h1 := hi 0 f rfl
    rw [ho, List.take_of_length_le (by rw [List.length_drop, hl, h.sz]; omega)] at h1
    exact h.op h1 (fun m hm => hr m (by simpa [DataW.weightsEach] using hm))⟩
theorem OpensF.cons {α β : Type} {P : Program} {f : Field} {fs : List Field} {off : Nat} {d : Kd α} {dr : Kd β} {wf : α → Prop} {wr : β → Prop} (h : Opens P f.type d wf) (ho : f.offset = off)
    (hr : OpensF P fs (off + d.sz) dr wr) : OpensF P (f :: fs) off (Kd.pair d dr) (fun p => wf p.1 ∧ wr p.2) :=
  ⟨fun {H enc w held n cs xs} hl hx hi hw => by
    obtain ⟨x, xr, rfl⟩ : ∃ x xr, xs = x :: xr := by
      match xs, hx with
      | x :: xr, _ => exact ⟨x, xr, rfl⟩
    have h1 := hi 0 f rfl
    rw [ho, h.sz] at h1
    obtain ⟨a, ha, wa⟩ := h.op h1 (fun m hm => hw m (by simp only [List.map_cons, DataW.weightsEach, List.mem_append]; exact .inl hm))
    obtain ⟨b, hb, wb⟩ := hr.op (cs := cs) (xs := xr) (by rw [hl]; show off + (d.sz + dr.sz) = _; omega) (by simpa using hx) (fun i g hg => hi (i + 1) g hg)
      (fun m hm => hw m (by simp only [List.map_cons, DataW.weightsEach, List.mem_append]; exact .inr hm))
    refine ⟨(a, b), ⟨(cs.drop off).take d.sz, cs.drop (off + d.sz), ?_, ha, hb⟩, wa, wb⟩
    rw [← List.drop_drop, List.take_append_drop]⟩
theorem OpensF.struct {α : Type} {P : Program} {t : TypeId} {A : Array Field} {fs : List Field} {d : Kd α} {wf : α → Prop} (h : OpensF P fs 0 d wf) (ht : P.underlying t = some (.struct A)) (hA : A.toList = fs)
    (hc : P.cellsOf t = d.sz) : Opens P t d wf :=
  ⟨hc, fun {H enc w held fuel cs x} he hr => by
    obtain ⟨xs, n, _, rfl, hl, hx, hi⟩ := DataW.trod_struct ht he
    subst hA
    have := h.op (cs := cs) (xs := xs) (by rw [hl, hc, Nat.zero_add]) (by rw [hx, Array.length_toList]) (fun i f hf => hi i f (by simpa using hf)) (fun m hm => hr m (by simpa [DataW.weights, ht] using hm))
    simpa using this⟩
/-- An array's elements, in line from the place 'i' on: 'm' of them. -/
structure OpensA {α : Type} (P : Program) (e : TypeId) (m : Nat) (d : Kd α) (wf : α → Prop) : Prop where
  sz : m * P.cellsOf e = d.sz
  op : ∀ {H : Type} {enc : TypeId × Value → H} {w : World} {held : Bool} {n : Nat} {cs : List Value} {xs : List (DataW H × List MemPlace)} (i : Nat),
    cs.length = (i + m) * P.cellsOf e → xs.length = i + m → (∀ j, i ≤ j → j < i + m → DataW.trod enc P w 0 (fun _ => true) held n e ((cs.drop (j * P.cellsOf e)).take (P.cellsOf e)) = xs[j]?) →
    (∀ x ∈ xs, ∀ k ∈ x.1.weights P e, k ≤ reachBytes) → ∃ a, d.K w a (cs.drop (i * P.cellsOf e)) ∧ wf a
theorem OpensA.one {α : Type} {P : Program} {e : TypeId} {d : Kd α} {wf : α → Prop} (h : Opens P e d wf) : OpensA P e 1 d wf :=
  ⟨by rw [Nat.one_mul, h.sz], fun {H enc w held n cs xs} i hl hx hi hr => by
    have h1 := hi i (Nat.le_refl _) (by omega)
    rw [List.take_of_length_le (by rw [List.length_drop, hl, Nat.add_mul, Nat.one_mul]; omega), List.getElem?_eq_getElem (by omega)] at h1
    exact h.op h1 (hr _ (List.getElem_mem _))⟩
theorem OpensA.cons {α β : Type} {P : Program} {e : TypeId} {m : Nat} {d : Kd α} {dr : Kd β} {wf : α → Prop} {wr : β → Prop} (h : Opens P e d wf) (hr : OpensA P e m dr wr) :
    OpensA P e (m + 1) (Kd.pair d dr) (fun p => wf p.1 ∧ wr p.2) :=
  ⟨by
    show (m + 1) * P.cellsOf e = d.sz + dr.sz
    rw [Nat.add_mul, Nat.one_mul, hr.sz, h.sz, Nat.add_comm], fun {H enc w held n cs xs} i hl hx hi hw => by
    have h1 := hi i (Nat.le_refl _) (by omega)
    rw [List.getElem?_eq_getElem (by omega)] at h1
    obtain ⟨a, ha, wa⟩ := h.op h1 (hw _ (List.getElem_mem _))
    obtain ⟨b, hb, wb⟩ := hr.op (cs := cs) (xs := xs) (i + 1) (by rw [hl]; congr 1; omega) (by omega) (fun j h1 h2 => hi j (by omega) (by omega)) hw
    refine ⟨(a, b), ⟨(cs.drop (i * P.cellsOf e)).take (P.cellsOf e), cs.drop ((i + 1) * P.cellsOf e), ?_, ha, hb⟩, wa, wb⟩
    rw [Nat.add_mul, Nat.one_mul, ← List.drop_drop, List.take_append_drop]⟩
theorem weights_all {H : Type} {P : Program} {e : TypeId} {l : List (DataW H)} {r : Nat} (h : ∀ n ∈ DataW.weightsAll P e l, n ≤ r) : ∀ d ∈ l, ∀ n ∈ d.weights P e, n ≤ r := fun _ hd n hn => h n (weights_mem hd n hn)
theorem trod_array_ {H : Type} {enc : TypeId × Value → H} {P : Program} {w : World} {base : Nat} {spare : Nat → Bool} {held : Bool} {fuel : Nat} {t e : TypeId} {m : Nat} {cs : List Value} {x : DataW H × List MemPlace}
    (ht : P.underlying t = some (.array m e)) (h : DataW.trod enc P w base spare held fuel t cs = some x) :
    ∃ (xs : List (DataW H × List MemPlace)) (n : Nat), x = (.agg (xs.map (·.1)), xs.flatMap (·.2)) ∧ cs.length = P.cellsOf t ∧ xs.length = m ∧
      ∀ j, j < m → DataW.trod enc P w base spare held n e ((cs.drop (j * P.cellsOf e)).take (P.cellsOf e)) = xs[j]? := by
  cases fuel with
  | zero => simp [DataW.trod] at h
  | succ n =>
    unfold DataW.trod at h
    rw [ht] at h
    split at h <;> simp_all
    obtain ⟨_, xs, hp, hd⟩ := h
    exact ⟨xs, hd.symm, by simpa using mapM_some_length hp, n, fun j hj => mapM_some_get hp j j (by simp [hj])⟩
theorem OpensA.struct {α : Type} {P : Program} {t e : TypeId} {m : Nat} {d : Kd α} {wf : α → Prop} (h : OpensA P e m d wf) (ht : P.underlying t = some (.array m e)) (hc : P.cellsOf t = d.sz) : Opens P t d wf :=
  ⟨hc, fun {H enc w held fuel cs x} he hr => by
    obtain ⟨xs, n, rfl, hl, hlen, hi⟩ := trod_array_ ht he
    have := h.op (cs := cs) (xs := xs) 0 (by rw [hl, hc, Nat.zero_add, h.sz]) (by rw [hlen, Nat.zero_add]) (fun j _ hj => hi j (by omega)) (fun x hx => by
      refine weights_all (l := xs.map (·.1)) (fun k hk => hr k ?_) x.1 (List.mem_map_of_mem hx)
      simpa [DataW.weights, ht] using hk)
    simpa using this⟩
theorem Opens.iso {α β : Type} {P : Program} {t : TypeId} {d : Kd α} {wf : α → Prop} (h : Opens P t d wf) (f : β → α) (g : α → β) (hfg : ∀ x, f (g x) = x) : Opens P t (Kd.iso d f) (fun b => wf (f b)) :=
  ⟨h.sz, fun he hr => by
    obtain ⟨a, ha, wa⟩ := h.op he hr
    refine ⟨g a, ?_, ?_⟩
    · show d.K _ (f (g a)) _
      rw [hfg]
      exact ha
    · rw [hfg]
      exact wa⟩
/-- Out of the row's own words. -/
theorem Opens.arg {α : Type} {P : Program} {t : TypeId} {d : Kd α} {wf : α → Prop} (h : Opens P t d wf) {H : Type} {enc : TypeId × Value → H} {W : World} {held : Bool} {v : Value} {x : DataW H} {ps : List MemPlace} {ts : List TypeId} {ds : List (DataW H)}
    (hsz : (DataW.weightsEach P ts ds).all (· ≤ reachBytes) = true) (j : Nat) (ht : ts[j]? = some t) (hd : ds[j]? = some x) (hT : DataW.Trod enc P W 0 (fun _ => true) held t v x ps) : ∃ a, d.K W a v.cells.toList ∧ wf a := by
  obtain ⟨fuel, hf⟩ := hT
  refine h.op hf (fun n hn => ?_)
  have := List.all_eq_true.1 hsz n (DataW.weights_mem_each ht hd n hn)
  simpa using this
end Go.Proofs.YthgiifakcgjlaaaQ
