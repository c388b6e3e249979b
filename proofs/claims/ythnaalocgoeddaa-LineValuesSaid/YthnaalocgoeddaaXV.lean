/- A word that the print names and the words lack: a row that is read, and whose blocks are known, lies away from a box that is none of them. Conditions: those that the theorem names. -/
import Derived.Test.YthnaalocgoeddaaX
import Derived.Laws.Tables
namespace Go.Proofs.YthnaalocgoeddaaX
open Go.RowKit Go.Proofs.YthnaalocgoeddaaW.PrintWords
theorem cell_gone (w : World) (a : Addr) : (w.setRow a.block #[]).cell? a = none := by
  unfold World.cell? World.setRow
  simp only [Array.getElem?_modify]
  cases w.heap[a.block]? with
  | none => simp
  | some o =>
    cases o <;> simp
theorem Kd.V_away {α : Type} {d : Kd α} {e : Nat} {w : World} {base : Nat} {ok : Nat → Prop} {ad : Addr} {n c g : Nat} {xs : List α} (h : d.V e w base ok (.slice (some ad) n c) xs) (hok : ∀ k, ok k → k ≠ g) (hn : 0 < n) (hs : 0 < d.sz) : some g ≠ (Value.slice (some ad) n c).ownBlock := by
  intro he
  obtain rfl : g = ad.block := by simpa [Value.ownBlock] using he
  obtain ⟨A, c', e, hle, hF⟩ := h
  obtain ⟨rfl, rfl, rfl⟩ : some ad = A ∧ n = xs.length ∧ c = c' := by simpa using e
  have hc := hF (w.setRow ad.block #[]) (fun k hk _ => setRow_other w ad.block k #[] (hok k hk))
  obtain ⟨ad', e1, hq⟩ := hc.2.2 hn
  obtain rfl : ad = ad' := by injection e1
  have hl : 0 < xs.length := by have := hc.1; omega
  obtain ⟨cc, hcl, _, hcell⟩ := hq 0 xs[0] (List.getElem?_eq_getElem hl)
  have h0 : 0 < cc.length := by omega
  have h1 := hcell 0 cc[0] (List.getElem?_eq_getElem h0)
  have hb : (ad.add (0 * d.sz + 0)).block = ad.block := by unfold Addr.add; split <;> rfl
  have h2 := cell_gone w (ad.add (0 * d.sz + 0))
  rw [hb] at h2
  rw [h2] at h1
  cases h1
end Go.Proofs.YthnaalocgoeddaaX
