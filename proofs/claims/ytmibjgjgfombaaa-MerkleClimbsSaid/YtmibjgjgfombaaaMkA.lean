/- The page's example of layer 12 answers true. Conditions: none. -/
import Derived.Test.YtmibjgjgfombaaaHRows
import Derived.Test.YtmibjgjgfombaaaBrBits
import Derived.Test.YtmibjgjgfombaaaPx5
import Derived.Test.YtmibjgjgfombaaaPx6a
set_option linter.unusedVariables false
set_option linter.unusedSimpArgs false
namespace Go.Proofs.Ytmibjgjgfombaaa.Br
open Go.RowKit Go.Proofs.YtmibjgjgfombaaaX Go.Proofs.Ytmibjgjgfombaaa.P Go.Proofs.YtmibjgjgfombaaaW.PrintWords Go.Proofs.YtmibjgjgfombaaaW.PrintLast
theorem rows2 (k : Int) (a b : ByteArray) (ha : a.size ≤ 1000000) (hb : b.size ≤ 1000000) : merkle_Rows.f k [a, b] = some ([[leafS a, leafS b], [nodeS (leafS a) (leafS b)]], 0) := by
  have h1 : heightN [a, b].length = some 1 := show heightN 2 = some 1 by decide
  have h2 : ([a, b].all fun t => decide (t.size ≤ 1000000)) = true := by simp [ha, hb]
  unfold merkle_Rows.f
  rw [h1]
  simp only [if_pos h2]
  simp [rowsL, upL, upAt, List.range_succ]
theorem path2 (x y z : ByteArray) : merkle_Path.f 9 [[x, y], [z]] 0 = some ([y], 0) := by
  have e1 : (IntKind.i64.wrap (2 ^ min 1 IntKind.i64.bits)) = 2 := by decide
  have e2 : IntKind.i64.wrap 1 = 1 := by decide
  have e3 : Go.bits .xor .i64 0 1 = 1 := by decide
  simp [merkle_Path.f, merkle_Path.j0, merkle_Path.l0, merkle_Path.l1, rd_L1, rdOf, shl, wrap64, e1, e2, e3]
theorem root2 (k : Int) (a b : ByteArray) (ha : a.size ≤ 1000000) (hb : b.size ≤ 1000000) : merkle_Root.f k [a, b] = some (nodeS (leafS a) (leafS b), 0) := by
  unfold merkle_Root.f
  rw [rows2 k a b ha hb, Option.bind_some]
  simp [wrap64, rd_L1, rdOf]
theorem path_mono {k n : Nat} {l : List (List ByteArray)} {i : Int} {r} (h : merkle_Path.f k l i = some r) (hn : k ≤ n) : merkle_Path.f n l i = some r := by
  induction hn with
  | refl => exact h
  | step _ ih => exact merkle_Path.mono _ _ _ _ ih
theorem awake_ev : Ev (fun k => steeplelaw12_awake.f k) true := by
  refine ⟨9, fun k hk => ?_⟩
  have za : (⟨#[97]⟩ : ByteArray).size ≤ 1000000 := by decide
  have zb : (⟨#[98]⟩ : ByteArray).size ≤ 1000000 := by decide
  show steeplelaw12_awake.f k = some true
  have e1 : merkle_Leaf.f 0 (⟨#[97]⟩ : ByteArray) = some (leafS ⟨#[97]⟩) := leaf_f 0 za
  have e2 : merkle_Leaf.f 0 (⟨#[98]⟩ : ByteArray) = some (leafS ⟨#[98]⟩) := leaf_f 0 zb
  have e3 := node_f 0 (leafS_size ⟨#[97]⟩) (leafS_size ⟨#[98]⟩)
  have e4 := rows2 0 _ _ za zb
  have e5 := root2 0 _ _ za zb
  have e6 := path_mono (path2 (leafS ⟨#[97]⟩) (leafS ⟨#[98]⟩) (nodeS (leafS ⟨#[97]⟩) (leafS ⟨#[98]⟩))) hk
  have e7 : rdOf ByteArray.empty [leafS (⟨#[98]⟩ : ByteArray)] 0 = leafS ⟨#[98]⟩ := rfl
  have e8 := nodeS_size (leafS (⟨#[97]⟩ : ByteArray)) (leafS ⟨#[98]⟩)
  obtain ⟨x, ex⟩ : ∃ x, x = leafS (⟨#[97]⟩ : ByteArray) := ⟨_, rfl⟩
  obtain ⟨y, ey⟩ : ∃ y, y = leafS (⟨#[98]⟩ : ByteArray) := ⟨_, rfl⟩
  rw [← ex] at e1 e3 e4 e5 e6 e8
  rw [← ey] at e2 e3 e4 e5 e6 e7 e8
  obtain ⟨z, ez⟩ : ∃ z, z = nodeS x y := ⟨_, rfl⟩
  rw [← ez] at e3 e4 e5 e6 e8
  clear ex ey ez
  unfold steeplelaw12_awake.f
  rw [show perm_Make.f = some 0 from rfl, Option.bind_some, e4, Option.bind_some, e6, Option.bind_some, e5, Option.bind_some]
  simp [e1, e2, e3, e7, e8]
end Go.Proofs.Ytmibjgjgfombaaa.Br
