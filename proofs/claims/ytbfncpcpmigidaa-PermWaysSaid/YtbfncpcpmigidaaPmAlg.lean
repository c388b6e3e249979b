/- Mixing of columns in the field of bytes: eight times is a product (layer 10). Conditions: those that each theorem names. -/
import Derived.Test.YtbfncpcpmigidaaTw
set_option linter.unusedVariables false
namespace Go.Proofs.Ytbfncpcpmigidaa.Br
open Go.Proofs.YtbfncpcpmigidaaT
section
variable {k : Nat}
def sumT : Nat → (Nat → T k) → T k
  | 0, _ => 0
  | n + 1, g => sumT n g + g n
theorem sumT_congr : ∀ {n : Nat} {g h : Nat → T k}, (∀ j, j < n → g j = h j) → sumT n g = sumT n h
  | 0, _, _, _ => rfl
  | n + 1, g, h, e => by
    show sumT n g + g n = sumT n h + h n
    rw [sumT_congr (fun j hj => e j (by omega)), e n (by omega)]
theorem sumT_add : ∀ (n : Nat) (g h : Nat → T k), sumT n (fun j => g j + h j) = sumT n g + sumT n h
  | 0, _, _ => (add_zero (0 : T k)).symm
  | n + 1, g, h => by
    show sumT n (fun j => g j + h j) + (g n + h n) = sumT n g + g n + (sumT n h + h n)
    rw [sumT_add n g h]
    ac_rfl
theorem sumT_mul : ∀ (n : Nat) (c : T k) (g : Nat → T k), c * sumT n g = sumT n (fun j => c * g j)
  | 0, c, _ => mul_zero c
  | n + 1, c, g => by
    show c * (sumT n g + g n) = sumT n (fun j => c * g j) + c * g n
    rw [mul_add, sumT_mul n c g]
/-- In a double sum over a symmetric term all but the diagonal is gone. -/
theorem sumT_sym : ∀ (n : Nat) (F : Nat → Nat → T k), (∀ i j, F i j = F j i) → sumT n (fun j => sumT n (fun i => F i j)) = sumT n (fun j => F j j)
  | 0, _, _ => rfl
  | n + 1, F, h => by
    show sumT n (fun j => sumT n (fun i => F i j) + F n j) + (sumT n (fun i => F i n) + F n n) = sumT n (fun j => F j j) + F n n
    rw [sumT_add n (fun j => sumT n (fun i => F i j)) (fun j => F n j), sumT_sym n F h, sumT_congr (g := fun j => F n j) (h := fun i => F i n) (fun j _ => h n j)]
    generalize sumT n (fun j => F j j) = a
    generalize sumT n (fun i => F i n) = b
    generalize F n n = d
    rw [add_assoc, ← add_assoc b b d, add_self, zero_add]
/-- Columns mixed by c, with step s. -/
def Mx (c : Nat → T k) (s : Nat) (V : Nat → T k) (n : Nat) : T k := sumT 8 fun j => c j * V (8 * (n / 8) + (n % 8 + s * j) % 8)
theorem Mx_congr {c : Nat → T k} {s : Nat} {V W : Nat → T k} (h : ∀ n, n < 64 → V n = W n) {n : Nat} (hn : n < 64) : Mx c s V n = Mx c s W n :=
  sumT_congr fun j _ => by rw [h _ (by omega)]
theorem Mx_mul (c : Nat → T k) (s : Nat) (V : Nat → T k) (d : T k) (n : Nat) : Mx c s (fun m => d * V m) n = d * Mx c s V n := by
  unfold Mx
  rw [sumT_mul]
  refine sumT_congr fun j _ => ?_
  show c j * (d * _) = d * (c j * _)
  ac_rfl
theorem Mx_twice (c : Nat → T k) (s : Nat) (V : Nat → T k) (n : Nat) : Mx c s (Mx c s V) n = Mx (fun j => c j * c j) (2 * s) V n := by
  have e : ∀ j i : Nat, 8 * ((8 * (n / 8) + (n % 8 + s * j) % 8) / 8) + ((8 * (n / 8) + (n % 8 + s * j) % 8) % 8 + s * i) % 8 = 8 * (n / 8) + (n % 8 + s * (i + j)) % 8 := by
    intro j i
    rw [Nat.mul_add s i j]
    generalize s * j = a
    generalize s * i = b
    omega
  have h : Mx c s (Mx c s V) n = sumT 8 fun j => sumT 8 fun i => c j * (c i * V (8 * (n / 8) + (n % 8 + s * (i + j)) % 8)) := by
    unfold Mx
    refine sumT_congr fun j _ => ?_
    rw [sumT_mul]
    exact sumT_congr fun i _ => by rw [e j i]
  rw [h, sumT_sym 8 (fun i j => c j * (c i * V (8 * (n / 8) + (n % 8 + s * (i + j)) % 8))) (fun i j => by
    rw [Nat.add_comm i j]
    ac_rfl)]
  unfold Mx
  refine sumT_congr fun j _ => ?_
  rw [← mul_assoc, show 2 * s * j = s * (j + j) by rw [← Nat.two_mul j, Nat.mul_assoc, Nat.mul_left_comm]]
theorem Mx_four (c : Nat → T k) (V : Nat → T k) (n : Nat) : Mx c 1 (Mx c 1 (Mx c 1 (Mx c 1 V))) n = Mx (fun j => c j * c j * (c j * c j)) 4 V n := by
  have e : Mx c 1 (Mx c 1 V) = Mx (fun j => c j * c j) 2 V := funext fun m => Mx_twice c 1 V m
  have e2 : Mx c 1 (Mx c 1 (Mx (fun j => c j * c j) 2 V)) n = Mx (fun j => c j * c j) 2 (Mx (fun j => c j * c j) 2 V) n := Mx_twice c 1 _ n
  rw [e, e2]
  exact Mx_twice (fun j => c j * c j) 2 V n
theorem Mx_eight (c : Nat → T k) (V : Nat → T k) {n : Nat} (hn : n < 64) : Mx c 1 (Mx c 1 (Mx c 1 (Mx c 1 (Mx c 1 (Mx c 1 (Mx c 1 (Mx c 1 V))))))) n = frob 3 (sumT 8 c) * V n := by
  have e : Mx c 1 (Mx c 1 (Mx c 1 (Mx c 1 V))) = Mx (fun j => c j * c j * (c j * c j)) 4 V := funext fun m => Mx_four c V m
  rw [e, Mx_four c _ n, Mx_twice]
  unfold Mx
  have e8 : ∀ j : Nat, 8 * (n / 8) + (n % 8 + 2 * 4 * j) % 8 = n := fun j => by omega
  have ef : ∀ m : Nat, sumT m (fun j => frob 3 (c j)) = frob 3 (sumT m c) := by
    intro m
    induction m with
    | zero => exact (frob_zero 3).symm
    | succ m ih =>
      show sumT m (fun j => frob 3 (c j)) + frob 3 (c m) = frob 3 (sumT m c + c m)
      rw [ih, frob_add]
  rw [mul_comm (frob 3 (sumT 8 c)) (V n), ← ef 8, sumT_mul]
  refine sumT_congr fun j _ => ?_
  rw [e8 j, mul_comm]
  congr 1
end
end Go.Proofs.Ytbfncpcpmigidaa.Br
