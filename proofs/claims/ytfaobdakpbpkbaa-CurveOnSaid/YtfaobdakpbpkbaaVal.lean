/-
  Numbers told by digits of any size, in plain Lean: what storing into a digit does to the number; carrying. Conditions: none.
-/
import Derived.Test.YtfaobdakpbpkbaaNatB
import Derived.Test.YtfaobdakpbpkbaaNum
namespace Go.Proofs.Ytfaobdakpbpkbaa
open Go.Pt (updN fillN)
/-- the number of the k digits from i on, of any size -/
def hs (f : Nat → Nat) : Nat → Nat → Nat
  | _, 0 => 0
  | i, k + 1 => f i + D16 * hs f (i + 1) k
theorem hs_congr {f g : Nat → Nat} : ∀ (k i : Nat), (∀ j, i ≤ j → j < i + k → f j = g j) → hs f i k = hs g i k
  | 0, _, _ => rfl
  | k + 1, i, h => by rw [hs, hs, h i (Nat.le_refl _) (by omega), hs_congr k (i + 1) fun j h1 h2 => h j (by omega) (by omega)]
theorem hs_upd (f : Nat → Nat) (x : Nat) : ∀ (j k i : Nat), j < k → hs (updN f (i + j) x) i k + f (i + j) * D16 ^ j = hs f i k + x * D16 ^ j
  | 0, k + 1, i, _ => by
    rw [hs, hs, Nat.add_zero, Nat.pow_zero, Nat.mul_one, Nat.mul_one]
    have e : hs (updN f i x) (i + 1) k = hs f (i + 1) k := hs_congr k (i + 1) fun j h1 _ => if_neg (by omega)
    rw [e]
    have : updN f i x i = x := if_pos rfl
    rw [this]
    omega
  | j + 1, k + 1, i, h => by
    have ih := hs_upd f x j k (i + 1) (by omega)
    rw [show i + 1 + j = i + (j + 1) by omega] at ih
    rw [hs, hs]
    have : updN f (i + (j + 1)) x i = f i := if_neg (by omega)
    rw [this, Nat.pow_succ, show f (i + (j + 1)) * (D16 ^ j * D16) = D16 * (f (i + (j + 1)) * D16 ^ j) by rw [Nat.mul_comm, Nat.mul_comm (D16 ^ j), Nat.mul_assoc, Nat.mul_comm (D16 ^ j)],
      show x * (D16 ^ j * D16) = D16 * (x * D16 ^ j) by rw [Nat.mul_comm, Nat.mul_comm (D16 ^ j), Nat.mul_assoc, Nat.mul_comm (D16 ^ j)], Nat.add_assoc, ← Nat.mul_add, Nat.add_assoc, ← Nat.mul_add, ih]
/-- a digit grows -/
theorem hs_add (f : Nat → Nat) (x : Nat) {j k : Nat} (h : j < k) : hs (updN f j (f j + x)) 0 k = hs f 0 k + x * D16 ^ j := by
  have := hs_upd f (f j + x) j k 0 h
  rw [Nat.zero_add, Nat.add_mul] at this
  omega
theorem hs_dg (V : Nat) : ∀ (k i : Nat), hs (dg D16 V) i k = hi D16 V i % D16 ^ k
  | 0, i => by rw [hs, Nat.pow_zero, Nat.mod_one]
  | k + 1, i => by
    rw [hs, hs_dg V k (i + 1), Nat.pow_succ, Nat.mul_comm (D16 ^ k), Nat.mod_mul, hi_succ, dg]
theorem hs_zero : ∀ (k i : Nat), hs (fun _ => 0) i k = 0
  | 0, _ => rfl
  | k + 1, i => by rw [hs, hs_zero k (i + 1)]; omega
theorem hs_zeros {f : Nat → Nat} (k i : Nat) (h : ∀ j, i ≤ j → j < i + k → f j = 0) : hs f i k = 0 := (hs_congr k i h).trans (hs_zero k i)
theorem hs_le {f : Nat → Nat} : ∀ (k i : Nat) {j : Nat}, i ≤ j → j < i + k → f j ≤ hs f i k
  | 0, _, _, h1, h2 => by omega
  | k + 1, i, j, h1, h2 => by
    rw [hs]
    by_cases e : j = i
    · subst e; omega
    · have := hs_le k (i + 1) (j := j) (f := f) (by omega) (by omega)
      have : hs f (i + 1) k ≤ D16 * hs f (i + 1) k := Nat.le_mul_of_pos_left _ (by decide)
      omega
theorem hs_split (f : Nat → Nat) : ∀ (k n i : Nat), hs f i (k + n) = hs f i k + D16 ^ k * hs f (i + k) n
  | 0, n, i => by simp [hs]
  | k + 1, n, i => by
    rw [show k + 1 + n = (k + n) + 1 by omega, hs, hs, hs_split f k n (i + 1), show i + 1 + k = i + (k + 1) by omega, Nat.mul_add, Nat.pow_succ, Nat.mul_comm (D16 ^ k) D16, Nat.mul_assoc, Nat.add_assoc]
/-- one step of carrying -/
theorem carry_step {f : Nat → Nat} {V i c k : Nat} (h : hi D16 V i = c + hs f i (k + 1)) : dg D16 V i = (c + f i) % 65536 ∧ hi D16 V (i + 1) = (c + f i) / 65536 + hs f (i + 1) k := by
  rw [hs] at h
  rw [hi_succ]
  unfold dg
  rw [h]
  unfold D16
  omega
end Go.Proofs.Ytfaobdakpbpkbaa
