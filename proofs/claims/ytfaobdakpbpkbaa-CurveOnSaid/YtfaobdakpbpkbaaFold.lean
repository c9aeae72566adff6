/-
  The document's folding of a product by a table, in plain Lean. Conditions: the table's first rows are small.
-/
import Derived.Test.YtfaobdakpbpkbaaVal
namespace Go.Proofs.Ytfaobdakpbpkbaa
/-- what 2^(256+16k) is -/
def rowR (m k : Nat) : Nat := D16 ^ (16 + k) % m
/-- the low half, and the table's rows so often -/
def fs (U m : Nat) : Nat → Nat
  | 0 => U % W256
  | k + 1 => fs U m k + dg D16 U (16 + k) * rowR m k
theorem fs_mod (U m : Nat) : ∀ k, fs U m k % m = U % D16 ^ (16 + k) % m
  | 0 => by rw [fs, W256_eq16]
  | k + 1 => by
    rw [fs, Nat.add_mod, fs_mod U m k, rowR, Nat.mul_mod, Nat.mod_mod, ← Nat.mul_mod, ← Nat.add_mod, show 16 + (k + 1) = 16 + k + 1 by omega, mod_succ, Nat.mul_comm (dg D16 U (16 + k))]
theorem D32 : D16 ^ 32 = W256 * W256 := by decide
theorem fs_same {U m : Nat} (h : U < W256 * W256) : fs U m 16 % m = U % m := by
  rw [fs_mod, show 16 + 16 = 32 from rfl, D32, Nat.mod_eq_of_lt h]
theorem rowR_lt {m : Nat} (h : 0 < m) (k : Nat) : rowR m k < m := Nat.mod_lt _ h
def bnd : Nat → Nat
  | 0 => W256 * W256
  | 1 => 2097152 * W256
  | 2 => W256 + 2 ^ 247
  | _ => W256
theorem dg_zero {U k : Nat} (h : U < D16 ^ k) {j : Nat} (hj : k ≤ j) : dg D16 U j = 0 := by
  unfold dg
  rw [hi_top (Nat.lt_of_lt_of_le h (Nat.pow_le_pow_right (by decide) hj))]
  rfl
theorem fs_stay {U m : Nat} (a : Nat) (h : ∀ k, a ≤ k → dg D16 U (16 + k) = 0) : ∀ d, fs U m (a + d) = fs U m a
  | 0 => rfl
  | d + 1 => by rw [← Nat.add_assoc, fs, fs_stay a h d, h (a + d) (by omega), Nat.zero_mul, Nat.add_zero]
theorem fs_b0 {U m : Nat} (hm0 : 0 < m) (hm : m < W256) : ∀ k, fs U m k < W256 + k * (65536 * W256)
  | 0 => by rw [fs, Nat.zero_mul, Nat.add_zero]; exact Nat.mod_lt _ (by decide)
  | k + 1 => by
    have ih := fs_b0 (U := U) hm0 hm k
    have h1 := rowR_lt hm0 k
    have h2 := dlt16 U (16 + k)
    have : dg D16 U (16 + k) * rowR m k ≤ 65536 * W256 := Nat.mul_le_mul (by omega) (by omega)
    rw [fs, Nat.succ_mul]
    omega
theorem d18 : 2097152 * W256 < D16 ^ 18 := by decide
theorem fs_bnd {U m r : Nat} (hm0 : 0 < m) (hm : m < W256) (h0 : rowR m 0 < 2 ^ 225) (h1 : rowR m 1 < 2 ^ 241) (h : U < bnd r) : fs U m 16 < bnd (r + 1) := by
  have hmod : U % W256 < W256 := Nat.mod_lt _ (by decide)
  match r with
  | 0 =>
    have := fs_b0 (U := U) hm0 hm 16
    have e : W256 + 16 * (65536 * W256) < 2097152 * W256 := by decide
    exact Nat.lt_trans this e
  | 1 =>
    have h : U < 2097152 * W256 := h
    have hz := fs_stay (U := U) (m := m) 2 (fun k hk => dg_zero (Nat.lt_trans h d18) (by omega)) 14
    rw [hz]
    have e2 : fs U m 2 = U % W256 + dg D16 U 16 * rowR m 0 + dg D16 U 17 * rowR m 1 := rfl
    have d0 := dlt16 U 16
    have d1 : dg D16 U 17 < 32 := by
      unfold dg hi
      refine Nat.lt_of_le_of_lt (Nat.mod_le _ _) ?_
      refine Nat.div_lt_of_lt_mul ?_
      exact Nat.lt_of_lt_of_eq h (by decide)
    have m0 : dg D16 U 16 * rowR m 0 ≤ 65536 * 2 ^ 225 := Nat.mul_le_mul (by omega) (by omega)
    have m1 : dg D16 U 17 * rowR m 1 ≤ 32 * 2 ^ 241 := Nat.mul_le_mul (by omega) (by omega)
    show fs U m 2 < W256 + 2 ^ 247
    rw [e2]
    have e : 65536 * 2 ^ 225 + 32 * 2 ^ 241 < 2 ^ 247 := by decide
    generalize (2 : Nat) ^ 247 = q at *
    generalize 65536 * 2 ^ 225 = q1 at *
    generalize 32 * 2 ^ 241 = q2 at *
    omega
  | 2 =>
    have h : U < W256 + 2 ^ 247 := h
    have hz := fs_stay (U := U) (m := m) 1 (fun k hk => dg_zero (k := 17) (Nat.lt_trans h (by decide)) (by omega)) 15
    rw [hz]
    have e2 : fs U m 1 = U % W256 + dg D16 U 16 * rowR m 0 := rfl
    have e16 : dg D16 U 16 = U / W256 := by
      unfold dg hi
      rw [← W256_eq16]
      refine Nat.mod_eq_of_lt ?_
      refine Nat.div_lt_of_lt_mul ?_
      exact Nat.lt_trans h (by decide)
    show fs U m 1 < W256
    rw [e2, e16]
    by_cases hlt : U < W256
    · rw [Nat.div_eq_of_lt hlt, Nat.zero_mul, Nat.add_zero]
      exact hmod
    · have : U / W256 = 1 := by
        have e : W256 + 2 ^ 247 < 2 * W256 := by decide
        have : U / W256 < 2 := Nat.div_lt_of_lt_mul (by rw [Nat.mul_comm]; exact Nat.lt_trans h e)
        have := Nat.div_pos (show W256 ≤ U by omega) (show 0 < W256 by decide)
        omega
      have hm' : U % W256 = U - W256 := by
        have := Nat.div_add_mod U W256
        rw [‹U / W256 = 1›, Nat.mul_one] at this
        omega
      rw [this, hm', Nat.one_mul]
      have e : 2 ^ 247 + 2 ^ 225 < W256 := by decide
      generalize (2 : Nat) ^ 247 = q at *
      generalize (2 : Nat) ^ 225 = q1 at *
      omega
  | r + 3 =>
    have h : U < W256 := h
    have hz := fs_stay (U := U) (m := m) 0 (fun k hk => dg_zero (k := 16) (by rw [← W256_eq16]; exact h) (by omega)) 16
    rw [show fs U m 16 = fs U m (0 + 16) from rfl, hz]
    exact hmod
theorem bnd_le (r : Nat) : bnd r ≤ W256 * W256 := by
  match r with
  | 0 => exact Nat.le_refl _
  | 1 => show 2097152 * W256 ≤ W256 * W256; decide
  | 2 => show W256 + 2 ^ 247 ≤ W256 * W256; decide
  | r + 3 => show W256 ≤ W256 * W256; decide
theorem bnd_s (r : Nat) : bnd (r + 1) ≤ 2097152 * W256 := by
  match r with
  | 0 => exact Nat.le_refl _
  | 1 => show W256 + 2 ^ 247 ≤ 2097152 * W256; decide
  | r + 2 => show W256 ≤ 2097152 * W256; decide
theorem small_of {U r : Nat} (h : U < bnd (r + 1)) (h0 : dg D16 U 16 = 0) (h1 : dg D16 U 17 = 0) : U < W256 := by
  have hU : U < D16 ^ 18 := Nat.lt_trans (Nat.lt_of_lt_of_le h (bnd_s r)) d18
  have e1 : U % D16 ^ 18 = U % D16 ^ 17 + D16 ^ 17 * dg D16 U 17 := mod_succ D16 U 17
  have e2 : U % D16 ^ 17 = U % D16 ^ 16 + D16 ^ 16 * dg D16 U 16 := mod_succ D16 U 16
  rw [h1, Nat.mul_zero, Nat.add_zero, Nat.mod_eq_of_lt hU] at e1
  rw [h0, Nat.mul_zero, Nat.add_zero, ← e1, ← W256_eq16] at e2
  rw [e2]
  exact Nat.mod_lt _ (by decide)
theorem bnd_0 : bnd 0 = W256 * W256 := by unfold bnd; rfl
theorem bnd_5 : bnd 5 = W256 := by unfold bnd; rfl
attribute [irreducible] bnd
end Go.Proofs.Ytfaobdakpbpkbaa
