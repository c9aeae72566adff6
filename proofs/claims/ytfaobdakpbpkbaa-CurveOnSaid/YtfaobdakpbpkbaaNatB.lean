/-
  Plain arithmetic of digits of 16 bits: the reference's sums, differences, products, halves.
-/
import Derived.Test.YtfaobdakpbpkbaaNat
namespace Go.Proofs.Ytfaobdakpbpkbaa
abbrev D16 : Nat := 65536
theorem dlt16 (n i : Nat) : dg D16 n i < 65536 := dg_lt (by decide) n i
theorem W256_eq16 : W256 = D16 ^ 16 := by decide
theorem hi_pair (n q : Nat) : hi D16 n (2 * q) = hi W32 n q := by
  unfold hi
  rw [Nat.pow_mul, show D16 ^ 2 = W32 by decide]
theorem dg_lo (n q : Nat) : dg D16 n (2 * q) = dg W32 n q % 65536 := by
  unfold dg
  rw [hi_pair]
  show hi W32 n q % 65536 = hi W32 n q % 4294967296 % 65536
  omega
theorem dg_hi (n q : Nat) : dg D16 n (2 * q + 1) = dg W32 n q / 65536 := by
  unfold dg
  rw [hi_succ, hi_pair]
  show hi W32 n q / 65536 % 65536 = hi W32 n q % 4294967296 / 65536
  omega
theorem of_step (n i : Nat) : dg W32 n (i / 2) / 2 ^ (16 * (i % 2)) % 65536 = dg D16 n i := by
  rcases Nat.mod_two_eq_zero_or_one i with h | h
  · have e : i = 2 * (i / 2) := by omega
    rw [h, Nat.mul_zero, Nat.pow_zero, Nat.div_one]
    conv => rhs; rw [e]
    rw [dg_lo]
  · have e : i = 2 * (i / 2) + 1 := by omega
    rw [h]
    conv => rhs; rw [e]
    rw [dg_hi]
    have := dg_lt (B := W32) (by decide) n (i / 2)
    show dg W32 n (i / 2) / 65536 % 65536 = _
    have h' : dg W32 n (i / 2) < 4294967296 := this
    omega
/-- the words, when i digits have been laid -/
def wf (n i : Nat) : Nat → Nat := fun j => if j < i / 2 then dg W32 n j else if j = i / 2 ∧ i % 2 = 1 then dg W32 n j % 65536 else 0
theorem wf_zero (n : Nat) : wf n 0 = fun _ => 0 := by funext j; simp [wf]
theorem wf_step (n i j : Nat) : (if j = i / 2 then (wf n i (i / 2) + dg D16 n i * 2 ^ (16 * (i % 2)) % 4294967296) % 4294967296 else wf n i j) = wf n (i + 1) j := by
  have hd : dg W32 n (i / 2) < 4294967296 := dg_lt (B := W32) (by decide) n (i / 2)
  unfold wf
  rcases Nat.mod_two_eq_zero_or_one i with h | h
  · have e : i = 2 * (i / 2) := by omega
    have e1 : (i + 1) / 2 = i / 2 := by omega
    have e2 : (i + 1) % 2 = 1 := by omega
    have ed : dg D16 n i = dg W32 n (i / 2) % 65536 := (congrArg (dg D16 n) e).trans (dg_lo _ _)
    rw [e1, e2, h, ed]
    by_cases hj : j = i / 2
    · subst hj; simp; omega
    · by_cases hl : j < i / 2
      · simp [hj, hl]
      · simp [hj, hl]
  · have e : i = 2 * (i / 2) + 1 := by omega
    have e1 : (i + 1) / 2 = i / 2 + 1 := by omega
    have e2 : (i + 1) % 2 = 0 := by omega
    have ed : dg D16 n i = dg W32 n (i / 2) / 65536 := (congrArg (dg D16 n) e).trans (dg_hi _ _)
    rw [e1, e2, h, ed]
    by_cases hj : j = i / 2
    · subst hj; simp; omega
    · by_cases hl : j < i / 2
      · have : j < i / 2 + 1 := by omega
        simp [hj, hl, this]
      · have : ¬ j < i / 2 + 1 := by omega
        simp [hj, hl, this]
theorem wf_end (n j : Nat) (h : j < 8) : wf n 16 j = dg W32 n j := by unfold wf; rw [if_pos (by omega)]
theorem add16 {a b c i : Nat} (h : hi D16 (a + b) i = hi D16 a i + hi D16 b i + c) :
    (dg D16 a i + dg D16 b i + c) % 65536 = dg D16 (a + b) i ∧ hi D16 (a + b) (i + 1) = hi D16 a (i + 1) + hi D16 b (i + 1) + (dg D16 a i + dg D16 b i + c) / 65536 := by
  rw [hi_succ, hi_succ, hi_succ]
  unfold dg D16 at *
  generalize hi 65536 (a + b) i = S at *
  generalize hi 65536 a i = X at *
  generalize hi 65536 b i = Y at *
  omega
theorem twice16 {a b c i : Nat} (h : hi D16 (2 * a + b) i = 2 * hi D16 a i + c) :
    (2 * dg D16 a i + c) % 65536 = dg D16 (2 * a + b) i ∧ hi D16 (2 * a + b) (i + 1) = 2 * hi D16 a (i + 1) + (2 * dg D16 a i + c) / 65536 := by
  rw [hi_succ, hi_succ]
  unfold dg D16 at *
  generalize hi 65536 (2 * a + b) i = S at *
  generalize hi 65536 a i = X at *
  omega
theorem take16 {T b c i : Nat} (hc : c ≤ 1) (h : hi D16 (T - b) i + hi D16 b i + c = hi D16 T i) :
    dg D16 b i + c ≤ dg D16 T i + 65536 ∧ (dg D16 T i + 65536 - dg D16 b i - c) % 65536 = dg D16 (T - b) i ∧ (dg D16 T i + 65536 - dg D16 b i - c) / 65536 ≤ 1 ∧
    hi D16 (T - b) (i + 1) + hi D16 b (i + 1) + (1 - (dg D16 T i + 65536 - dg D16 b i - c) / 65536) = hi D16 T (i + 1) := by
  rw [hi_succ, hi_succ, hi_succ]
  unfold dg D16 at *
  generalize hi 65536 (T - b) i = S at *
  generalize hi 65536 T i = X at *
  generalize hi 65536 b i = Y at *
  omega
theorem mul16 {t x y c i : Nat} (hx : x < D16) (hc : c < D16) (h : hi D16 (t + x * y) i = hi D16 t i + x * hi D16 y i + c) :
    c + (dg D16 t i + x * dg D16 y i) < 18446744073709551616 ∧ (c + (dg D16 t i + x * dg D16 y i)) % 65536 = dg D16 (t + x * y) i ∧
    hi D16 (t + x * y) (i + 1) = hi D16 t (i + 1) + x * hi D16 y (i + 1) + (c + (dg D16 t i + x * dg D16 y i)) / 65536 ∧ (c + (dg D16 t i + x * dg D16 y i)) / 65536 < D16 := by
  have e := hi_eq D16 y i
  have e2 : x * hi D16 y i = D16 * (x * hi D16 y (i + 1)) + x * dg D16 y i := by
    rw [e, Nat.mul_add, ← Nat.mul_assoc, Nat.mul_comm x D16, Nat.mul_assoc]
  have hd := dlt16 y i
  have hb : x * dg D16 y i ≤ 65535 * 65535 := Nat.mul_le_mul (Nat.le_of_lt_succ hx) (Nat.le_of_lt_succ hd)
  have ht := dlt16 t i
  rw [e2] at h
  have et := hi_eq D16 t i
  have es := hi_eq D16 (t + x * y) i
  have hs := dlt16 (t + x * y) i
  rw [show D16 = 65536 from rfl] at *
  generalize dg 65536 (t + x * y) i = ds at *
  generalize hi 65536 (t + x * y) i = S at *
  generalize hi 65536 (t + x * y) (i + 1) = S' at *
  generalize dg 65536 t i = dt at *
  generalize hi 65536 t i = T at *
  generalize hi 65536 t (i + 1) = T' at *
  generalize x * dg 65536 y i = q at *
  generalize x * hi 65536 y (i + 1) = p at *
  omega
theorem hi_hi (B n i j : Nat) : hi B (hi B n i) j = hi B n (i + j) := by unfold hi; rw [Nat.div_div_eq_div_mul, ← Nat.pow_add]
theorem dg_hi' (B n i j : Nat) : dg B (hi B n i) j = dg B n (i + j) := by unfold dg; rw [hi_hi]
/-- the i-th row of a product -/
theorem row_hi (a b i : Nat) : hi D16 ((a % D16 ^ (i + 1)) * b) i = hi D16 ((a % D16 ^ i) * b) i + dg D16 a i * b := by
  unfold hi
  rw [mod_succ, Nat.add_mul, Nat.mul_assoc, Nat.add_mul_div_left _ _ (Nat.pow_pos (by decide))]
theorem row_lo (a b : Nat) {i j : Nat} (h : j < i) : dg D16 ((a % D16 ^ (i + 1)) * b) j = dg D16 ((a % D16 ^ i) * b) j := by
  unfold dg hi
  rw [mod_succ, Nat.add_mul, Nat.mul_assoc]
  have e0 : D16 ^ i = D16 ^ j * (D16 * D16 ^ (i - j - 1)) := by
    rw [← Nat.pow_succ', ← Nat.pow_add]
    congr 1
    omega
  have e : D16 ^ i * (dg D16 a i * b) = D16 ^ j * (D16 * (D16 ^ (i - j - 1) * (dg D16 a i * b))) := by
    rw [e0]
    simp only [Nat.mul_assoc]
  rw [e, Nat.add_mul_div_left _ _ (Nat.pow_pos (by decide)), Nat.add_mul_mod_self_left]
theorem half16 (t i : Nat) : dg D16 t i / 2 + dg D16 t (i + 1) % 2 * 32768 = dg D16 (t / 2) i := by
  have e : hi D16 (t / 2) i = hi D16 t i / 2 := by
    unfold hi
    rw [Nat.div_div_eq_div_mul, Nat.div_div_eq_div_mul, Nat.mul_comm]
  unfold dg
  rw [e, hi_succ]
  show hi D16 t i % 65536 / 2 + hi D16 t i / 65536 % 65536 % 2 * 32768 = hi D16 t i / 2 % 65536
  generalize hi D16 t i = X
  omega
end Go.Proofs.Ytfaobdakpbpkbaa
