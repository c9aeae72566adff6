/-
  Plain arithmetic of digits: sums, differences, products, bits, Montgomery's reduction.
-/
namespace Go.Proofs.Ytfaobdakpbpkbaa

/-- what lies from the i-th digit on, to a base -/
def hi (B n i : Nat) : Nat := n / B ^ i
def dg (B n i : Nat) : Nat := hi B n i % B
theorem hi_zero (B n : Nat) : hi B n 0 = n := by simp [hi]
theorem hi_succ (B n i : Nat) : hi B n (i + 1) = hi B n i / B := by unfold hi; rw [Nat.pow_succ, Nat.div_div_eq_div_mul]
theorem dg_lt {B : Nat} (h : 0 < B) (n i : Nat) : dg B n i < B := Nat.mod_lt _ h
theorem hi_top {B n k : Nat} (h : n < B ^ k) : hi B n k = 0 := Nat.div_eq_of_lt h
theorem hi_eq (B n i : Nat) : hi B n i = B * hi B n (i + 1) + dg B n i := by rw [hi_succ]; unfold dg; exact (Nat.div_add_mod _ _).symm
theorem dg_ext {B n m k : Nat} (hn : n < B ^ k) (hm : m < B ^ k) (h : ∀ i, i < k → dg B n i = dg B m i) : n = m := by
  have key : ∀ j, j ≤ k → hi B n (k - j) = hi B m (k - j) := by
    intro j
    induction j with
    | zero => intro _; rw [Nat.sub_zero, hi_top hn, hi_top hm]
    | succ j ih =>
      intro hj
      have e : k - (j + 1) + 1 = k - j := by omega
      have h1 := ih (by omega)
      rw [hi_eq B n, hi_eq B m, e, h1, h _ (by omega)]
  have := key k (Nat.le_refl _)
  rw [Nat.sub_self, hi_zero, hi_zero] at this
  exact this
theorem dg_mod {B n k i : Nat} (hi' : i < k) : dg B (n % B ^ k) i = dg B n i := by
  unfold dg hi
  have e : B ^ k = B ^ i * B ^ (k - i) := by rw [← Nat.pow_add]; congr 1; omega
  have e2 : B ^ (k - i) = B * B ^ (k - i - 1) := by rw [← Nat.pow_succ']; congr 1; omega
  rw [e, Nat.mod_mul_right_div_self, e2, Nat.mod_mul_right_mod]
theorem hi_lt {B n k i : Nat} (hB : 0 < B) (h : n < B ^ k) (hik : i ≤ k) : hi B n i < B ^ (k - i) := by
  unfold hi
  rw [Nat.div_lt_iff_lt_mul (Nat.pow_pos hB), ← Nat.pow_add]
  rw [Nat.sub_add_cancel hik]; exact h
theorem lt_of_hi {B a b i : Nat} (h : hi B a i < hi B b i) : a < b := by
  rcases Nat.lt_or_ge a b with h' | h'
  · exact h'
  · exact absurd (Nat.div_le_div_right (c := B ^ i) h') (Nat.not_le.2 h)

/-! ### words of 32 bits -/
abbrev W32 : Nat := 4294967296
abbrev W256 : Nat := 115792089237316195423570985008687907853269984665640564039457584007913129639936
theorem W256_eq : W256 = W32 ^ 8 := by decide
theorem add_step {a b c i : Nat} (h : hi W32 (a + b) i = hi W32 a i + hi W32 b i + c) :
    (c + (dg W32 a i + dg W32 b i)) % 4294967296 = dg W32 (a + b) i ∧ hi W32 (a + b) (i + 1) = hi W32 a (i + 1) + hi W32 b (i + 1) + (c + (dg W32 a i + dg W32 b i)) / 4294967296 := by
  rw [hi_succ, hi_succ, hi_succ]
  unfold dg W32 at *
  generalize hi 4294967296 (a + b) i = S at *
  generalize hi 4294967296 a i = X at *
  generalize hi 4294967296 b i = Y at *
  omega
theorem sub_step {a b c i : Nat} (hi8 : i < 8) (h : hi W32 (a + W256 - b) i + hi W32 b i + c = hi W32 a i + W32 ^ (8 - i)) (hc : c ≤ 1) :
    ((dg W32 a i + 18446744073709551616 - dg W32 b i) % 18446744073709551616 + 18446744073709551616 - c) % 18446744073709551616 % 4294967296 = dg W32 (a + W256 - b) i ∧
    hi W32 (a + W256 - b) (i + 1) + hi W32 b (i + 1) + ((dg W32 a i + 18446744073709551616 - dg W32 b i) % 18446744073709551616 + 18446744073709551616 - c) % 18446744073709551616 / 9223372036854775808 = hi W32 a (i + 1) + W32 ^ (8 - (i + 1)) ∧
    ((dg W32 a i + 18446744073709551616 - dg W32 b i) % 18446744073709551616 + 18446744073709551616 - c) % 18446744073709551616 / 9223372036854775808 ≤ 1 := by
  have e : W32 ^ (8 - i) = W32 * W32 ^ (8 - (i + 1)) := by rw [← Nat.pow_succ']; congr 1; omega
  rw [e] at h
  rw [hi_succ, hi_succ, hi_succ]
  unfold dg at *
  generalize W32 ^ (8 - (i + 1)) = P at *
  unfold W32 at *
  generalize hi 4294967296 (a + W256 - b) i = S at *
  generalize hi 4294967296 a i = X at *
  generalize hi 4294967296 b i = Y at *
  omega
/-- a product's row: s = t + x·y, digit by digit -/
theorem mul_step {t x y c i : Nat} (hx : x < W32) (hc : c < W32) (h : hi W32 (t + x * y) i = hi W32 t i + x * hi W32 y i + c) :
    c + (x * dg W32 y i + dg W32 t i) < 18446744073709551616 ∧ (c + (x * dg W32 y i + dg W32 t i)) % 4294967296 = dg W32 (t + x * y) i ∧
    hi W32 (t + x * y) (i + 1) = hi W32 t (i + 1) + x * hi W32 y (i + 1) + (c + (x * dg W32 y i + dg W32 t i)) / 4294967296 ∧ (c + (x * dg W32 y i + dg W32 t i)) / 4294967296 < W32 := by
  have e := hi_eq W32 y i
  have e2 : x * hi W32 y i = W32 * (x * hi W32 y (i + 1)) + x * dg W32 y i := by
    rw [e, Nat.mul_add, ← Nat.mul_assoc, Nat.mul_comm x W32, Nat.mul_assoc]
  have hd := dg_lt (B := W32) (by decide) y i
  have hb : x * dg W32 y i ≤ 4294967295 * 4294967295 := Nat.mul_le_mul (Nat.le_of_lt_succ hx) (Nat.le_of_lt_succ hd)
  have ht := dg_lt (B := W32) (by decide) t i
  rw [e2] at h
  have et := hi_eq W32 t i
  have es := hi_eq W32 (t + x * y) i
  have hs := dg_lt (B := W32) (by decide) (t + x * y) i
  rw [show W32 = 4294967296 from rfl] at *
  generalize dg 4294967296 (t + x * y) i = ds at *
  generalize hi 4294967296 (t + x * y) i = S at *
  generalize hi 4294967296 (t + x * y) (i + 1) = S' at *
  generalize dg 4294967296 t i = dt at *
  generalize hi 4294967296 t i = T at *
  generalize hi 4294967296 t (i + 1) = T' at *
  generalize x * dg 4294967296 y i = q at *
  generalize x * hi 4294967296 y (i + 1) = p at *
  omega
/-! ### bits -/
theorem mod_div_bit (X k r : Nat) (h : r < k) : X % 2 ^ k / 2 ^ r % 2 = X / 2 ^ r % 2 := by
  have e : 2 ^ k = 2 ^ r * 2 ^ (k - r) := by rw [← Nat.pow_add]; congr 1; omega
  have e2 : 2 ^ (k - r) = 2 * 2 ^ (k - r - 1) := by rw [← Nat.pow_succ']; congr 1; omega
  rw [e, Nat.mod_mul_right_div_self, e2, Nat.mod_mul_right_mod]
theorem bit_dg (n i : Nat) : dg W32 n (i / 32) / 2 ^ (i % 32) % 2 = n / 2 ^ i % 2 := by
  unfold dg hi W32
  rw [show (4294967296 : Nat) = 2 ^ 32 from rfl, mod_div_bit _ _ _ (Nat.mod_lt _ (by decide)), ← Nat.pow_mul, Nat.div_div_eq_div_mul, ← Nat.pow_add]
  congr 3
  omega
theorem bit_dg16 (n i : Nat) : dg 65536 n (i / 16) / 2 ^ (i % 16) % 2 = n / 2 ^ i % 2 := by
  unfold dg hi
  rw [show (65536 : Nat) = 2 ^ 16 from rfl, mod_div_bit _ _ _ (Nat.mod_lt _ (by decide)), ← Nat.pow_mul, Nat.div_div_eq_div_mul, ← Nat.pow_add]
  congr 3
  omega
theorem bit_step (n i : Nat) : n / 2 ^ i = 2 * (n / 2 ^ (i + 1)) + n / 2 ^ i % 2 := by
  rw [Nat.pow_succ, ← Nat.div_div_eq_div_mul]; omega
/-- Horner's rule modulo m -/
theorem horner (n m i : Nat) : (2 * (n / 2 ^ (i + 1) % m) + n / 2 ^ i % 2) % m = n / 2 ^ i % m := by
  conv => rhs; rw [bit_step n i]
  rw [Nat.add_mod, Nat.mul_mod, Nat.mod_mod, ← Nat.mul_mod, ← Nat.add_mod]
/-! ### Montgomery -/
def half (m : Nat) : Nat := (m + 1) / 2
def rinv (m : Nat) : Nat := half m ^ 256
theorem two_half {m : Nat} (h : m % 2 = 1) : 2 * half m = m + 1 := by unfold half; omega
theorem W_rinv {m : Nat} (h : m % 2 = 1) : W256 * rinv m % m = 1 % m := by
  have e : W256 * rinv m = (m + 1) ^ 256 := by
    unfold rinv
    rw [show W256 = 2 ^ 256 from by decide, ← Nat.mul_pow, two_half h]
  rw [e, Nat.pow_mod, Nat.add_mod_left, ← Nat.pow_mod, Nat.one_pow]
theorem unW {m x y : Nat} (h : m % 2 = 1) (he : x * W256 % m = y % m) : x % m = y * rinv m % m := by
  have h1 : x * W256 * rinv m % m = y * rinv m % m := by rw [Nat.mul_mod, he, ← Nat.mul_mod]
  rw [← h1, Nat.mul_assoc, Nat.mul_mod, W_rinv h, ← Nat.mul_mod, Nat.mul_one]
theorem inW {m x : Nat} (h : m % 2 = 1) : x * W256 * rinv m % m = x % m := by
  rw [Nat.mul_assoc, Nat.mul_mod, W_rinv h, ← Nat.mul_mod, Nat.mul_one]
theorem inW' {m x : Nat} (h : m % 2 = 1) : x * rinv m * W256 % m = x % m := by
  rw [Nat.mul_assoc, Nat.mul_comm (rinv m), ← Nat.mul_assoc]; exact inW h
/-- a round towards 1/m modulo 2^32 -/
theorem inv_round {m x d : Nat} (hdd : d * d ∣ 4294967296) (h : (d : Int) ∣ (m : Int) * x - 1) :
    ((d * d : Nat) : Int) ∣ (m : Int) * ((x * ((2 + 4294967296 - m * x % 4294967296) % 4294967296) % 4294967296 : Nat) : Int) - 1 := by
  obtain ⟨k1, hk1⟩ : ∃ k1 : Int, (((2 + 4294967296 - m * x % 4294967296) % 4294967296 : Nat) : Int) = 2 - (m : Int) * x + 4294967296 * k1 := by
    have : ((m * x : Nat) : Int) = (m : Int) * x := by simp
    rw [← this]
    generalize m * x = p
    exact ⟨1 + ((p / 4294967296 : Nat) : Int) - (((2 + 4294967296 - p % 4294967296) / 4294967296 : Nat) : Int), by omega⟩
  generalize (2 + 4294967296 - m * x % 4294967296) % 4294967296 = r at *
  obtain ⟨k2, hk2⟩ : ∃ k2 : Int, ((x * r % 4294967296 : Nat) : Int) = (x : Int) * r + 4294967296 * k2 := by
    have : ((x * r : Nat) : Int) = (x : Int) * r := by simp
    rw [← this]
    generalize x * r = p
    exact ⟨- ((p / 4294967296 : Nat) : Int), by omega⟩
  rw [hk2, hk1]
  obtain ⟨u, hu⟩ := h
  obtain ⟨v, hv⟩ := hdd
  have e1 : (m : Int) * (x * (2 - m * x + 4294967296 * k1) + 4294967296 * k2) - 1 = - ((m * x - 1) * (m * x - 1)) + 4294967296 * (m * (x * k1 + k2)) := by
    simp only [Int.mul_add, Int.mul_sub, Int.sub_mul, Int.mul_one, Int.one_mul]
    have a1 : (m : Int) * (x * (m * x)) = m * x * (m * x) := by rw [Int.mul_assoc]
    have a2 : (m : Int) * (x * 2) = m * x * 2 := by rw [Int.mul_assoc]
    have a3 : (m : Int) * (x * (4294967296 * k1)) = 4294967296 * (m * (x * k1)) := by rw [← Int.mul_assoc (x : Int), Int.mul_comm (x : Int), Int.mul_assoc, ← Int.mul_assoc (m : Int), Int.mul_comm (m : Int), Int.mul_assoc]
    have a4 : (m : Int) * (4294967296 * k2) = 4294967296 * (m * k2) := by rw [← Int.mul_assoc, Int.mul_comm (m : Int), Int.mul_assoc]
    rw [a1, a2, a3, a4]
    omega
  rw [e1, hu]
  have e2 : (4294967296 : Int) = ((d * d : Nat) : Int) * (v : Int) := by rw [← Int.natCast_mul, ← hv]; rfl
  refine Int.dvd_add (Int.dvd_neg.2 ⟨u * u, ?_⟩) ⟨v * (m * (x * k1 + k2)), ?_⟩
  · simp only [Int.natCast_mul]
    rw [Int.mul_assoc, Int.mul_assoc, ← Int.mul_assoc u, Int.mul_comm u (d : Int), Int.mul_assoc]
  · rw [e2, Int.mul_assoc]
theorem neg_ok {m x : Nat} (h : ((4294967296 : Nat) : Int) ∣ (m : Int) * x - 1) : (m * ((4294967296 - x % 4294967296) % 4294967296) + 1) % 4294967296 = 0 := by
  obtain ⟨u, hu⟩ := h
  obtain ⟨k, hk⟩ : ∃ k : Int, (((4294967296 - x % 4294967296) % 4294967296 : Nat) : Int) = - (x : Int) + 4294967296 * k :=
    ⟨1 + ((x / 4294967296 : Nat) : Int) - (((4294967296 - x % 4294967296) / 4294967296 : Nat) : Int), by omega⟩
  generalize (4294967296 - x % 4294967296) % 4294967296 = r at *
  have e : ((m * r + 1 : Nat) : Int) = 4294967296 * (m * k - u) := by
    simp only [Int.natCast_add, Int.natCast_mul, hk, Int.mul_add, Int.mul_sub, Int.mul_neg]
    have a4 : (m : Int) * (4294967296 * k) = 4294967296 * (m * k) := by rw [← Int.mul_assoc, Int.mul_comm (m : Int), Int.mul_assoc]
    rw [a4]
    omega
  omega
theorem mont_q {m neg t : Nat} (h : (m * neg + 1) % 4294967296 = 0) : (t + t % 4294967296 * neg % 4294967296 * m) % 4294967296 = 0 := by
  have e : (t + t % 4294967296 * neg % 4294967296 * m) % 4294967296 = (t * (m * neg + 1)) % 4294967296 := by
    rw [Nat.add_mod, Nat.mul_mod, Nat.mod_mod, ← Nat.mul_mod, ← Nat.add_mod, Nat.mul_assoc, Nat.add_mod, Nat.mul_mod (t % 4294967296), Nat.mod_mod, ← Nat.mul_mod, ← Nat.add_mod]
    congr 1
    rw [Nat.mul_add, Nat.mul_one, Nat.mul_comm m neg, Nat.add_comm]
  rw [e, Nat.mul_mod, h, Nat.mul_zero, Nat.zero_mod]
theorem mod_succ (B a i : Nat) : a % B ^ (i + 1) = a % B ^ i + B ^ i * dg B a i := by
  unfold dg hi
  rw [Nat.pow_succ, Nat.mod_mul]
/-- one word of a, the b taken so often, the lowest word cleared -/
theorem mont_step {m a b T neg i : Nat} (hneg : (m * neg + 1) % 4294967296 = 0) (hb : b < m) (hT : T < 2 * m) (h : T * W32 ^ i % m = (a % W32 ^ i) * b % m) :
    let T1 := T + dg W32 a i * b
    let q := T1 % 4294967296 * neg % 4294967296
    (T1 + q * m) % 4294967296 = 0 ∧ (T1 + q * m) / 4294967296 < 2 * m ∧ (T1 + q * m) / 4294967296 * W32 ^ (i + 1) % m = (a % W32 ^ (i + 1)) * b % m := by
  intro T1 q
  have h0 : (T1 + q * m) % 4294967296 = 0 := mont_q hneg
  have hd := dg_lt (B := W32) (by decide) a i
  have hq : q < 4294967296 := Nat.mod_lt _ (by decide)
  have b1 : dg W32 a i * b ≤ 4294967295 * m := Nat.mul_le_mul (Nat.le_of_lt_succ hd) (Nat.le_of_lt hb)
  have b2 : q * m ≤ 4294967295 * m := Nat.mul_le_mul_right _ (by omega)
  have e : (T1 + q * m) / 4294967296 * 4294967296 = T1 + q * m := by omega
  refine ⟨h0, by omega, ?_⟩
  have e2 : (T1 + q * m) / 4294967296 * W32 ^ (i + 1) = (T1 + q * m) * W32 ^ i := by
    rw [Nat.pow_succ, Nat.mul_comm (W32 ^ i), ← Nat.mul_assoc]
    rw [show (T1 + q * m) / 4294967296 * W32 = (T1 + q * m) / 4294967296 * 4294967296 from rfl, e]
  rw [e2, mod_succ, Nat.add_mul, Nat.mul_assoc q, Nat.mul_comm m, ← Nat.mul_assoc, Nat.add_mul_mod_self_right]
  show (T + dg W32 a i * b) * W32 ^ i % m = _
  rw [Nat.add_mul, Nat.add_mul, Nat.add_mod, h, ← Nat.add_mod]
  congr 2
  rw [Nat.mul_comm _ (W32 ^ i), Nat.mul_assoc]
theorem once {m T : Nat} (h : T < 2 * m) : T % m = if m ≤ T then T - m else T := by
  split
  · rw [Nat.mod_eq_sub_mod (by assumption), Nat.mod_eq_of_lt (by omega)]
  · exact Nat.mod_eq_of_lt (by omega)
theorem half_step {a m : Nat} (hm : m % 2 = 1) (ha : a < m) : (a + a % 2 * m) / 2 = a * half m % m := by
  have e : 2 * ((a + a % 2 * m) / 2) = a + a % 2 * m := by
    rcases Nat.mod_two_eq_zero_or_one a with h | h <;> rw [h] <;> omega
  have hlt : (a + a % 2 * m) / 2 < m := by
    rcases Nat.mod_two_eq_zero_or_one a with h | h <;> rw [h] <;> omega
  generalize (a + a % 2 * m) / 2 = x at *
  have h1 : x * (2 * half m) % m = a * half m % m := by
    rw [← Nat.mul_assoc, Nat.mul_comm x 2, e, Nat.add_mul, Nat.mul_assoc (a % 2), Nat.mul_comm m, ← Nat.mul_assoc, Nat.add_mul_mod_self_right]
  rw [two_half hm, Nat.mul_add, Nat.mul_one, Nat.add_comm, Nat.add_mul_mod_self_right, Nat.mod_eq_of_lt hlt] at h1
  exact h1
end Go.Proofs.Ytfaobdakpbpkbaa
