/-
  P-256's two primes: certificates (Pratt), checked by the kernel; Fermat's little theorem for both. Conditions: none.
-/
import Derived.Test.YtfaobdakpbpkbaaNat
namespace Go.Proofs.Ytfaobdakpbpkbaa.Prim
theorem pigeon : ∀ (n : Nat) (f : Nat → Nat), (∀ i, i < n → f i < n) → (∀ i j, i < n → j < n → f i = f j → i = j) → ∀ y, y < n → ∃ i, i < n ∧ f i = y := by
  intro n
  induction n with
  | zero => intro f _ _ y hy; omega
  | succ n ih =>
    intro f hr hi y hy
    by_cases hn : ∃ i, i < n ∧ f i = n
    · obtain ⟨k, hk, hfk⟩ := hn
      have hfn : f n < n := by
        have h1 := hr n (by omega)
        have h2 : f n ≠ n := fun h => by
          have := hi k n (by omega) (by omega) (by rw [hfk, h])
          omega
        omega
      by_cases hyn : y = n
      · exact ⟨k, by omega, by rw [hfk, hyn]⟩
      · have := ih (fun i => if i = k then f n else f i)
          (fun i hin => by
            split
            · exact hfn
            · have h1 := hr i (by omega)
              have h2 : f i ≠ n := fun h => by
                have := hi i k (by omega) (by omega) (by rw [h, hfk])
                omega
              omega)
          (fun i j hin hjn h => by
            split at h <;> split at h
            · omega
            · have := hi n j (by omega) (by omega) h
              omega
            · have := hi i n (by omega) (by omega) h
              omega
            · exact hi i j (by omega) (by omega) h)
          y (by omega)
        obtain ⟨i, hin, h⟩ := this
        split at h
        · exact ⟨n, by omega, h⟩
        · exact ⟨i, by omega, h⟩
    · have hlt : ∀ i, i < n → f i < n := fun i hin => by
        have h1 := hr i (by omega)
        have h2 : f i ≠ n := fun h => hn ⟨i, hin, h⟩
        omega
      have hsur := ih f hlt (fun i j hin hjn h => hi i j (by omega) (by omega) h)
      by_cases hfn : f n < n
      · obtain ⟨i, hin, h⟩ := hsur (f n) hfn
        have := hi i n (by omega) (by omega) h
        omega
      · have hfn' : f n = n := by have := hr n (by omega); omega
        by_cases hyn : y = n
        · exact ⟨n, by omega, by rw [hfn', hyn]⟩
        · obtain ⟨i, hin, h⟩ := hsur y (by omega)
          exact ⟨i, by omega, h⟩
/-- no proper divisor -/
def Pr (q : Nat) : Prop := 1 < q ∧ ∀ d, d ∣ q → d = 1 ∨ d = q
def prodL : List Nat → Nat
  | [] => 1
  | q :: r => q * prodL r
theorem prime_in {L : List Nat} (h : ∀ q, q ∈ L → Pr q) : ∀ e, e ∣ prodL L → e ≠ 1 → ∃ q, q ∈ L ∧ q ∣ e := by
  induction L with
  | nil => intro e he h1; exact absurd (Nat.dvd_one.mp he) h1
  | cons q r ih =>
    intro e he h1
    by_cases hq : q ∣ e
    · exact ⟨q, .head _, hq⟩
    · have hc : Nat.Coprime e q := by
        have hp := (h q (.head _)).2 (Nat.gcd e q) (Nat.gcd_dvd_right _ _)
        rcases hp with hp | hp
        · exact hp
        · exact absurd (hp ▸ Nat.gcd_dvd_left e q) hq
      obtain ⟨x, hx, hd⟩ := ih (fun q hq => h q (.tail _ hq)) e (hc.dvd_of_dvd_mul_left he) h1
      exact ⟨x, .tail _ hx, hd⟩
theorem one_pow_mod {g m k : Nat} (n : Nat) (h : g ^ k % m = 1 % m) : g ^ (k * n) % m = 1 % m := by
  rw [Nat.pow_mul, Nat.pow_mod, h, ← Nat.pow_mod, Nat.one_pow]
theorem gcd_one {g m : Nat} (a b : Nat) : g ^ a % m = 1 % m → g ^ b % m = 1 % m → g ^ (Nat.gcd a b) % m = 1 % m := by
  induction a, b using Nat.gcd.induction with
  | H0 n => intro _ h; rw [Nat.gcd_zero_left]; exact h
  | H1 a b ha ih =>
    intro h1 h2
    rw [Nat.gcd_rec]
    refine ih ?_ h1
    have e : b = b % a + a * (b / a) := (Nat.mod_add_div b a).symm
    rw [e, Nat.pow_add, Nat.mul_mod, one_pow_mod _ h1, ← Nat.mul_mod, Nat.mul_one] at h2
    exact h2
/-- powers by digits of base 256, from the top -/
def powL (g m : Nat) : List Nat → Nat → Nat
  | [], x => x
  | d :: r, x => powL g m r (x ^ 256 * g ^ d % m)
def valL : List Nat → Nat → Nat
  | [], x => x
  | d :: r, x => valL r (x * 256 + d)
theorem powL_val (g m : Nat) : ∀ (l : List Nat) (e : Nat), powL g m l (g ^ e % m) = g ^ valL l e % m := by
  intro l
  induction l with
  | nil => intro e; rfl
  | cons d r ih =>
    intro e
    rw [powL, valL, ← ih]
    congr 1
    rw [Nat.mul_mod, ← Nat.pow_mod, ← Nat.mul_mod, ← Nat.pow_mul, ← Nat.pow_add]
/-- the multiplicative order of g is m - 1 -/
def Gen (g m : Nat) : Prop := 1 < m ∧ g ^ (m - 1) % m = 1 ∧ ∀ k, 0 < k → k < m - 1 → g ^ k % m ≠ 1
theorem gen_of {g m : Nat} {L : List Nat} (h1 : 1 < m) (hL : ∀ q, q ∈ L → Pr q) (hp : prodL L = m - 1) (hf : g ^ (m - 1) % m = 1) (hn : ∀ q, q ∈ L → g ^ ((m - 1) / q) % m ≠ 1) : Gen g m := by
  refine ⟨h1, hf, fun k hk hkm h => ?_⟩
  have e1 : 1 % m = 1 := Nat.mod_eq_of_lt h1
  have hg := gcd_one (g := g) (m := m) k (m - 1) (by rw [h, e1]) (by rw [hf, e1])
  have hd : Nat.gcd k (m - 1) ∣ m - 1 := Nat.gcd_dvd_right _ _
  have hle : Nat.gcd k (m - 1) ≤ k := Nat.gcd_le_left _ hk
  generalize Nat.gcd k (m - 1) = d at *
  obtain ⟨e, he⟩ := hd
  have hd0 : 0 < d := Nat.pos_of_ne_zero fun h0 => by rw [h0, Nat.zero_mul] at he; omega
  have he1 : e ≠ 1 := fun h0 => by rw [h0, Nat.mul_one] at he; omega
  obtain ⟨q, hq, x, hx⟩ := prime_in hL e (by rw [hp, he]; exact Nat.dvd_mul_left _ _) he1
  have hq1 := (hL q hq).1
  apply hn q hq
  have e2 : (m - 1) / q = d * x := by rw [he, hx, show d * (q * x) = q * (d * x) by rw [Nat.mul_left_comm], Nat.mul_div_cancel_left _ (by omega)]
  rw [e2, one_pow_mod _ hg, e1]
theorem gen_all {g m : Nat} (h : Gen g m) (a : Nat) (ha : 0 < a) (ham : a < m) : ∃ k, k < m - 1 ∧ g ^ k % m = a := by
  obtain ⟨h1, hf, hn⟩ := h
  have h1m : 1 % m = 1 := Nat.mod_eq_of_lt h1
  have hpos : ∀ i, i < m - 1 → 0 < g ^ i % m := fun i hi => Nat.pos_of_ne_zero fun h0 => by
    have e : g ^ (m - 1) = g ^ i * g ^ (m - 1 - i) := by rw [← Nat.pow_add]; congr 1; omega
    rw [e, Nat.mul_mod, h0, Nat.zero_mul, Nat.zero_mod] at hf
    omega
  have hinj : ∀ i j, i < j → j < m - 1 → g ^ i % m = g ^ j % m → False := fun i j hij hj h => by
    apply hn (m - 1 - j + i) (by omega) (by omega)
    rw [Nat.pow_add, Nat.mul_mod, h, ← Nat.mul_mod, ← Nat.pow_add, show m - 1 - j + j = m - 1 by omega, hf]
  obtain ⟨k, hk, hka⟩ := pigeon (m - 1) (fun i => g ^ i % m - 1)
    (fun i hi => by have := Nat.mod_lt (g ^ i) (show 0 < m by omega); omega)
    (fun i j hi hj h => by
      have hp1 := hpos i hi
      have hp2 := hpos j hj
      rcases Nat.lt_trichotomy i j with hlt | heq | hgt
      · exact (hinj i j hlt hj (by omega)).elim
      · exact heq
      · exact (hinj j i hgt hi (by omega)).elim)
    (a - 1) (by omega)
  have := hpos k hk
  exact ⟨k, hk, by omega⟩
theorem gen_prime {g m : Nat} (h : Gen g m) : Pr m := by
  refine ⟨h.1, fun d hd => ?_⟩
  by_cases hdm : d = m
  · exact .inr hdm
  · left
    have h1 := h.1
    have hd0 : 0 < d := Nat.pos_of_dvd_of_pos hd (by omega)
    have hle := Nat.le_of_dvd (by omega) hd
    obtain ⟨k, hk, hka⟩ := gen_all h d hd0 (by omega)
    have e : g ^ (m - 1) = g ^ k * g ^ (m - 1 - k) := by rw [← Nat.pow_add]; congr 1; omega
    have hf := h.2.1
    rw [e, Nat.mul_mod, hka] at hf
    have hdd : d ∣ d * (g ^ (m - 1 - k) % m) % m := (Nat.dvd_mod_iff hd).mpr (Nat.dvd_mul_right _ _)
    rw [hf] at hdd
    exact Nat.dvd_one.mp hdd
/-- Fermat's little theorem, from a generator -/
theorem gen_fermat {g m : Nat} (h : Gen g m) (a : Nat) (ha : a % m ≠ 0) : a ^ (m - 1) % m = 1 := by
  have h1 := h.1
  have h1m : 1 % m = 1 := Nat.mod_eq_of_lt h1
  obtain ⟨k, _, hk⟩ := gen_all h (a % m) (by omega) (Nat.mod_lt _ (by omega))
  rw [Nat.pow_mod, ← hk, ← Nat.pow_mod, ← Nat.pow_mul, Nat.mul_comm, one_pow_mod _ (by rw [h.2.1, h1m]), h1m]
/-- a certificate as a check: digits of m - 1 and of its parts -/
def certOk (g m : Nat) (top : List Nat) (L : List (Nat × List Nat)) : Bool :=
  Nat.blt 1 m && Nat.beq (valL top 0) (m - 1) && Nat.beq (powL g m top (1 % m)) 1 &&
  L.all fun x => Nat.beq (valL x.2 0) ((m - 1) / x.1) && !(Nat.beq (powL g m x.2 (1 % m)) 1)
theorem cert {g m : Nat} {top : List Nat} {L : List (Nat × List Nat)} {F : List Nat} (h : certOk g m top L = true) (hF : ∀ q, q ∈ F → Pr q) (hL : ∀ q, q ∈ F → q ∈ L.map Prod.fst) (hp : prodL F = m - 1) : Gen g m := by
  simp only [certOk, Bool.and_eq_true, List.all_eq_true, Bool.not_eq_true', Nat.blt_eq] at h
  obtain ⟨⟨⟨h1, hv⟩, ht⟩, ha⟩ := h
  have e0 : ∀ l, powL g m l (1 % m) = g ^ valL l 0 % m := fun l => by rw [← powL_val, Nat.pow_zero]
  refine gen_of h1 hF hp (by rw [← Nat.eq_of_beq_eq_true hv, ← e0, Nat.eq_of_beq_eq_true ht]) (fun q hq => ?_)
  obtain ⟨⟨q', l⟩, hm, rfl⟩ := List.mem_map.mp (hL q hq)
  have := ha _ hm
  simp only at this ⊢
  rw [← Nat.eq_of_beq_eq_true this.1, ← e0]
  exact Nat.ne_of_beq_eq_false this.2
theorem pn : ∀ q, q ∈ ([] : List Nat) → Pr q := fun _ h => nomatch h
theorem pc {a : Nat} {r : List Nat} (h : Pr a) (hr : ∀ q, q ∈ r → Pr q) : ∀ q, q ∈ a :: r → Pr q := fun q hq => (List.mem_cons.mp hq).elim (fun e => e ▸ h) (hr q)
theorem p2 : Pr 2 := ⟨by decide, fun d hd => by
  have := Nat.le_of_dvd (by decide) hd
  have h0 : 0 < d := Nat.pos_of_dvd_of_pos hd (by decide)
  omega⟩
theorem g3 : Gen 2 3 := cert (top := [2]) (L := [(2, [1])]) (F := [2]) (by decide +kernel) (pc p2 pn) (by decide +kernel) (by decide +kernel)
theorem p3 : Pr 3 := gen_prime g3
theorem g5 : Gen 2 5 := cert (top := [4]) (L := [(2, [2])]) (F := [2, 2]) (by decide +kernel) (pc p2 (pc p2 pn)) (by decide +kernel) (by decide +kernel)
theorem p5 : Pr 5 := gen_prime g5
theorem g17 : Gen 3 17 := cert (top := [16]) (L := [(2, [8])]) (F := [2, 2, 2, 2]) (by decide +kernel) (pc p2 (pc p2 (pc p2 (pc p2 pn)))) (by decide +kernel) (by decide +kernel)
theorem p17 : Pr 17 := gen_prime g17
theorem g257 : Gen 3 257 := cert (top := [1, 0]) (L := [(2, [128])]) (F := [2, 2, 2, 2, 2, 2, 2, 2]) (by decide +kernel) (pc p2 (pc p2 (pc p2 (pc p2 (pc p2 (pc p2 (pc p2 (pc p2 pn)))))))) (by decide +kernel) (by decide +kernel)
theorem p257 : Pr 257 := gen_prime g257
theorem g641 : Gen 3 641 := cert (top := [2, 128]) (L := [(2, [1, 64]), (5, [128])]) (F := [2, 2, 2, 2, 2, 2, 2, 5]) (by decide +kernel) (pc p2 (pc p2 (pc p2 (pc p2 (pc p2 (pc p2 (pc p2 (pc p5 pn)))))))) (by decide +kernel) (by decide +kernel)
theorem p641 : Pr 641 := gen_prime g641
theorem g1531 : Gen 2 1531 := cert (top := [5, 250]) (L := [(2, [2, 253]), (3, [1, 254]), (5, [1, 50]), (17, [90])]) (F := [2, 3, 3, 5, 17]) (by decide +kernel) (pc p2 (pc p3 (pc p3 (pc p5 (pc p17 pn))))) (by decide +kernel) (by decide +kernel)
theorem p1531 : Pr 1531 := gen_prime g1531
theorem g65537 : Gen 3 65537 := cert (top := [1, 0, 0]) (L := [(2, [128, 0])]) (F := [2, 2, 2, 2, 2, 2, 2, 2, 2, 2, 2, 2, 2, 2, 2, 2]) (by decide +kernel) (pc p2 (pc p2 (pc p2 (pc p2 (pc p2 (pc p2 (pc p2 (pc p2 (pc p2 (pc p2 (pc p2 (pc p2 (pc p2 (pc p2 (pc p2 (pc p2 pn)))))))))))))))) (by decide +kernel) (by decide +kernel)
theorem p65537 : Pr 65537 := gen_prime g65537
theorem g7 : Gen 3 7 := cert (top := [6]) (L := [(2, [3]), (3, [2])]) (F := [2, 3]) (by decide +kernel) (pc p2 (pc p3 pn)) (by decide +kernel) (by decide +kernel)
theorem p7 : Pr 7 := gen_prime g7
theorem g13 : Gen 2 13 := cert (top := [12]) (L := [(2, [6]), (3, [4])]) (F := [2, 2, 3]) (by decide +kernel) (pc p2 (pc p2 (pc p3 pn))) (by decide +kernel) (by decide +kernel)
theorem p13 : Pr 13 := gen_prime g13
theorem g53 : Gen 2 53 := cert (top := [52]) (L := [(2, [26]), (13, [4])]) (F := [2, 2, 13]) (by decide +kernel) (pc p2 (pc p2 (pc p13 pn))) (by decide +kernel) (by decide +kernel)
theorem p53 : Pr 53 := gen_prime g53
theorem g11 : Gen 2 11 := cert (top := [10]) (L := [(2, [5]), (5, [2])]) (F := [2, 5]) (by decide +kernel) (pc p2 (pc p5 pn)) (by decide +kernel) (by decide +kernel)
theorem p11 : Pr 11 := gen_prime g11
theorem g661 : Gen 2 661 := cert (top := [2, 148]) (L := [(2, [1, 74]), (3, [220]), (5, [132]), (11, [60])]) (F := [2, 2, 3, 5, 11]) (by decide +kernel) (pc p2 (pc p2 (pc p3 (pc p5 (pc p11 pn))))) (by decide +kernel) (by decide +kernel)
theorem p661 : Pr 661 := gen_prime g661
theorem g490463 : Gen 14 490463 := cert (top := [7, 123, 222]) (L := [(2, [3, 189, 239]), (7, [1, 17, 178]), (53, [36, 38]), (661, [2, 230])]) (F := [2, 7, 53, 661]) (by decide +kernel) (pc p2 (pc p7 (pc p53 (pc p661 pn)))) (by decide +kernel) (by decide +kernel)
theorem p490463 : Pr 490463 := gen_prime g490463
theorem g727 : Gen 5 727 := cert (top := [2, 214]) (L := [(2, [1, 107]), (3, [242]), (11, [66])]) (F := [2, 3, 11, 11]) (by decide +kernel) (pc p2 (pc p3 (pc p11 (pc p11 pn)))) (by decide +kernel) (by decide +kernel)
theorem p727 : Pr 727 := gen_prime g727
theorem g17449 : Gen 14 17449 := cert (top := [68, 40]) (L := [(2, [34, 20]), (3, [22, 184]), (727, [24])]) (F := [2, 2, 2, 3, 727]) (by decide +kernel) (pc p2 (pc p2 (pc p2 (pc p3 (pc p727 pn))))) (by decide +kernel) (by decide +kernel)
theorem p17449 : Pr 17449 := gen_prime g17449
theorem g6700417 : Gen 5 6700417 := cert (top := [102, 61, 128]) (L := [(2, [51, 30, 192]), (3, [34, 20, 128]), (17449, [1, 128])]) (F := [2, 2, 2, 2, 2, 2, 2, 3, 17449]) (by decide +kernel) (pc p2 (pc p2 (pc p2 (pc p2 (pc p2 (pc p2 (pc p2 (pc p3 (pc p17449 pn))))))))) (by decide +kernel) (by decide +kernel)
theorem p6700417 : Pr 6700417 := gen_prime g6700417
theorem g241 : Gen 7 241 := cert (top := [240]) (L := [(2, [120]), (3, [80]), (5, [48])]) (F := [2, 2, 2, 2, 3, 5]) (by decide +kernel) (pc p2 (pc p2 (pc p2 (pc p2 (pc p3 (pc p5 pn)))))) (by decide +kernel) (by decide +kernel)
theorem p241 : Pr 241 := gen_prime g241
theorem g2411 : Gen 6 2411 := cert (top := [9, 106]) (L := [(2, [4, 181]), (5, [1, 226]), (241, [10])]) (F := [2, 5, 241]) (by decide +kernel) (pc p2 (pc p5 (pc p241 pn))) (by decide +kernel) (by decide +kernel)
theorem p2411 : Pr 2411 := gen_prime g2411
theorem g23 : Gen 5 23 := cert (top := [22]) (L := [(2, [11]), (11, [2])]) (F := [2, 11]) (by decide +kernel) (pc p2 (pc p11 pn)) (by decide +kernel) (by decide +kernel)
theorem p23 : Pr 23 := gen_prime g23
theorem g107 : Gen 2 107 := cert (top := [106]) (L := [(2, [53]), (53, [2])]) (F := [2, 53]) (by decide +kernel) (pc p2 (pc p53 pn)) (by decide +kernel) (by decide +kernel)
theorem p107 : Pr 107 := gen_prime g107
theorem g157 : Gen 5 157 := cert (top := [156]) (L := [(2, [78]), (3, [52]), (13, [12])]) (F := [2, 2, 3, 13]) (by decide +kernel) (pc p2 (pc p2 (pc p3 (pc p13 pn)))) (by decide +kernel) (by decide +kernel)
theorem p157 : Pr 157 := gen_prime g157
theorem g3769 : Gen 7 3769 := cert (top := [14, 184]) (L := [(2, [7, 92]), (3, [4, 232]), (157, [24])]) (F := [2, 2, 2, 3, 157]) (by decide +kernel) (pc p2 (pc p2 (pc p2 (pc p3 (pc p157 pn))))) (by decide +kernel) (by decide +kernel)
theorem p3769 : Pr 3769 := gen_prime g3769
theorem g204061199 : Gen 11 204061199 := cert (top := [12, 41, 186, 14]) (L := [(2, [6, 20, 221, 7]), (11, [1, 27, 16, 234]), (23, [135, 97, 34]), (107, [29, 25, 170]), (3769, [211, 126])]) (F := [2, 11, 23, 107, 3769]) (by decide +kernel) (pc p2 (pc p11 (pc p23 (pc p107 (pc p3769 pn))))) (by decide +kernel) (by decide +kernel)
theorem p204061199 : Pr 204061199 := gen_prime g204061199
theorem g34282281433 : Gen 17 34282281433 := cert (top := [7, 251, 98, 25, 216]) (L := [(2, [3, 253, 177, 12, 236]), (3, [2, 169, 32, 179, 72]), (7, [1, 35, 233, 113, 104]), (204061199, [168])]) (F := [2, 2, 2, 3, 7, 204061199]) (by decide +kernel) (pc p2 (pc p2 (pc p2 (pc p3 (pc p7 (pc p204061199 pn)))))) (by decide +kernel) (by decide +kernel)
theorem p34282281433 : Pr 34282281433 := gen_prime g34282281433
theorem g43 : Gen 3 43 := cert (top := [42]) (L := [(2, [21]), (3, [14]), (7, [6])]) (F := [2, 3, 7]) (by decide +kernel) (pc p2 (pc p3 (pc p7 pn))) (by decide +kernel) (by decide +kernel)
theorem p43 : Pr 43 := gen_prime g43
theorem g173 : Gen 2 173 := cert (top := [172]) (L := [(2, [86]), (43, [4])]) (F := [2, 2, 43]) (by decide +kernel) (pc p2 (pc p2 (pc p43 pn))) (by decide +kernel) (by decide +kernel)
theorem p173 : Pr 173 := gen_prime g173
theorem g197 : Gen 2 197 := cert (top := [196]) (L := [(2, [98]), (7, [28])]) (F := [2, 2, 7, 7]) (by decide +kernel) (pc p2 (pc p2 (pc p7 (pc p7 pn)))) (by decide +kernel) (by decide +kernel)
theorem p197 : Pr 197 := gen_prime g197
theorem g919 : Gen 7 919 := cert (top := [3, 150]) (L := [(2, [1, 203]), (3, [1, 50]), (17, [54])]) (F := [2, 3, 3, 3, 17]) (by decide +kernel) (pc p2 (pc p3 (pc p3 (pc p3 (pc p17 pn))))) (by decide +kernel) (by decide +kernel)
theorem p919 : Pr 919 := gen_prime g919
theorem g3677 : Gen 2 3677 := cert (top := [14, 92]) (L := [(2, [7, 46]), (919, [4])]) (F := [2, 2, 919]) (by decide +kernel) (pc p2 (pc p2 (pc p919 pn))) (by decide +kernel) (by decide +kernel)
theorem p3677 : Pr 3677 := gen_prime g3677
theorem g66417393611 : Gen 6 66417393611 := cert (top := [15, 118, 200, 255, 202]) (L := [(2, [7, 187, 100, 127, 229]), (5, [3, 23, 193, 204, 194]), (53, [74, 177, 173, 226]), (173, [22, 226, 22, 50]), (197, [20, 24, 105, 66]), (3677, [1, 19, 158, 82])]) (F := [2, 5, 53, 173, 197, 3677]) (by decide +kernel) (pc p2 (pc p5 (pc p53 (pc p173 (pc p197 (pc p3677 pn)))))) (by decide +kernel) (by decide +kernel)
theorem p66417393611 : Pr 66417393611 := gen_prime g66417393611
theorem g11290956913871 : Gen 13 11290956913871 := cert (top := [10, 68, 225, 121, 220, 206]) (L := [(2, [5, 34, 112, 188, 238, 103]), (5, [2, 13, 198, 177, 248, 246]), (17, [154, 163, 217, 253, 238]), (66417393611, [170])]) (F := [2, 5, 17, 66417393611]) (by decide +kernel) (pc p2 (pc p5 (pc p17 (pc p66417393611 pn)))) (by decide +kernel) (by decide +kernel)
theorem p11290956913871 : Pr 11290956913871 := gen_prime g11290956913871
theorem g757 : Gen 2 757 := cert (top := [2, 244]) (L := [(2, [1, 122]), (3, [252]), (7, [108])]) (F := [2, 2, 3, 3, 3, 7]) (by decide +kernel) (pc p2 (pc p2 (pc p3 (pc p3 (pc p3 (pc p7 pn)))))) (by decide +kernel) (by decide +kernel)
theorem p757 : Pr 757 := gen_prime g757
theorem g18169 : Gen 11 18169 := cert (top := [70, 248]) (L := [(2, [35, 124]), (3, [23, 168]), (757, [24])]) (F := [2, 2, 2, 3, 757]) (by decide +kernel) (pc p2 (pc p2 (pc p2 (pc p3 (pc p757 pn))))) (by decide +kernel) (by decide +kernel)
theorem p18169 : Pr 18169 := gen_prime g18169
theorem g181 : Gen 2 181 := cert (top := [180]) (L := [(2, [90]), (3, [60]), (5, [36])]) (F := [2, 2, 3, 3, 5]) (by decide +kernel) (pc p2 (pc p2 (pc p3 (pc p3 (pc p5 pn))))) (by decide +kernel) (by decide +kernel)
theorem p181 : Pr 181 := gen_prime g181
theorem g1087 : Gen 3 1087 := cert (top := [4, 62]) (L := [(2, [2, 31]), (3, [1, 106]), (181, [6])]) (F := [2, 3, 181]) (by decide +kernel) (pc p2 (pc p3 (pc p181 pn))) (by decide +kernel) (by decide +kernel)
theorem p1087 : Pr 1087 := gen_prime g1087
theorem g4349 : Gen 2 4349 := cert (top := [16, 252]) (L := [(2, [8, 126]), (1087, [4])]) (F := [2, 2, 1087]) (by decide +kernel) (pc p2 (pc p2 (pc p1087 pn))) (by decide +kernel) (by decide +kernel)
theorem p4349 : Pr 4349 := gen_prime g4349
theorem g78283 : Gen 3 78283 := cert (top := [1, 49, 202]) (L := [(2, [152, 229]), (3, [101, 238]), (4349, [18])]) (F := [2, 3, 3, 4349]) (by decide +kernel) (pc p2 (pc p3 (pc p3 (pc p4349 pn)))) (by decide +kernel) (by decide +kernel)
theorem p78283 : Pr 78283 := gen_prime g78283
theorem g313 : Gen 10 313 := cert (top := [1, 56]) (L := [(2, [156]), (3, [104]), (13, [24])]) (F := [2, 2, 2, 3, 13]) (by decide +kernel) (pc p2 (pc p2 (pc p2 (pc p3 (pc p13 pn))))) (by decide +kernel) (by decide +kernel)
theorem p313 : Pr 313 := gen_prime g313
theorem g704251 : Gen 2 704251 := cert (top := [10, 190, 250]) (L := [(2, [5, 95, 125]), (3, [3, 148, 254]), (5, [2, 38, 50]), (313, [8, 202])]) (F := [2, 3, 3, 5, 5, 5, 313]) (by decide +kernel) (pc p2 (pc p3 (pc p3 (pc p5 (pc p5 (pc p5 (pc p313 pn))))))) (by decide +kernel) (by decide +kernel)
theorem p704251 : Pr 704251 := gen_prime g704251
theorem g46076956964474543 : Gen 5 46076956964474543 := cert (top := [163, 178, 191, 140, 50, 206, 174]) (L := [(2, [81, 217, 95, 198, 25, 103, 87]), (23, [7, 30, 8, 84, 2, 53, 130]), (18169, [2, 78, 118, 154, 73, 158]), (78283, [137, 10, 249, 254, 74]), (704251, [15, 59, 191, 52, 170])]) (F := [2, 23, 18169, 78283, 704251]) (by decide +kernel) (pc p2 (pc p23 (pc p18169 (pc p78283 (pc p704251 pn))))) (by decide +kernel) (by decide +kernel)
theorem p46076956964474543 : Pr 46076956964474543 := gen_prime g46076956964474543
theorem g774023187263532362759620327192479577272145303 : Gen 3 774023187263532362759620327192479577272145303 := cert (top := [34, 181, 89, 181, 200, 22, 174, 0, 242, 55, 142, 24, 223, 56, 197, 65, 14, 213, 150]) (L := [(2, [17, 90, 172, 218, 228, 11, 87, 0, 121, 27, 199, 12, 111, 156, 98, 160, 135, 106, 203]), (3, [11, 145, 200, 145, 237, 92, 228, 170, 251, 103, 218, 8, 74, 104, 65, 192, 90, 71, 50]), (2411, [3, 175, 114, 83, 56, 208, 210, 114, 252, 187, 65, 25, 65, 218, 235, 55, 56, 66]), (34282281433, [4, 89, 45, 160, 193, 233, 52, 17, 102, 185, 160, 172, 144, 254, 134]), (11290956913871, [3, 97, 65, 8, 239, 192, 5, 57, 229, 53, 197, 4, 210, 138]), (46076956964474543, [54, 71, 98, 26, 12, 133, 177, 21, 10, 208, 25, 74])]) (F := [2, 3, 3, 2411, 34282281433, 11290956913871, 46076956964474543]) (by decide +kernel) (pc p2 (pc p3 (pc p3 (pc p2411 (pc p34282281433 (pc p11290956913871 (pc p46076956964474543 pn))))))) (by decide +kernel) (by decide +kernel)
theorem p774023187263532362759620327192479577272145303 : Pr 774023187263532362759620327192479577272145303 := gen_prime g774023187263532362759620327192479577272145303
theorem g835945042244614951780389953367877943453916927241 : Gen 11 835945042244614951780389953367877943453916927241 := cert (top := [146, 109, 18, 118, 228, 31, 174, 19, 253, 218, 95, 120, 237, 183, 128, 42, 118, 149, 21, 8]) (L := [(2, [73, 54, 137, 59, 114, 15, 215, 9, 254, 237, 47, 188, 118, 219, 192, 21, 59, 74, 138, 132]), (3, [48, 207, 6, 39, 161, 95, 228, 177, 84, 158, 31, 210, 249, 231, 213, 99, 124, 220, 92, 88]), (5, [29, 73, 3, 177, 96, 211, 34, 208, 204, 94, 223, 228, 252, 87, 230, 110, 228, 132, 55, 104]), (774023187263532362759620327192479577272145303, [4, 56])]) (F := [2, 2, 2, 3, 3, 3, 5, 774023187263532362759620327192479577272145303]) (by decide +kernel) (pc p2 (pc p2 (pc p2 (pc p3 (pc p3 (pc p3 (pc p5 (pc p774023187263532362759620327192479577272145303 pn)))))))) (by decide +kernel) (by decide +kernel)
theorem p835945042244614951780389953367877943453916927241 : Pr 835945042244614951780389953367877943453916927241 := gen_prime g835945042244614951780389953367877943453916927241
theorem g115792089210356248762697446949407573530086143415290314195533631308867097853951 : Gen 6 115792089210356248762697446949407573530086143415290314195533631308867097853951 := cert (top := [255, 255, 255, 255, 0, 0, 0, 1, 0, 0, 0, 0, 0, 0, 0, 0, 0, 0, 0, 0, 255, 255, 255, 255, 255, 255, 255, 255, 255, 255, 255, 254]) (L := [(2, [127, 255, 255, 255, 128, 0, 0, 0, 128, 0, 0, 0, 0, 0, 0, 0, 0, 0, 0, 0, 127, 255, 255, 255, 255, 255, 255, 255, 255, 255, 255, 255]), (3, [85, 85, 85, 85, 0, 0, 0, 0, 85, 85, 85, 85, 85, 85, 85, 85, 85, 85, 85, 85, 170, 170, 170, 170, 170, 170, 170, 170, 170, 170, 170, 170]), (5, [51, 51, 51, 51, 0, 0, 0, 0, 51, 51, 51, 51, 51, 51, 51, 51, 51, 51, 51, 51, 102, 102, 102, 102, 102, 102, 102, 102, 102, 102, 102, 102]), (17, [15, 15, 15, 15, 0, 0, 0, 0, 15, 15, 15, 15, 15, 15, 15, 15, 15, 15, 15, 15, 30, 30, 30, 30, 30, 30, 30, 30, 30, 30, 30, 30]), (257, [255, 0, 255, 0, 0, 0, 0, 0, 255, 0, 255, 0, 255, 0, 255, 0, 255, 0, 255, 1, 254, 1, 254, 1, 254, 1, 254, 1, 254, 1, 254]), (641, [102, 61, 128, 255, 51, 132, 254, 1, 50, 184, 130, 254, 205, 71, 125, 1, 50, 184, 130, 255, 51, 132, 254, 0, 204, 123, 1, 255, 51, 132, 254]), (1531, [42, 206, 86, 157, 88, 116, 96, 251, 167, 11, 52, 0, 171, 57, 90, 118, 13, 10, 222, 100, 40, 204, 170, 142, 33, 27, 150, 253, 211, 133, 154]), (65537, [255, 255, 0, 0, 0, 0, 0, 0, 255, 255, 0, 0, 255, 255, 0, 0, 255, 255, 0, 1, 255, 254, 0, 1, 255, 254, 0, 1, 255, 254]), (490463, [34, 52, 247, 6, 66, 62, 222, 156, 141, 98, 162, 179, 111, 217, 181, 150, 59, 232, 46, 22, 78, 37, 107, 205, 20, 128, 56, 47, 255, 194]), (6700417, [2, 128, 255, 255, 250, 254, 0, 0, 7, 130, 255, 255, 248, 125, 0, 0, 7, 130, 255, 255, 250, 254, 0, 0, 5, 1, 255, 255, 250, 254]), (835945042244614951780389953367877943453916927241, [1, 191, 146, 18, 113, 255, 255, 255, 254, 64, 109, 237, 142])]) (F := [2, 3, 5, 5, 17, 257, 641, 1531, 65537, 490463, 6700417, 835945042244614951780389953367877943453916927241]) (by decide +kernel) (pc p2 (pc p3 (pc p5 (pc p5 (pc p17 (pc p257 (pc p641 (pc p1531 (pc p65537 (pc p490463 (pc p6700417 (pc p835945042244614951780389953367877943453916927241 pn)))))))))))) (by decide +kernel) (by decide +kernel)
theorem p115792089210356248762697446949407573530086143415290314195533631308867097853951 : Pr 115792089210356248762697446949407573530086143415290314195533631308867097853951 := gen_prime g115792089210356248762697446949407573530086143415290314195533631308867097853951
theorem g71 : Gen 7 71 := cert (top := [70]) (L := [(2, [35]), (5, [14]), (7, [10])]) (F := [2, 5, 7]) (by decide +kernel) (pc p2 (pc p5 (pc p7 pn))) (by decide +kernel) (by decide +kernel)
theorem p71 : Pr 71 := gen_prime g71
theorem g131 : Gen 2 131 := cert (top := [130]) (L := [(2, [65]), (5, [26]), (13, [10])]) (F := [2, 5, 13]) (by decide +kernel) (pc p2 (pc p5 (pc p13 pn))) (by decide +kernel) (by decide +kernel)
theorem p131 : Pr 131 := gen_prime g131
theorem g31 : Gen 3 31 := cert (top := [30]) (L := [(2, [15]), (3, [10]), (5, [6])]) (F := [2, 3, 5]) (by decide +kernel) (pc p2 (pc p3 (pc p5 pn))) (by decide +kernel) (by decide +kernel)
theorem p31 : Pr 31 := gen_prime g31
theorem g373 : Gen 2 373 := cert (top := [1, 116]) (L := [(2, [186]), (3, [124]), (31, [12])]) (F := [2, 2, 3, 31]) (by decide +kernel) (pc p2 (pc p2 (pc p3 (pc p31 pn)))) (by decide +kernel) (by decide +kernel)
theorem p373 : Pr 373 := gen_prime g373
theorem g3407 : Gen 5 3407 := cert (top := [13, 78]) (L := [(2, [6, 167]), (13, [1, 6]), (131, [26])]) (F := [2, 13, 131]) (by decide +kernel) (pc p2 (pc p13 (pc p131 pn))) (by decide +kernel) (by decide +kernel)
theorem p3407 : Pr 3407 := gen_prime g3407
theorem g37 : Gen 2 37 := cert (top := [36]) (L := [(2, [18]), (3, [12])]) (F := [2, 2, 3, 3]) (by decide +kernel) (pc p2 (pc p2 (pc p3 (pc p3 pn)))) (by decide +kernel) (by decide +kernel)
theorem p37 : Pr 37 := gen_prime g37
theorem g9547 : Gen 2 9547 := cert (top := [37, 74]) (L := [(2, [18, 165]), (3, [12, 110]), (37, [1, 2]), (43, [222])]) (F := [2, 3, 37, 43]) (by decide +kernel) (pc p2 (pc p3 (pc p37 (pc p43 pn)))) (by decide +kernel) (by decide +kernel)
theorem p9547 : Pr 9547 := gen_prime g9547
theorem g38189 : Gen 2 38189 := cert (top := [149, 44]) (L := [(2, [74, 150]), (9547, [4])]) (F := [2, 2, 9547]) (by decide +kernel) (pc p2 (pc p2 (pc p9547 pn))) (by decide +kernel) (by decide +kernel)
theorem p38189 : Pr 38189 := gen_prime g38189
theorem g19 : Gen 2 19 := cert (top := [18]) (L := [(2, [9]), (3, [6])]) (F := [2, 3, 3]) (by decide +kernel) (pc p2 (pc p3 (pc p3 pn))) (by decide +kernel) (by decide +kernel)
theorem p19 : Pr 19 := gen_prime g19
theorem g229 : Gen 6 229 := cert (top := [228]) (L := [(2, [114]), (3, [76]), (19, [12])]) (F := [2, 2, 3, 19]) (by decide +kernel) (pc p2 (pc p2 (pc p3 (pc p19 pn)))) (by decide +kernel) (by decide +kernel)
theorem p229 : Pr 229 := gen_prime g229
theorem g1201 : Gen 11 1201 := cert (top := [4, 176]) (L := [(2, [2, 88]), (3, [1, 144]), (5, [240])]) (F := [2, 2, 2, 2, 3, 5, 5]) (by decide +kernel) (pc p2 (pc p2 (pc p2 (pc p2 (pc p3 (pc p5 (pc p5 pn))))))) (by decide +kernel) (by decide +kernel)
theorem p1201 : Pr 1201 := gen_prime g1201
theorem g9350987 : Gen 2 9350987 := cert (top := [142, 175, 74]) (L := [(2, [71, 87, 165]), (17, [8, 100, 170]), (229, [159, 130]), (1201, [30, 106])]) (F := [2, 17, 229, 1201]) (by decide +kernel) (pc p2 (pc p17 (pc p229 (pc p1201 pn)))) (by decide +kernel) (by decide +kernel)
theorem p9350987 : Pr 9350987 := gen_prime g9350987
theorem g187019741 : Gen 2 187019741 := cert (top := [11, 37, 177, 220]) (L := [(2, [5, 146, 216, 238]), (5, [2, 58, 189, 44]), (9350987, [20])]) (F := [2, 2, 5, 9350987]) (by decide +kernel) (pc p2 (pc p2 (pc p5 (pc p9350987 pn)))) (by decide +kernel) (by decide +kernel)
theorem p187019741 : Pr 187019741 := gen_prime g187019741
theorem g29 : Gen 2 29 := cert (top := [28]) (L := [(2, [14]), (7, [4])]) (F := [2, 2, 7]) (by decide +kernel) (pc p2 (pc p2 (pc p7 pn))) (by decide +kernel) (by decide +kernel)
theorem p29 : Pr 29 := gen_prime g29
theorem g311 : Gen 17 311 := cert (top := [1, 54]) (L := [(2, [155]), (5, [62]), (31, [10])]) (F := [2, 5, 31]) (by decide +kernel) (pc p2 (pc p5 (pc p31 pn))) (by decide +kernel) (by decide +kernel)
theorem p311 : Pr 311 := gen_prime g311
theorem g311245691 : Gen 2 311245691 := cert (top := [18, 141, 59, 122]) (L := [(2, [9, 70, 157, 189]), (5, [3, 181, 216, 178]), (7, [2, 166, 118, 54]), (17, [1, 23, 93, 218]), (29, [163, 196, 66]), (311, [15, 69, 86])]) (F := [2, 5, 7, 17, 29, 29, 311]) (by decide +kernel) (pc p2 (pc p5 (pc p7 (pc p17 (pc p29 (pc p29 (pc p311 pn))))))) (by decide +kernel) (by decide +kernel)
theorem p311245691 : Pr 311245691 := gen_prime g311245691
theorem g622491383 : Gen 5 622491383 := cert (top := [37, 26, 118, 246]) (L := [(2, [18, 141, 59, 123]), (311245691, [2])]) (F := [2, 311245691]) (by decide +kernel) (pc p2 (pc p311245691 pn)) (by decide +kernel) (by decide +kernel)
theorem p622491383 : Pr 622491383 := gen_prime g622491383
theorem g263 : Gen 5 263 := cert (top := [1, 6]) (L := [(2, [131]), (131, [2])]) (F := [2, 131]) (by decide +kernel) (pc p2 (pc p131 pn)) (by decide +kernel) (by decide +kernel)
theorem p263 : Pr 263 := gen_prime g263
theorem g126241 : Gen 7 126241 := cert (top := [1, 237, 32]) (L := [(2, [246, 144]), (3, [164, 96]), (5, [98, 160]), (263, [1, 224])]) (F := [2, 2, 2, 2, 2, 3, 5, 263]) (by decide +kernel) (pc p2 (pc p2 (pc p2 (pc p2 (pc p2 (pc p3 (pc p5 (pc p263 pn)))))))) (by decide +kernel) (by decide +kernel)
theorem p126241 : Pr 126241 := gen_prime g126241
theorem g337 : Gen 10 337 := cert (top := [1, 80]) (L := [(2, [168]), (3, [112]), (7, [48])]) (F := [2, 2, 2, 2, 3, 7]) (by decide +kernel) (pc p2 (pc p2 (pc p2 (pc p2 (pc p3 (pc p7 pn)))))) (by decide +kernel) (by decide +kernel)
theorem p337 : Pr 337 := gen_prime g337
theorem g104471 : Gen 11 104471 := cert (top := [1, 152, 22]) (L := [(2, [204, 11]), (5, [81, 158]), (31, [13, 42]), (337, [1, 54])]) (F := [2, 5, 31, 337]) (by decide +kernel) (pc p2 (pc p5 (pc p31 (pc p337 pn)))) (by decide +kernel) (by decide +kernel)
theorem p104471 : Pr 104471 := gen_prime g104471
theorem g3969899 : Gen 2 3969899 := cert (top := [60, 147, 106]) (L := [(2, [30, 73, 181]), (19, [3, 48, 46]), (104471, [38])]) (F := [2, 19, 104471]) (by decide +kernel) (pc p2 (pc p19 (pc p104471 pn))) (by decide +kernel) (by decide +kernel)
theorem p3969899 : Pr 3969899 := gen_prime g3969899
theorem g1002328039319 : Gen 19 1002328039319 := cert (top := [233, 95, 104, 31, 150]) (L := [(2, [116, 175, 180, 15, 203]), (126241, [121, 38, 214]), (3969899, [3, 218, 66])]) (F := [2, 126241, 3969899]) (by decide +kernel) (pc p2 (pc p126241 (pc p3969899 pn))) (by decide +kernel) (by decide +kernel)
theorem p1002328039319 : Pr 1002328039319 := gen_prime g1002328039319
theorem g1297 : Gen 10 1297 := cert (top := [5, 16]) (L := [(2, [2, 136]), (3, [1, 176])]) (F := [2, 2, 2, 2, 3, 3, 3, 3]) (by decide +kernel) (pc p2 (pc p2 (pc p2 (pc p2 (pc p3 (pc p3 (pc p3 (pc p3 pn)))))))) (by decide +kernel) (by decide +kernel)
theorem p1297 : Pr 1297 := gen_prime g1297
theorem g97 : Gen 5 97 := cert (top := [96]) (L := [(2, [48]), (3, [32])]) (F := [2, 2, 2, 2, 2, 3]) (by decide +kernel) (pc p2 (pc p2 (pc p2 (pc p2 (pc p2 (pc p3 pn)))))) (by decide +kernel) (by decide +kernel)
theorem p97 : Pr 97 := gen_prime g97
theorem g16879 : Gen 3 16879 := cert (top := [65, 238]) (L := [(2, [32, 247]), (3, [21, 250]), (29, [2, 70]), (97, [174])]) (F := [2, 3, 29, 97]) (by decide +kernel) (pc p2 (pc p3 (pc p29 (pc p97 pn)))) (by decide +kernel) (by decide +kernel)
theorem p16879 : Pr 16879 := gen_prime g16879
theorem g127 : Gen 3 127 := cert (top := [126]) (L := [(2, [63]), (3, [42]), (7, [18])]) (F := [2, 3, 3, 7]) (by decide +kernel) (pc p2 (pc p3 (pc p3 (pc p7 pn)))) (by decide +kernel) (by decide +kernel)
theorem p127 : Pr 127 := gen_prime g127
theorem g151 : Gen 6 151 := cert (top := [150]) (L := [(2, [75]), (3, [50]), (5, [30])]) (F := [2, 3, 5, 5]) (by decide +kernel) (pc p2 (pc p3 (pc p5 (pc p5 pn)))) (by decide +kernel) (by decide +kernel)
theorem p151 : Pr 151 := gen_prime g151
theorem g1511 : Gen 11 1511 := cert (top := [5, 230]) (L := [(2, [2, 243]), (5, [1, 46]), (151, [10])]) (F := [2, 5, 151]) (by decide +kernel) (pc p2 (pc p5 (pc p151 pn))) (by decide +kernel) (by decide +kernel)
theorem p1511 : Pr 1511 := gen_prime g1511
theorem g3023 : Gen 5 3023 := cert (top := [11, 206]) (L := [(2, [5, 231]), (1511, [2])]) (F := [2, 1511]) (by decide +kernel) (pc p2 (pc p1511 pn)) (by decide +kernel) (by decide +kernel)
theorem p3023 : Pr 3023 := gen_prime g3023
theorem g41 : Gen 6 41 := cert (top := [40]) (L := [(2, [20]), (5, [8])]) (F := [2, 2, 2, 5]) (by decide +kernel) (pc p2 (pc p2 (pc p2 (pc p5 pn)))) (by decide +kernel) (by decide +kernel)
theorem p41 : Pr 41 := gen_prime g41
theorem g155317 : Gen 5 155317 := cert (top := [2, 94, 180]) (L := [(2, [1, 47, 90]), (3, [202, 60]), (7, [86, 172]), (43, [14, 28])]) (F := [2, 2, 3, 7, 43, 43]) (by decide +kernel) (pc p2 (pc p2 (pc p3 (pc p7 (pc p43 (pc p43 pn)))))) (by decide +kernel) (by decide +kernel)
theorem p155317 : Pr 155317 := gen_prime g155317
theorem g191039911 : Gen 3 191039911 := cert (top := [11, 99, 9, 166]) (L := [(2, [5, 177, 132, 211]), (3, [3, 203, 173, 226]), (5, [2, 71, 1, 238]), (41, [71, 25, 54]), (155317, [4, 206])]) (F := [2, 3, 5, 41, 155317]) (by decide +kernel) (pc p2 (pc p3 (pc p5 (pc p41 (pc p155317 pn))))) (by decide +kernel) (by decide +kernel)
theorem p191039911 : Pr 191039911 := gen_prime g191039911
theorem g208150935158385979 : Gen 2 208150935158385979 := cert (top := [2, 227, 128, 44, 53, 199, 237, 58]) (L := [(2, [1, 113, 192, 22, 26, 227, 246, 157]), (3, [246, 128, 14, 188, 151, 249, 190]), (11, [67, 58, 50, 144, 134, 137, 238]), (43, [17, 50, 155, 209, 159, 112, 174]), (127, [5, 210, 165, 163, 178, 245, 198]), (3023, [62, 159, 186, 147, 171, 166]), (191039911, [64, 241, 124, 54])]) (F := [2, 3, 11, 43, 127, 3023, 191039911]) (by decide +kernel) (pc p2 (pc p3 (pc p11 (pc p43 (pc p127 (pc p3023 (pc p191039911 pn))))))) (by decide +kernel) (by decide +kernel)
theorem p208150935158385979 : Pr 208150935158385979 := gen_prime g208150935158385979
theorem g2624747550333869278416773953 : Gen 7 2624747550333869278416773953 := cert (top := [8, 123, 35, 233, 208, 157, 62, 99, 123, 42, 163, 64]) (L := [(2, [4, 61, 145, 244, 232, 78, 159, 49, 189, 149, 81, 160]), (3, [2, 211, 182, 163, 69, 137, 191, 118, 126, 99, 139, 192]), (1297, [1, 172, 137, 91, 190, 151, 111, 253, 135, 111, 64]), (16879, [32, 237, 223, 215, 248, 18, 76, 9, 208, 192]), (208150935158385979, [2, 239, 154, 181, 192])]) (F := [2, 2, 2, 2, 2, 2, 3, 3, 1297, 16879, 208150935158385979]) (by decide +kernel) (pc p2 (pc p2 (pc p2 (pc p2 (pc p2 (pc p2 (pc p3 (pc p3 (pc p1297 (pc p16879 (pc p208150935158385979 pn))))))))))) (by decide +kernel) (by decide +kernel)
theorem p2624747550333869278416773953 : Pr 2624747550333869278416773953 := gen_prime g2624747550333869278416773953
theorem g115792089210356248762697446949407573529996955224135760342422259061068512044369 : Gen 7 115792089210356248762697446949407573529996955224135760342422259061068512044369 := cert (top := [255, 255, 255, 255, 0, 0, 0, 0, 255, 255, 255, 255, 255, 255, 255, 255, 188, 230, 250, 173, 167, 23, 158, 132, 243, 185, 202, 194, 252, 99, 37, 80]) (L := [(2, [127, 255, 255, 255, 128, 0, 0, 0, 127, 255, 255, 255, 255, 255, 255, 255, 222, 115, 125, 86, 211, 139, 207, 66, 121, 220, 229, 97, 126, 49, 146, 168]), (3, [85, 85, 85, 85, 0, 0, 0, 0, 85, 85, 85, 85, 85, 85, 85, 85, 62, 247, 168, 228, 141, 7, 223, 129, 166, 147, 67, 150, 84, 33, 12, 112]), (71, [3, 155, 10, 209, 28, 216, 86, 137, 7, 54, 21, 162, 64, 230, 194, 180, 71, 42, 234, 74, 142, 249, 31, 19, 230, 150, 114, 161, 100, 232, 40, 48]), (131, [1, 244, 70, 89, 226, 175, 224, 187, 156, 85, 252, 23, 115, 76, 54, 183, 177, 81, 226, 165, 122, 111, 145, 210, 29, 56, 34, 196, 232, 133, 164, 112]), (373, [175, 179, 33, 160, 153, 188, 189, 109, 207, 245, 4, 205, 229, 235, 105, 1, 225, 12, 86, 241, 89, 73, 44, 247, 187, 45, 215, 87, 215, 22, 16]), (3407, [19, 60, 86, 66, 127, 150, 52, 37, 165, 20, 208, 73, 86, 8, 221, 207, 189, 165, 1, 45, 149, 98, 84, 49, 246, 207, 248, 100, 156, 81, 176]), (17449, [3, 193, 128, 9, 95, 254, 151, 112, 0, 60, 24, 0, 150, 60, 1, 119, 149, 7, 168, 123, 22, 92, 70, 237, 199, 10, 184, 192, 166, 36, 208]), (38189, [1, 183, 82, 21, 151, 139, 201, 193, 91, 20, 153, 144, 85, 68, 190, 145, 46, 195, 81, 220, 106, 93, 117, 41, 27, 5, 29, 6, 73, 172, 144]), (187019741, [22, 247, 30, 229, 27, 184, 56, 105, 224, 200, 75, 60, 78, 24, 217, 161, 150, 83, 58, 160, 72, 51, 205, 200, 207, 191, 4, 109, 144]), (622491383, [6, 230, 78, 229, 125, 85, 146, 26, 65, 57, 122, 235, 220, 230, 8, 158, 219, 56, 6, 184, 115, 254, 168, 70, 24, 169, 225, 33, 48]), (1002328039319, [1, 24, 210, 59, 17, 154, 58, 188, 131, 250, 229, 106, 80, 85, 243, 30, 34, 14, 40, 121, 247, 95, 7, 237, 103, 131, 175, 48]), (2624747550333869278416773953, [30, 47, 96, 24, 229, 213, 123, 95, 152, 187, 199, 157, 195, 133, 135, 251, 48, 164, 148, 225, 80])]) (F := [2, 2, 2, 2, 3, 71, 131, 373, 3407, 17449, 38189, 187019741, 622491383, 1002328039319, 2624747550333869278416773953]) (by decide +kernel) (pc p2 (pc p2 (pc p2 (pc p2 (pc p3 (pc p71 (pc p131 (pc p373 (pc p3407 (pc p17449 (pc p38189 (pc p187019741 (pc p622491383 (pc p1002328039319 (pc p2624747550333869278416773953 pn))))))))))))))) (by decide +kernel) (by decide +kernel)
theorem p115792089210356248762697446949407573529996955224135760342422259061068512044369 : Pr 115792089210356248762697446949407573529996955224135760342422259061068512044369 := gen_prime g115792089210356248762697446949407573529996955224135760342422259061068512044369
def P256 : Nat := 115792089210356248762697446949407573530086143415290314195533631308867097853951
def N256 : Nat := 115792089210356248762697446949407573529996955224135760342422259061068512044369
theorem gen_p : Gen 6 P256 := g115792089210356248762697446949407573530086143415290314195533631308867097853951
theorem gen_n : Gen 7 N256 := g115792089210356248762697446949407573529996955224135760342422259061068512044369
theorem fermat_p (a : Nat) (h : a % P256 ≠ 0) : a ^ (P256 - 1) % P256 = 1 := gen_fermat gen_p a h
theorem fermat_n (a : Nat) (h : a % N256 ≠ 0) : a ^ (N256 - 1) % N256 = 1 := gen_fermat gen_n a h
end Go.Proofs.Ytfaobdakpbpkbaa.Prim
