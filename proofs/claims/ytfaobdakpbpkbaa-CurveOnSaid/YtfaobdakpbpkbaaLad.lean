/-
  Multiples of a point of P-256, computed by the kernel: a ladder over naturals whose steps force their values. Conditions: none.
-/
import Derived.Test.YtfaobdakpbpkbaaCurT
namespace Go.Proofs.Ytfaobdakpbpkbaa
attribute [local irreducible] Prim.P256 jin
/-- a value is reckoned before it is used -/
def fr {β : Type} (n : Nat) (k : Nat → β) : β := match n with
  | 0 => k 0
  | m + 1 => k (m + 1)
theorem fr_eq {β : Type} (n : Nat) (k : Nat → β) : fr n k = k n := by cases n <;> rfl
theorem nF_add (a b : Nat) : nF (a + b) = nF a + nF b := Fin.ext (by rw [nF_val, Fin.val_add, nF_val, nF_val, ← Nat.add_mod])
theorem nF_mul (a b : Nat) : nF (a * b) = nF a * nF b := Fin.ext (by rw [nF_val, Fin.val_mul, nF_val, nF_val, ← Nat.mul_mod])
theorem nF_mod (a : Nat) : nF (a % Prim.P256) = nF a := Fin.ext (by rw [nF_val, nF_val, Nat.mod_mod])
theorem nF_p : nF Prim.P256 = 0 := Fin.ext (by rw [nF_val, Nat.mod_self, val_zero])
theorem nF_sub {a b : Nat} (h : b ≤ a) : nF (a - b) = nF a - nF b := by
  have := nF_add (a - b) b
  rw [Nat.sub_add_cancel h] at this
  rw [this]
  generalize nF b = y
  generalize nF (a - b) = x
  grobner
theorem to_val {e : Nat} {x : Ec.F} (h : nF e = x) : e % Prim.P256 = x.val := by rw [← h, nF_val]
section
variable {β : Type}
def dblN (p x y z : Nat) (k : Nat → Nat → Nat → β) : β := bif Nat.beq z 0 then k x y z else
  fr (y * y % p) fun yy => fr (x * yy * 4 % p) fun s => fr (z * z % p) fun zz => fr ((x + (p - zz)) * (x + zz) * 3 % p) fun m => fr ((m * m + (p - (s + s) % p)) % p) fun x' =>
  fr (yy * yy * 8 % p) fun e => fr ((m * (s + (p - x')) + (p - e)) % p) fun y' => fr (2 * (y * z) % p) fun z' => k x' y' z'
def addN (p x y z xa ya : Nat) (k : Nat → Nat → Nat → β) : β := bif Nat.beq z 0 then k xa ya 1 else
  fr (z * z % p) fun az => fr ((xa * az + (p - x)) % p) fun h => fr ((ya * (az * z) + (p - y)) % p) fun r =>
  bif Nat.beq h 0 then (bif Nat.beq r 0 then dblN p x y z k else k 1 1 0) else
  fr (h * h % p) fun hh => fr (hh * h % p) fun hhh => fr (x * hh % p) fun w => fr ((r * r + (p - hhh) + (p - (w + w) % p)) % p) fun x' =>
  fr ((r * (w + (p - x')) + (p - y * hhh % p)) % p) fun y' => fr (h * z % p) fun z' => k x' y' z'
def lad (p n xa ya : Nat) : Nat → Nat → Nat → Nat → (Nat → Nat → Nat → β) → β
  | 0, x, y, z, k => k x y z
  | i + 1, x, y, z, k => dblN p x y z fun x y z => bif Nat.beq (n / 2 ^ i % 2) 1 then addN p x y z xa ya fun x y z => lad p n xa ya i x y z k else lad p n xa ya i x y z k
abbrev app3 (k : Nat → Nat → Nat → β) (r : Ec.F × Ec.F × Ec.F) : β := k r.1.val r.2.1.val r.2.2.val
theorem beqZ (z : Ec.F) : Nat.beq z.val 0 = decide (z = 0) := by
  by_cases h : z = 0
  · rw [decide_eq_true h, h, val_zero]; rfl
  · rw [decide_eq_false h]
    cases e : Nat.beq z.val 0
    · rfl
    · exact absurd (Fin.ext (by rw [val_zero]; exact Nat.eq_of_beq_eq_true e)) h
theorem dblN_eq (x y z : Ec.F) (k : Nat → Nat → Nat → β) : dblN Prim.P256 x.val y.val z.val k = app3 k (Ec.jdbl (x, y, z)) := by
  unfold dblN
  rw [beqZ]
  by_cases hz : z = 0
  · rw [decide_eq_true hz, jdbl_zero hz]; rfl
  · rw [decide_eq_false hz, jdbl_nz hz]
    simp only [cond_false, fr_eq]
    have l : ∀ u : Ec.F, u.val ≤ Prim.P256 := fun u => Nat.le_of_lt u.isLt
    have l2 : ∀ e, e % Prim.P256 ≤ Prim.P256 := fun e => Nat.le_of_lt (Nat.mod_lt _ (by have := p3; omega))
    have h1 := to_val (e := y.val * y.val) (x := y * y) (by rw [nF_mul, nF_of])
    rw [h1]
    have h2 := to_val (e := x.val * (y * y).val * 4) (x := x * (y * y) + x * (y * y) + (x * (y * y) + x * (y * y))) (by rw [nF_mul, nF_mul, nF_of, nF_of, show nF 4 = 4 from rfl]; grobner)
    rw [h2]
    generalize x * (y * y) + x * (y * y) + (x * (y * y) + x * (y * y)) = s
    have h3 := to_val (e := z.val * z.val) (x := z * z) (by rw [nF_mul, nF_of])
    rw [h3]
    have h4 := to_val (e := (x.val + (Prim.P256 - (z * z).val)) * (x.val + (z * z).val) * 3) (x := (x - z * z) * (x + z * z) + (x - z * z) * (x + z * z) + (x - z * z) * (x + z * z)) (by rw [nF_mul, nF_mul, nF_add, nF_add, nF_sub (l _), nF_of, nF_of, nF_p, show nF 3 = 3 from rfl]; grobner)
    rw [h4]
    generalize (x - z * z) * (x + z * z) + (x - z * z) * (x + z * z) + (x - z * z) * (x + z * z) = m
    have h5 := to_val (e := m.val * m.val + (Prim.P256 - (s.val + s.val) % Prim.P256)) (x := m * m - (s + s)) (by rw [nF_add, nF_mul, nF_sub (l2 _), nF_mod, nF_add, nF_of, nF_of, nF_p]; grobner)
    rw [h5]
    generalize m * m - (s + s) = x'
    have h6 := to_val (e := (y * y).val * (y * y).val * 8) (x := y * y * (y * y) + y * y * (y * y) + (y * y * (y * y) + y * y * (y * y)) + (y * y * (y * y) + y * y * (y * y) + (y * y * (y * y) + y * y * (y * y)))) (by rw [nF_mul, nF_mul, nF_of, show nF 8 = 8 from rfl]; grobner)
    rw [h6]
    generalize y * y * (y * y) + y * y * (y * y) + (y * y * (y * y) + y * y * (y * y)) + (y * y * (y * y) + y * y * (y * y) + (y * y * (y * y) + y * y * (y * y))) = e
    have h7 := to_val (e := m.val * (s.val + (Prim.P256 - x'.val)) + (Prim.P256 - e.val)) (x := m * (s - x') - e) (by rw [nF_add, nF_mul, nF_add, nF_sub (l _), nF_sub (l _), nF_of, nF_of, nF_of, nF_of, nF_p]; grobner)
    rw [h7]
    have h8 := to_val (e := 2 * (y.val * z.val)) (x := y * z + y * z) (by rw [nF_mul, nF_mul, nF_of, nF_of, show nF 2 = 2 from rfl]; grobner)
    rw [h8]
theorem addN_eq (x y z xa ya : Ec.F) (k : Nat → Nat → Nat → β) : addN Prim.P256 x.val y.val z.val xa.val ya.val k = app3 k (Ec.jadd (x, y, z) (xa, ya, 1)) := by
  have h10 : ¬ (1 : Ec.F) = 0 := fun e => Ec.two_ne (by grobner)
  unfold addN
  rw [beqZ]
  by_cases hz : z = 0
  · rw [decide_eq_true hz]
    unfold Ec.jadd
    rw [if_pos hz]
    show k _ _ _ = k _ _ _
    rw [val_one]
  · rw [decide_eq_false hz]
    unfold Ec.jadd
    rw [if_neg hz, if_neg h10]
    simp only [cond_false, fr_eq]
    have l : ∀ u : Ec.F, u.val ≤ Prim.P256 := fun u => Nat.le_of_lt u.isLt
    have l2 : ∀ e, e % Prim.P256 ≤ Prim.P256 := fun e => Nat.le_of_lt (Nat.mod_lt _ (by have := p3; omega))
    have h1 := to_val (e := z.val * z.val) (x := z * z) (by rw [nF_mul, nF_of])
    rw [h1]
    have h2 := to_val (e := xa.val * (z * z).val + (Prim.P256 - x.val)) (x := xa * (z * z) - x * (1 * 1)) (by rw [nF_add, nF_mul, nF_sub (l _), nF_of, nF_of, nF_of, nF_p]; grobner)
    rw [h2]
    have h3 := to_val (e := ya.val * ((z * z).val * z.val) + (Prim.P256 - y.val)) (x := ya * (z * z * z) - y * (1 * 1 * 1)) (by rw [nF_add, nF_mul, nF_mul, nF_sub (l _), nF_of, nF_of, nF_of, nF_of, nF_p]; grobner)
    rw [h3]
    generalize xa * (z * z) - x * (1 * 1) = h
    generalize ya * (z * z * z) - y * (1 * 1 * 1) = r
    rw [beqZ, beqZ]
    by_cases hh : h = 0
    · rw [decide_eq_true hh, if_pos hh]
      simp only [cond_true]
      by_cases hr : r = 0
      · rw [decide_eq_true hr, if_pos hr]
        exact dblN_eq x y z k
      · rw [decide_eq_false hr, if_neg hr]
        show k _ _ _ = k _ _ _
        rw [val_one, val_zero]
    · rw [decide_eq_false hh, if_neg hh]
      simp only [cond_false]
      have h4 := to_val (e := h.val * h.val) (x := h * h) (by rw [nF_mul, nF_of])
      rw [h4]
      have h5 := to_val (e := (h * h).val * h.val) (x := h * h * h) (by rw [nF_mul, nF_of, nF_of])
      rw [h5]
      have h6 := to_val (e := x.val * (h * h).val) (x := x * (1 * 1) * (h * h)) (by rw [nF_mul, nF_of, nF_of]; grobner)
      rw [h6]
      generalize x * (1 * 1) * (h * h) = w
      have h7 := to_val (e := r.val * r.val + (Prim.P256 - (h * h * h).val) + (Prim.P256 - (w.val + w.val) % Prim.P256)) (x := r * r - h * h * h - (w + w)) (by rw [nF_add, nF_add, nF_mul, nF_sub (l _), nF_sub (l2 _), nF_mod, nF_add, nF_of, nF_of, nF_of, nF_p]; grobner)
      rw [h7]
      generalize r * r - h * h * h - (w + w) = x'
      have h8 := to_val (e := r.val * (w.val + (Prim.P256 - x'.val)) + (Prim.P256 - y.val * (h * h * h).val % Prim.P256)) (x := r * (w - x') - y * (1 * 1 * 1) * (h * h * h)) (by rw [nF_add, nF_mul, nF_add, nF_sub (l _), nF_sub (l2 _), nF_mod, nF_mul, nF_of, nF_of, nF_of, nF_of, nF_of, nF_p]; grobner)
      rw [h8]
      have h9 := to_val (e := h.val * z.val) (x := h * (z * 1)) (by rw [nF_mul, nF_of, nF_of]; grobner)
      rw [h9]
def ladF (n : Nat) (xa ya : Ec.F) : Nat → Ec.F × Ec.F × Ec.F → Ec.F × Ec.F × Ec.F
  | 0, r => r
  | i + 1, r => ladF n xa ya i (if n / 2 ^ i % 2 = 1 then Ec.jadd (Ec.jdbl r) (xa, ya, 1) else Ec.jdbl r)
theorem lad_eq (n : Nat) (xa ya : Ec.F) (k : Nat → Nat → Nat → β) : ∀ (i : Nat) (r : Ec.F × Ec.F × Ec.F), lad Prim.P256 n xa.val ya.val i r.1.val r.2.1.val r.2.2.val k = app3 k (ladF n xa ya i r)
  | 0, r => rfl
  | i + 1, (x, y, z) => by
    rw [lad, dblN_eq, ladF]
    generalize Ec.jdbl (x, y, z) = d
    obtain ⟨x', y', z'⟩ := d
    simp only [app3]
    by_cases hb : n / 2 ^ i % 2 = 1
    · rw [if_pos hb, hb]
      simp only [Nat.beq_refl, cond_true]
      rw [addN_eq]
      exact lad_eq n xa ya k i _
    · have : Nat.beq (n / 2 ^ i % 2) 1 = false := by
        cases e : Nat.beq (n / 2 ^ i % 2) 1
        · rfl
        · exact absurd (Nat.eq_of_beq_eq_true e) hb
      rw [if_neg hb, this]
      simp only [cond_false]
      exact lad_eq n xa ya k i (x', y', z')
end
theorem ladF_pt {n : Nat} {xa ya : Ec.F} (hA : OnP (some (xa, ya))) : ∀ (i : Nat) (r : Ec.F × Ec.F × Ec.F), Ec.jpt r = sm3 (n / 2 ^ i) (some (xa, ya)) → Ec.jpt (ladF n xa ya i r) = sm3 n (some (xa, ya))
  | 0, r, h => by rw [ladF, h, Nat.pow_zero, Nat.div_one]
  | i + 1, r, h => by
    rw [ladF]
    have hd : Ec.jpt (Ec.jdbl r) = sm3 (2 * (n / 2 ^ (i + 1))) (some (xa, ya)) := by
      rw [Ec.jdbl_pt, h]
      exact (Ec.sm_two disc3 hA _).symm
    by_cases hb : n / 2 ^ i % 2 = 1
    · rw [if_pos hb]
      refine ladF_pt hA i _ ?_
      rw [Ec.jadd_pt, hd, show Ec.jpt (xa, ya, 1) = some (xa, ya) from jin_pt (some (xa, ya)) ▸ (by rw [show jin (some (xa, ya)) = (xa, ya, 1) from by unfold jin; rfl]), ← step1 (N := 0) hb]
      rfl
    · rw [if_neg hb]
      refine ladF_pt hA i _ ?_
      rw [hd, step0 (N := 0) (by omega)]
theorem lad_pt {n : Nat} {xa ya : Ec.F} (hn : n < W256) (hA : OnP (some (xa, ya))) : Ec.jpt (ladF n xa ya 256 (1, 1, 0)) = sm3 n (some (xa, ya)) := by
  refine ladF_pt hA 256 _ ?_
  rw [Nat.div_eq_of_lt (by rw [show (2 : Nat) ^ 256 = W256 by decide]; exact hn)]
  exact Ec.jac_zero _ _
/-- a multiple is nothing -/
theorem sm_none_of {n : Nat} {xa ya : Ec.F} (hn : n < W256) (hA : OnP (some (xa, ya))) (h : lad Prim.P256 n xa.val ya.val 256 1 1 0 (fun _ _ z => Nat.beq z 0) = true) : sm3 n (some (xa, ya)) = none := by
  have := lad_eq n xa ya (fun _ _ z => Nat.beq z 0) 256 (1, 1, 0)
  simp only [val_one, val_zero] at this
  rw [this] at h
  rw [← lad_pt hn hA]
  generalize ladF n xa ya 256 (1, 1, 0) = r at *
  obtain ⟨x, y, z⟩ := r
  simp only [app3, beqZ, decide_eq_true_eq] at h
  subst h
  exact Ec.jac_zero _ _
/-- a multiple is this point -/
theorem sm_some_of {n X Y : Nat} {xa ya : Ec.F} (hn : n < W256) (hA : OnP (some (xa, ya))) (h : lad Prim.P256 n xa.val ya.val 256 1 1 0 (fun x y z => !(Nat.beq z 0) && (Nat.beq (X * (z * z) % Prim.P256) x && Nat.beq (Y * (z * z * z) % Prim.P256) y)) = true) : sm3 n (some (xa, ya)) = some (nF X, nF Y) := by
  have := lad_eq n xa ya (fun x y z => !(Nat.beq z 0) && (Nat.beq (X * (z * z) % Prim.P256) x && Nat.beq (Y * (z * z * z) % Prim.P256) y)) 256 (1, 1, 0)
  simp only [val_one, val_zero] at this
  rw [this] at h
  rw [← lad_pt hn hA]
  generalize ladF n xa ya 256 (1, 1, 0) = r at *
  obtain ⟨x, y, z⟩ := r
  simp only [app3, beqZ, Bool.and_eq_true, Bool.not_eq_true', decide_eq_false_iff_not] at h
  obtain ⟨hz, hx, hy⟩ := h
  have ex : x = nF X * (z * z) := Fin.ext (by rw [← Nat.eq_of_beq_eq_true hx]; exact to_val (by rw [nF_mul, nF_mul, nF_of]))
  have ey : y = nF Y * (z * z * z) := Fin.ext (by rw [← Nat.eq_of_beq_eq_true hy]; exact to_val (by rw [nF_mul, nF_mul, nF_mul, nF_of]))
  subst ex ey
  exact Ec.jac_of hz
end Go.Proofs.Ytfaobdakpbpkbaa
