/-
  The formulas of the program (x/z^2, y/z^3) and of the document (x/z, y/z) compute the sums of XGrp, in plain Lean. Conditions: a is -3.
-/
import Derived.Test.YtfaobdakpbpkbaaGrp
namespace Go.Proofs.Ytfaobdakpbpkbaa.Ec
open Go.Proofs.Ytfaobdakpbpkbaa.Prim (P256 fermat_p)
attribute [local irreducible] Prim.P256
theorem finv_eq {x y : F} (h : x * y = 1) : finv x = y := by
  have hx : x ≠ 0 := fun e => by
    rw [e] at h
    exact two_ne (by grobner)
  have := mul_finv hx
  refine canc hx ?_
  rw [this, h]
def jac (x y z : F) : Pt := if z = 0 then none else some (x * (finv z * finv z), y * (finv z * finv z * finv z))
def prj (x y z : F) : Pt := if z = 0 then none else some (x * finv z, y * finv z)
theorem jac_zero (x y : F) : jac x y 0 = none := if_pos rfl
theorem prj_zero (x y : F) : prj x y 0 = none := if_pos rfl
theorem jac_of {x y z : F} (hz : z ≠ 0) : jac (x * (z * z)) (y * (z * z * z)) z = some (x, y) := by
  have := mul_finv hz
  unfold jac
  rw [if_neg hz]
  generalize finv z = i at *
  congr 2
  · grobner
  · grobner
theorem prj_of {x y z : F} (hz : z ≠ 0) : prj (x * z) (y * z) z = some (x, y) := by
  have := mul_finv hz
  unfold prj
  rw [if_neg hz]
  generalize finv z = i at *
  congr 2
  · grobner
  · grobner
theorem jac_par (x y : F) {z : F} (hz : z ≠ 0) : ∃ X Y, x = X * (z * z) ∧ y = Y * (z * z * z) := by
  have := mul_finv hz
  generalize finv z = i at *
  exact ⟨x * (i * i), y * (i * i * i), by grobner, by grobner⟩
theorem prj_par (x y : F) {z : F} (hz : z ≠ 0) : ∃ X Y, x = X * z ∧ y = Y * z := by
  have := mul_finv hz
  generalize finv z = i at *
  exact ⟨x * i, y * i, by grobner, by grobner⟩
theorem zz_zero {x y : F} : x * y = 0 ↔ x = 0 ∨ y = 0 := by
  constructor
  · intro h
    by_cases hx : x = 0
    · exact .inl hx
    · exact .inr (Classical.byContradiction fun hy => nz_mul hx hy h)
  · rintro (h | h) <;> rw [h] <;> grobner
/-- the program's doubling -/
def jdbl (p : F × F × F) : F × F × F :=
  if p.2.2 = 0 then p else
  let x := p.1; let y := p.2.1; let z := p.2.2
  let s2 := x * (y * y) + x * (y * y)
  let s := s2 + s2
  let t := (x - z * z) * (x + z * z)
  let m := t + t + t
  let x' := m * m - (s + s)
  let e0 := y * y * (y * y)
  let e1 := e0 + e0
  let e2 := e1 + e1
  let e := e2 + e2
  let yz := y * z
  (x', m * (s - x') - e, yz + yz)
/-- .. its sum -/
def jadd (p q : F × F × F) : F × F × F :=
  if p.2.2 = 0 then q else if q.2.2 = 0 then p else
  let az := p.2.2 * p.2.2; let bz := q.2.2 * q.2.2
  let u := p.1 * bz; let v := q.1 * az
  let s := p.2.1 * (bz * q.2.2); let t := q.2.1 * (az * p.2.2)
  let h := v - u; let r := t - s
  if h = 0 then (if r = 0 then jdbl p else (1, 1, 0)) else
  let hh := h * h
  let hhh := hh * h; let w := u * hh
  let x := r * r - hhh - (w + w)
  (x, r * (w - x) - s * hhh, h * (p.2.2 * q.2.2))
def jpt (p : F × F × F) : Pt := jac p.1 p.2.1 p.2.2
def ppt (p : F × F × F) : Pt := prj p.1 p.2.1 p.2.2
def A3 : F := -3
theorem tang_l {X Y : F} (hY : 2 * Y ≠ 0) : ∃ l, l * (2 * Y) = 3 * (X * X) + A3 ∧ padd A3 (some (X, Y)) (some (X, Y)) = some (tx X X l, ty X Y X l) := by
  have hi := mul_finv hY
  refine ⟨(3 * (X * X) + A3) * finv (2 * Y), ?_, ?_⟩
  · generalize finv (2 * Y) = i at *
    grobner
  · rw [padd_ss]
    unfold slope
    rw [if_neg, if_pos rfl]
    rintro ⟨_, h | h⟩
    · exact h rfl
    · exact hY (by rw [h]; grobner)
theorem tang_0 (X : F) : padd A3 (some (X, 0)) (some (X, 0)) = none := by
  rw [padd_ss, if_pos ⟨rfl, .inr rfl⟩]
theorem chord_l (a : F) {X1 Y1 X2 Y2 : F} (hx : X1 ≠ X2) : ∃ l, l * (X2 - X1) = Y2 - Y1 ∧ padd a (some (X1, Y1)) (some (X2, Y2)) = some (tx X1 X2 l, ty X1 Y1 X2 l) := by
  have hi := mul_finv (sub_ne hx)
  refine ⟨(Y2 - Y1) * finv (X2 - X1), ?_, ?_⟩
  · generalize finv (X2 - X1) = i at *
    grobner
  · rw [padd_ss]
    unfold slope
    rw [if_neg (fun h => hx h.1), if_neg hx]
theorem jdbl_pt (p : F × F × F) : jpt (jdbl p) = padd A3 (jpt p) (jpt p) := by
  obtain ⟨x, y, z⟩ := p
  unfold jdbl
  by_cases hz : z = 0
  · simp only [hz, if_true]
    unfold jpt
    rw [jac_zero]
    rfl
  · simp only [hz, if_false]
    obtain ⟨X, Y, rfl, rfl⟩ := jac_par x y hz
    unfold jpt
    simp only
    rw [jac_of hz]
    by_cases hY : Y = 0
    · subst hY
      rw [tang_0, show (0 : F) * (z * z * z) * z + 0 * (z * z * z) * z = 0 by grobner, jac_zero]
    · obtain ⟨l, hl, hp⟩ := tang_l (X := X) (nz_mul two_ne hY)
      rw [hp]
      have hZ : Y * (z * z * z) * z + Y * (z * z * z) * z ≠ 0 := by
        have := nz_mul two_ne (nz_mul hY (nz_mul (nz_mul hz hz) (nz_mul hz hz)))
        intro e
        exact this (by grobner)
      generalize hm : (X * (z * z) - z * z) * (X * (z * z) + z * z) = t
      have hm' : t + t + t = l * (Y * (z * z * z) * z + Y * (z * z * z) * z) := by
        rw [← hm]
        unfold A3 at hl
        clear hm hp hZ
        grobner
      rw [hm']
      clear hm hm' hl hp
      rw [← jac_of (x := tx X X l) (y := ty X Y X l) hZ]
      have e1 : l * (Y * (z * z * z) * z + Y * (z * z * z) * z) * (l * (Y * (z * z * z) * z + Y * (z * z * z) * z)) -
            (X * (z * z) * (Y * (z * z * z) * (Y * (z * z * z))) + X * (z * z) * (Y * (z * z * z) * (Y * (z * z * z))) + (X * (z * z) * (Y * (z * z * z) * (Y * (z * z * z))) + X * (z * z) * (Y * (z * z * z) * (Y * (z * z * z)))) +
              (X * (z * z) * (Y * (z * z * z) * (Y * (z * z * z))) + X * (z * z) * (Y * (z * z * z) * (Y * (z * z * z))) + (X * (z * z) * (Y * (z * z * z) * (Y * (z * z * z))) + X * (z * z) * (Y * (z * z * z) * (Y * (z * z * z)))))) =
          tx X X l * ((Y * (z * z * z) * z + Y * (z * z * z) * z) * (Y * (z * z * z) * z + Y * (z * z * z) * z)) := by
        unfold tx
        clear hZ
        grobner
      rw [e1]
      unfold ty
      generalize tx X X l = T
      congr 1
      clear hZ e1
      grobner
theorem jadd_pt (p q : F × F × F) : jpt (jadd p q) = padd A3 (jpt p) (jpt q) := by
  obtain ⟨x1, y1, z1⟩ := p
  obtain ⟨x2, y2, z2⟩ := q
  unfold jadd
  by_cases hz1 : z1 = 0
  · simp only [hz1, if_true]
    have : jpt (x1, y1, 0) = none := jac_zero _ _
    rw [this, zero_padd]
  by_cases hz2 : z2 = 0
  · simp only [hz1, hz2, if_true, if_false]
    have : jpt (x2, y2, 0) = none := jac_zero _ _
    rw [this, padd_zero]
  simp only [hz1, hz2, if_false]
  obtain ⟨X1, Y1, rfl, rfl⟩ := jac_par x1 y1 hz1
  obtain ⟨X2, Y2, rfl, rfl⟩ := jac_par x2 y2 hz2
  have p1 : jpt (X1 * (z1 * z1), Y1 * (z1 * z1 * z1), z1) = some (X1, Y1) := jac_of hz1
  have p2 : jpt (X2 * (z2 * z2), Y2 * (z2 * z2 * z2), z2) = some (X2, Y2) := jac_of hz2
  have hzz := nz_mul hz1 hz2
  have eh : X2 * (z2 * z2) * (z1 * z1) - X1 * (z1 * z1) * (z2 * z2) = (X2 - X1) * (z1 * z2 * (z1 * z2)) := by grobner
  have er : Y2 * (z2 * z2 * z2) * (z1 * z1 * z1) - Y1 * (z1 * z1 * z1) * (z2 * z2 * z2) = (Y2 - Y1) * (z1 * z2 * (z1 * z2) * (z1 * z2)) := by grobner
  rw [eh, er]
  have h0 : (X2 - X1) * (z1 * z2 * (z1 * z2)) = 0 ↔ X1 = X2 := by
    rw [zz_zero]
    constructor
    · rintro (h | h)
      · grobner
      · exact absurd h (nz_mul hzz hzz)
    · rintro rfl; left; grobner
  have r0 : (Y2 - Y1) * (z1 * z2 * (z1 * z2) * (z1 * z2)) = 0 ↔ Y1 = Y2 := by
    rw [zz_zero]
    constructor
    · rintro (h | h)
      · grobner
      · exact absurd h (nz_mul (nz_mul hzz hzz) hzz)
    · rintro rfl; left; grobner
  simp only [h0, r0]
  by_cases hx : X1 = X2
  · subst hx
    simp only [if_true]
    by_cases hy : Y1 = Y2
    · subst hy
      simp only [if_true]
      rw [jdbl_pt, p1, p2]
    · simp only [hy, if_false]
      rw [p1, p2, padd_ss, if_pos ⟨rfl, .inl hy⟩]
      exact jac_zero _ _
  · simp only [hx, if_false]
    obtain ⟨l, hl, hp⟩ := chord_l A3 (Y1 := Y1) (Y2 := Y2) hx
    rw [p1, p2, hp]
    have hZ : (X2 - X1) * (z1 * z2 * (z1 * z2)) * (z1 * z2) ≠ 0 := nz_mul (fun e => hx (h0.1 e)) hzz
    unfold jpt
    simp only
    rw [← jac_of (x := tx X1 X2 l) (y := ty X1 Y1 X2 l) hZ, ← hl]
    clear hl hp r0 h0 er eh p1 p2 hZ hzz hx hz1 hz2
    have e1 : l * (X2 - X1) * (z1 * z2 * (z1 * z2) * (z1 * z2)) * (l * (X2 - X1) * (z1 * z2 * (z1 * z2) * (z1 * z2))) -
          (X2 - X1) * (z1 * z2 * (z1 * z2)) * ((X2 - X1) * (z1 * z2 * (z1 * z2))) * ((X2 - X1) * (z1 * z2 * (z1 * z2))) -
        (X1 * (z1 * z1) * (z2 * z2) * ((X2 - X1) * (z1 * z2 * (z1 * z2)) * ((X2 - X1) * (z1 * z2 * (z1 * z2)))) + X1 * (z1 * z1) * (z2 * z2) * ((X2 - X1) * (z1 * z2 * (z1 * z2)) * ((X2 - X1) * (z1 * z2 * (z1 * z2))))) =
        tx X1 X2 l * ((X2 - X1) * (z1 * z2 * (z1 * z2)) * (z1 * z2) * ((X2 - X1) * (z1 * z2 * (z1 * z2)) * (z1 * z2))) := by
      unfold tx
      grobner
    rw [e1]
    unfold ty
    generalize tx X1 X2 l = T
    congr 1
    grobner
/-- the document's doubling -/
def pdbl (p : F × F × F) : F × F × F :=
  if p.2.2 = 0 then p else
  let x := p.1; let y := p.2.1; let z := p.2.2
  let w0 := x * x - z * z
  let w := w0 + w0 + w0
  let s := y * z
  let ys := y * s
  let q := x * ys
  let q4 := q + q + (q + q)
  let h := w * w - (q4 + q4)
  let hs := h * s
  let yy := ys * ys
  let y8 := yy + yy + (yy + yy) + (yy + yy + (yy + yy))
  let sss := s * (s * s)
  let z' := sss + sss + (sss + sss)
  (hs + hs, w * (q4 - h) - y8, z' + z')
def pplus (p q : F × F × F) : F × F × F :=
  if p.2.2 = 0 then q else if q.2.2 = 0 then p else
  let y1 := p.2.1 * q.2.2; let x1 := p.1 * q.2.2
  let u := q.2.1 * p.2.2 - y1; let v := q.1 * p.2.2 - x1
  if v = 0 then (if u = 0 then pdbl p else (1, 1, 0)) else
  let zz := p.2.2 * q.2.2
  let vv := v * v
  let vvv := v * vv
  let r := vv * x1
  let a := u * u * zz - vvv - (r + r)
  (v * a, u * (r - a) - vvv * y1, vvv * zz)
theorem pdbl_pt (p : F × F × F) : ppt (pdbl p) = padd A3 (ppt p) (ppt p) := by
  obtain ⟨x, y, z⟩ := p
  unfold pdbl
  by_cases hz : z = 0
  · simp only [hz, if_true]
    unfold ppt
    rw [prj_zero]
    rfl
  · simp only [hz, if_false]
    obtain ⟨X, Y, rfl, rfl⟩ := prj_par x y hz
    unfold ppt
    simp only
    rw [prj_of hz]
    by_cases hY : Y = 0
    · subst hY
      rw [tang_0]
      have e : (0 : F) * z * z = 0 := by grobner
      rw [e]
      have e2 : (0 : F) * (0 * 0) + 0 * (0 * 0) + (0 * (0 * 0) + 0 * (0 * 0)) + (0 * (0 * 0) + 0 * (0 * 0) + (0 * (0 * 0) + 0 * (0 * 0))) = 0 := by grobner
      rw [e2, prj_zero]
    · obtain ⟨l, hl, hp⟩ := tang_l (X := X) (nz_mul two_ne hY)
      rw [hp]
      have hZ : 2 * Y * (z * z) ≠ 0 := nz_mul (nz_mul two_ne hY) (nz_mul hz hz)
      have hZ3 := nz_mul (nz_mul hZ hZ) hZ
      rw [← prj_of (x := tx X X l) (y := ty X Y X l) hZ3]
      generalize hw : X * z * (X * z) - z * z = w
      have hw' : w + w + w = l * (2 * Y * (z * z)) := by
        rw [← hw]
        unfold A3 at hl
        clear hw hp hZ hZ3
        grobner
      rw [hw']
      clear hw hw' hl hp hZ hZ3
      have e3 : Y * z * z * (Y * z * z * (Y * z * z)) + Y * z * z * (Y * z * z * (Y * z * z)) + (Y * z * z * (Y * z * z * (Y * z * z)) + Y * z * z * (Y * z * z * (Y * z * z))) + (Y * z * z * (Y * z * z * (Y * z * z)) + Y * z * z * (Y * z * z * (Y * z * z)) + (Y * z * z * (Y * z * z * (Y * z * z)) + Y * z * z * (Y * z * z * (Y * z * z)))) = 2 * Y * (z * z) * (2 * Y * (z * z)) * (2 * Y * (z * z)) := by grobner
      rw [e3]
      unfold ty tx
      congr 1
      · grobner
      · grobner
theorem pplus_pt (p q : F × F × F) : ppt (pplus p q) = padd A3 (ppt p) (ppt q) := by
  obtain ⟨x1, y1, z1⟩ := p
  obtain ⟨x2, y2, z2⟩ := q
  unfold pplus
  by_cases hz1 : z1 = 0
  · simp only [hz1, if_true]
    have : ppt (x1, y1, 0) = none := prj_zero _ _
    rw [this, zero_padd]
  by_cases hz2 : z2 = 0
  · simp only [hz1, hz2, if_true, if_false]
    have : ppt (x2, y2, 0) = none := prj_zero _ _
    rw [this, padd_zero]
  simp only [hz1, hz2, if_false]
  obtain ⟨X1, Y1, rfl, rfl⟩ := prj_par x1 y1 hz1
  obtain ⟨X2, Y2, rfl, rfl⟩ := prj_par x2 y2 hz2
  have p1 : ppt (X1 * z1, Y1 * z1, z1) = some (X1, Y1) := prj_of hz1
  have p2 : ppt (X2 * z2, Y2 * z2, z2) = some (X2, Y2) := prj_of hz2
  have hzz := nz_mul hz1 hz2
  have eh : X2 * z2 * z1 - X1 * z1 * z2 = (X2 - X1) * (z1 * z2) := by grobner
  have er : Y2 * z2 * z1 - Y1 * z1 * z2 = (Y2 - Y1) * (z1 * z2) := by grobner
  rw [eh, er]
  have h0 : (X2 - X1) * (z1 * z2) = 0 ↔ X1 = X2 := by
    rw [zz_zero]
    constructor
    · rintro (h | h)
      · grobner
      · exact absurd h hzz
    · rintro rfl; left; grobner
  have r0 : (Y2 - Y1) * (z1 * z2) = 0 ↔ Y1 = Y2 := by
    rw [zz_zero]
    constructor
    · rintro (h | h)
      · grobner
      · exact absurd h hzz
    · rintro rfl; left; grobner
  simp only [h0, r0]
  by_cases hx : X1 = X2
  · subst hx
    simp only [if_true]
    by_cases hy : Y1 = Y2
    · subst hy
      simp only [if_true]
      rw [pdbl_pt, p1, p2]
    · simp only [hy, if_false]
      rw [p1, p2, padd_ss, if_pos ⟨rfl, .inl hy⟩]
      exact prj_zero _ _
  · simp only [hx, if_false]
    obtain ⟨l, hl, hp⟩ := chord_l A3 (Y1 := Y1) (Y2 := Y2) hx
    rw [p1, p2, hp]
    have hv := fun e => hx (h0.1 e)
    have hZ : (X2 - X1) * (z1 * z2) * ((X2 - X1) * (z1 * z2) * ((X2 - X1) * (z1 * z2))) * (z1 * z2) ≠ 0 := nz_mul (nz_mul hv (nz_mul hv hv)) hzz
    unfold ppt
    simp only
    rw [← prj_of (x := tx X1 X2 l) (y := ty X1 Y1 X2 l) hZ, ← hl]
    clear hl hp r0 h0 er eh p1 p2 hZ hzz hx hz1 hz2 hv
    unfold ty tx
    congr 1
    · grobner
    · grobner
end Go.Proofs.Ytfaobdakpbpkbaa.Ec
