/-
  The group law of a curve y^2 = x^3 + ax + b over P-256's field, in plain Lean: sums are commutative and associative on the curve's points. Conditions: the discriminant is not 0.
-/
import Derived.Test.YtfaobdakpbpkbaaPrime
namespace Go.Proofs.Ytfaobdakpbpkbaa.Ec
open Go.Proofs.Ytfaobdakpbpkbaa.Prim (P256 fermat_p)
/-! the field -/
instance nzP : NeZero P256 := ⟨by decide +kernel⟩
abbrev F := Fin P256
attribute [local irreducible] Prim.P256
theorem p3 : (3:Nat) < P256 := by unfold P256; decide
theorem pOdd : P256 % 2 = 1 := by unfold P256; decide
def finv (x : F) : F := Fin.ofNat P256 (x.val ^ (P256 - 2))
theorem mul_finv {x : F} (h : x ≠ 0) : x * finv x = 1 := by
  have h3 := p3
  have hx : x.val % P256 ≠ 0 := by
    rw [Nat.mod_eq_of_lt x.isLt]
    intro e
    exact h (Fin.ext (by rw [e]; rfl))
  have := fermat_p x.val hx
  apply Fin.ext
  unfold finv
  rw [Fin.val_mul]
  simp only [Fin.ofNat]
  rw [Nat.mul_mod_mod, ← Nat.pow_succ', show (P256 - 2).succ = P256 - 1 by omega, this]
  symm
  exact Nat.mod_eq_of_lt (Nat.lt_trans (by decide : 1 < 3) h3)
theorem canc {x y z : F} (h : x ≠ 0) (e : x * y = x * z) : y = z := by
  have := mul_finv h
  grobner
theorem two_ne : (2 : F) ≠ 0 := by
  have h3 := p3
  intro e
  have := congrArg Fin.val e
  have e2 : ((2 : F)).val = 2 % P256 := rfl
  have e0 : ((0 : F)).val = 0 % P256 := rfl
  rw [e2, e0, Nat.mod_eq_of_lt (Nat.lt_trans (by decide : 2 < 3) h3), Nat.zero_mod] at this
  cases this
theorem nz_mul {x y : F} (hx : x ≠ 0) (hy : y ≠ 0) : x * y ≠ 0 := by
  have := mul_finv hx
  intro e
  apply hy
  grobner
/-! the group -/
section
variable {a b : F}
def Onc (a b x y : F) : Prop := y * y = x * x * x + a * x + b
/-- l is the slope of the line through both (the tangent, if they are one) -/
def Sl (a x1 y1 x2 y2 l : F) : Prop := l * (x2 - x1) = y2 - y1 ∧ a = 2 * l * (y1 - l * x1) + x1 * x2 + (x1 + x2) * (l * l - x1 - x2)
theorem Sl.chord {x1 y1 x2 y2 l : F} (h1 : Onc a b x1 y1) (h2 : Onc a b x2 y2) (hx : x2 - x1 ≠ 0) (hl : l * (x2 - x1) = y2 - y1) : Sl a x1 y1 x2 y2 l := by
  refine ⟨hl, canc hx ?_⟩
  unfold Onc at *
  grobner
theorem Sl.tang {x1 y1 l : F} (hl : l * (2 * y1) = 3 * (x1 * x1) + a) : Sl a x1 y1 x1 y1 l := by
  refine ⟨by grobner, by grobner⟩
theorem Sl.symm {x1 y1 x2 y2 l : F} (h : Sl a x1 y1 x2 y2 l) : Sl a x2 y2 x1 y1 l := by
  obtain ⟨h1, h2⟩ := h
  refine ⟨by grobner, by grobner⟩
/-- the third point of the line, mirrored -/
def tx (x1 x2 l : F) : F := l * l - x1 - x2
def ty (x1 y1 x2 l : F) : F := l * (x1 - tx x1 x2 l) - y1
theorem Sl.on {x1 y1 x2 y2 l : F} (h : Sl a x1 y1 x2 y2 l) (h1 : Onc a b x1 y1) : Onc a b (tx x1 x2 l) (ty x1 y1 x2 l) := by
  obtain ⟨h2, h3⟩ := h
  unfold Onc ty tx at *
  grobner
/-- u times the sum of both slopes is 1 -/
theorem key {x1 y1 x2 y2 x3 y3 l m s u : F} (h12 : Sl a x1 y1 x2 y2 l) (h13 : Sl a x1 y1 x3 y3 m) (hu : u * (x3 - x2) = m - l) (h23 : x3 - x2 ≠ 0)
    (hs : s * (x3 - tx x1 x2 l) = y3 - ty x1 y1 x2 l) (hne : x3 - tx x1 x2 l ≠ 0) : u * (l + s) = 1 := by
  obtain ⟨k1, k2⟩ := h12
  obtain ⟨k3, k4⟩ := h13
  have e1 : (m - l) * (y3 + (y1 + l * (x3 - x1))) = (x3 - x2) * (x3 - tx x1 x2 l) := by
    unfold tx; grobner
  have e2 : u * (y3 + (y1 + l * (x3 - x1))) = x3 - tx x1 x2 l := canc h23 (by rw [← e1, ← hu]; grobner)
  refine canc hne ?_
  clear e1 k2 k4 hu k1 k3 h23
  unfold ty at hs
  generalize tx x1 x2 l = x4 at *
  grobner
theorem keyT {x1 y1 x2 y2 x3 y3 l m s u : F} (h12 : Sl a x1 y1 x2 y2 l) (h13 : Sl a x1 y1 x3 y3 m) (hu : u * (x3 - x2) = m - l) (hx : x3 = tx x1 x2 l) (hy : y3 = ty x1 y1 x2 l)
    (hs : s * (2 * y3) = 3 * (x3 * x3) + a) (hne : 2 * y3 ≠ 0) : u * (l + s) = 1 := by
  obtain ⟨k1, k2⟩ := h12
  obtain ⟨k3, k4⟩ := h13
  have e1 : 3 * (x3 * x3) + a + 2 * y3 * l = (x3 - x1) * (x3 - x2) := by
    clear k1 k3 k4 hs hne hu
    unfold ty tx at *; grobner
  have e2 : u * ((x3 - x1) * (x3 - x2)) = 2 * y3 := by
    clear k2 k4 hs hne e1
    unfold ty at hy
    rw [← hx] at hy
    clear hx
    grobner
  refine canc hne ?_
  rw [← e1, ← hs] at e2
  clear k1 k2 k3 k4 hx hy hs e1 hu
  grobner
/-- both ways end in one point -/
theorem both {x1 y1 x2 y2 x3 y3 l m s t u : F} (h12 : Sl a x1 y1 x2 y2 l) (h13 : Sl a x1 y1 x3 y3 m) (hu : u * (x3 - x2) = m - l) (e1 : u * (l + s) = 1) (e2 : u * (m + t) = 1) :
    tx (tx x1 x2 l) x3 s = tx (tx x1 x3 m) x2 t ∧ ty (tx x1 x2 l) (ty x1 y1 x2 l) x3 s = ty (tx x1 x3 m) (ty x1 y1 x3 m) x2 t := by
  have k1 := h12.1
  have k3 := h13.1
  clear h12 h13
  have e3 : s = t + (m - l) := by
    have : u * (l + s) = u * (m + t) := by rw [e1, e2]
    have hu0 : u ≠ 0 := by
      intro h
      rw [h] at e1
      exact two_ne (by clear hu k1 k3 e2 this; grobner)
    have := canc hu0 this
    clear hu k1 k3
    grobner
  have e5 : (m + t) * (m - l) = x3 - x2 := by clear k1 k3 e1 e3; rw [← hu]; grobner
  clear hu e1 e2
  subst e3
  have hx : tx (tx x1 x2 l) x3 (t + (m - l)) = tx (tx x1 x3 m) x2 t := by
    clear k1 k3
    unfold tx
    grobner
  refine ⟨hx, ?_⟩
  unfold ty
  rw [← hx]
  clear hx
  unfold tx
  clear k1 k3
  grobner
/-! the law -/
abbrev Pt := Option (F × F)
def OnC (a b : F) : Pt → Prop
  | none => True
  | some (x, y) => Onc a b x y
def neg : Pt → Pt
  | none => none
  | some (x, y) => some (x, -y)
def slope (a x1 y1 x2 y2 : F) : F := if x1 = x2 then (3 * (x1 * x1) + a) * finv (2 * y1) else (y2 - y1) * finv (x2 - x1)
def padd (a : F) : Pt → Pt → Pt
  | none, q => q
  | some p, none => some p
  | some (x1, y1), some (x2, y2) => if x1 = x2 ∧ (y1 ≠ y2 ∨ y1 = 0) then none else some (tx x1 x2 (slope a x1 y1 x2 y2), ty x1 y1 x2 (slope a x1 y1 x2 y2))
theorem padd_ss {x1 y1 x2 y2 : F} : padd a (some (x1, y1)) (some (x2, y2)) = if x1 = x2 ∧ (y1 ≠ y2 ∨ y1 = 0) then none else some (tx x1 x2 (slope a x1 y1 x2 y2), ty x1 y1 x2 (slope a x1 y1 x2 y2)) := rfl
theorem sub_ne {x y : F} (h : x ≠ y) : y - x ≠ 0 := fun e => h (by grobner)
theorem onc_eq {x y z : F} (h1 : Onc a b x y) (h2 : Onc a b x z) : y = z ∨ z = -y := by
  unfold Onc at *
  by_cases h : y - z = 0
  · left; grobner
  · right
    have : (y - z) * (y + z) = (y - z) * 0 := by grobner
    have := canc h this
    grobner
theorem padd_zero (p : Pt) : padd a p none = p := by cases p <;> rfl
theorem zero_padd (p : Pt) : padd a none p = p := rfl
/-- two points of the curve: opposite, or joined by a line -/
theorem join {x1 y1 x2 y2 : F} (h1 : Onc a b x1 y1) (h2 : Onc a b x2 y2) :
    (x2 = x1 ∧ y2 = -y1 ∧ padd a (some (x1, y1)) (some (x2, y2)) = none) ∨
    (¬ (x2 = x1 ∧ y2 = -y1) ∧ ∃ l, Sl a x1 y1 x2 y2 l ∧ padd a (some (x1, y1)) (some (x2, y2)) = some (tx x1 x2 l, ty x1 y1 x2 l) ∧
      (x1 = x2 → y1 = y2 ∧ 2 * y1 ≠ 0 ∧ l * (2 * y1) = 3 * (x1 * x1) + a)) := by
  by_cases hx : x1 = x2
  · subst hx
    by_cases hy : y2 = -y1
    · left
      refine ⟨rfl, hy, ?_⟩
      rw [padd_ss]
      rw [if_pos]
      refine ⟨rfl, ?_⟩
      by_cases h0 : y1 = 0
      · exact .inr h0
      · left
        intro e
        have : 2 * y1 = 0 := by grobner
        exact nz_mul two_ne h0 this
    · right
      have e := (onc_eq h1 h2).resolve_right hy
      subst e
      have h0 : y1 ≠ 0 := fun e => hy (by rw [e]; grobner)
      have h20 := nz_mul two_ne h0
      have hi := mul_finv h20
      have hl : (3 * (x1 * x1) + a) * finv (2 * y1) * (2 * y1) = 3 * (x1 * x1) + a := by
        generalize finv (2 * y1) = i at *
        grobner
      refine ⟨fun h => hy h.2, (3 * (x1 * x1) + a) * finv (2 * y1), Sl.tang hl, ?_, fun _ => ⟨rfl, h20, hl⟩⟩
      rw [padd_ss]
      unfold slope
      rw [if_neg, if_pos rfl]
      rintro ⟨_, h | h⟩
      · exact h rfl
      · exact h0 h
  · right
    have h21 := sub_ne hx
    have hi := mul_finv h21
    have hl : (y2 - y1) * finv (x2 - x1) * (x2 - x1) = y2 - y1 := by
      generalize finv (x2 - x1) = i at *
      grobner
    refine ⟨fun h => hx h.1.symm, (y2 - y1) * finv (x2 - x1), Sl.chord h1 h2 h21 hl, ?_, fun h => absurd h hx⟩
    rw [padd_ss]
    unfold slope
    rw [if_neg (fun h => hx h.1), if_neg hx]
theorem padd_on {p q : Pt} (hp : OnC a b p) (hq : OnC a b q) : OnC a b (padd a p q) := by
  match p, q with
  | none, q => exact hq
  | some p, none => exact hp
  | some (x1, y1), some (x2, y2) =>
    rcases join hp hq with ⟨_, _, h⟩ | ⟨_, l, hs, h, _⟩
    · rw [h]; trivial
    · rw [h]; exact hs.on hp
theorem neg_on {p : Pt} (hp : OnC a b p) : OnC a b (neg p) := by
  match p with
  | none => trivial
  | some (x, y) => simp only [neg, OnC, Onc] at *; grobner
theorem neg_neg' (p : Pt) : neg (neg p) = p := by
  match p with
  | none => rfl
  | some (x, y) => simp only [neg]; congr 2; grobner
theorem padd_comm (p q : Pt) : padd a p q = padd a q p := by
  match p, q with
  | none, none => rfl
  | none, some q => rfl
  | some p, none => rfl
  | some (x1, y1), some (x2, y2) =>
    rw [padd_ss, padd_ss]
    by_cases h : x1 = x2 ∧ (y1 ≠ y2 ∨ y1 = 0)
    · rw [if_pos h, if_pos]
      obtain ⟨rfl, h⟩ := h
      refine ⟨rfl, ?_⟩
      by_cases e : y2 = y1
      · subst e
        exact .inr (h.resolve_left fun h => h rfl)
      · exact .inl e
    · rw [if_neg h, if_neg]
      · by_cases hx : x1 = x2
        · subst hx
          by_cases e : y1 = y2
          · subst e; rfl
          · exact absurd ⟨rfl, .inl e⟩ h
        · have h21 := mul_finv (sub_ne hx)
          have h12 := mul_finv (sub_ne (Ne.symm hx))
          unfold slope
          rw [if_neg hx, if_neg (Ne.symm hx)]
          have hi : finv (x1 - x2) = - finv (x2 - x1) := by
            refine canc (sub_ne (Ne.symm hx)) ?_
            rw [h12]
            generalize finv (x2 - x1) = i at *
            grobner
          have hs : (y1 - y2) * finv (x1 - x2) = (y2 - y1) * finv (x2 - x1) := by rw [hi]; grobner
          rw [hs]
          have hl : (y2 - y1) * finv (x2 - x1) * (x2 - x1) = y2 - y1 := by
            generalize finv (x2 - x1) = i at *
            grobner
          generalize (y2 - y1) * finv (x2 - x1) = l at *
          clear hs hi h12 h21
          have e1 : tx x1 x2 l = tx x2 x1 l := by unfold tx; grobner
          rw [e1]
          congr 2
          unfold ty
          rw [e1]
          grobner
      · rintro ⟨rfl, h'⟩
        apply h
        refine ⟨rfl, ?_⟩
        by_cases e : y1 = y2
        · subst e
          exact .inr (h'.resolve_left fun h => h rfl)
        · exact .inl e
theorem neg_padd (p q : Pt) : neg (padd a p q) = padd a (neg p) (neg q) := by
  match p, q with
  | none, q => rfl
  | some (x1, y1), none => rfl
  | some (x1, y1), some (x2, y2) =>
    simp only [neg]
    rw [padd_ss, padd_ss]
    have en : ∀ {x y : F}, -x = -y → x = y := fun h => by grobner
    have e0 : ∀ {x : F}, -x = 0 ↔ x = 0 := ⟨fun h => by grobner, fun h => by grobner⟩
    by_cases h : x1 = x2 ∧ (y1 ≠ y2 ∨ y1 = 0)
    · rw [if_pos h, if_pos ⟨h.1, h.2.imp (fun h e => h (en e)) e0.2⟩]
    · rw [if_neg h, if_neg (fun h' => h ⟨h'.1, h'.2.imp (fun h e => h (by rw [e])) e0.1⟩)]
      simp only
      have hs : slope a x1 (-y1) x2 (-y2) = - slope a x1 y1 x2 y2 := by
        unfold slope
        by_cases hx : x1 = x2
        · subst hx
          rw [if_pos rfl, if_pos rfl]
          have h0 : y1 ≠ 0 := fun h0 => h ⟨rfl, .inr h0⟩
          have h1 := mul_finv (nz_mul two_ne h0)
          have h2 := mul_finv (nz_mul two_ne (fun e => h0 (e0.1 e)))
          have hi : finv (2 * -y1) = - finv (2 * y1) := by
            refine canc (nz_mul two_ne (fun e => h0 (e0.1 e))) ?_
            rw [h2]
            generalize finv (2 * y1) = i at *
            grobner
          rw [hi]
          grobner
        · rw [if_neg hx, if_neg hx]
          grobner
      rw [hs]
      generalize slope a x1 y1 x2 y2 = l
      have e1 : tx x1 x2 (-l) = tx x1 x2 l := by unfold tx; grobner
      unfold ty
      rw [e1]
      congr 2
      grobner
theorem neg_cancel (p : Pt) : padd a p (neg p) = none := by
  match p with
  | none => rfl
  | some (x, y) =>
    simp only [neg]
    rw [padd_ss]
    rw [if_pos]
    refine ⟨rfl, ?_⟩
    by_cases h0 : y = 0
    · exact .inr h0
    · left
      intro e
      exact nz_mul two_ne h0 (by grobner)
theorem cancel (hD : 4 * (a * a * a) + 27 * (b * b) ≠ 0) {p q : Pt} (hp : OnC a b p) (hq : OnC a b q) : padd a (padd a p q) (neg p) = q := by
  match p, q with
  | none, q => exact padd_zero q
  | some (x1, y1), none => rw [padd_zero]; exact neg_cancel _
  | some (x1, y1), some (x3, y3) =>
    have hn := neg_on hp
    rcases join hp hq with ⟨e1, e2, h⟩ | ⟨_, l, hs, h, _⟩
    · rw [h, zero_padd]
      simp only [neg]
      rw [e1, e2]
    · rw [h]
      have h4 := hs.on hp
      obtain ⟨k1, k2⟩ := hs
      simp only [neg] at hn ⊢
      rcases join h4 hn with ⟨e1, e2, _⟩ | ⟨hne, s, hs2, h2, ht⟩
      · exfalso
        have e3 : y1 = ty x1 y1 x3 l := by grobner
        simp only [OnC] at hp
        unfold Onc at hp
        unfold ty at e3
        rw [← e1] at e3
        have y0 : 2 * y1 = 2 * 0 := by grobner
        have y0 := canc two_ne y0
        subst y0
        unfold tx at e1
        have a0 : a = -3 * (x1 * x1) := by grobner
        apply hD
        have b0 : b = 2 * (x1 * x1 * x1) := by grobner
        rw [a0, b0]
        grobner
      · rw [h2]
        obtain ⟨k3, k4⟩ := hs2
        have hsl : s = -l := by
          by_cases hx : tx x1 x3 l = x1
          · obtain ⟨g1, g2, g3⟩ := ht hx
            unfold ty at *
            rw [hx] at g1 g2 g3
            refine canc g2 ?_
            have g4 : l * (x1 - x1) - y1 = -y1 := g1
            rw [g4] at g3 ⊢
            clear g1 g4 g2 ht h2 h k4 k3 hne h4 hn hp hq k1 hD
            unfold tx at hx
            grobner
          · refine canc (sub_ne hx) ?_
            unfold ty at k3
            clear ht h2 h k4 k2 hp hq hn hD h4 hne
            grobner
        subst hsl
        have e1 : tx (tx x1 x3 l) x1 (-l) = x3 := by unfold tx; grobner
        unfold ty
        rw [e1]
        congr 2
        clear ht h2 h k4 k2 hp hq hn hD h4 hne e1 k3
        grobner
theorem swap (hD : 4 * (a * a * a) + 27 * (b * b) ≠ 0) {p q r : Pt} (hp : OnC a b p) (hq : OnC a b q) (hr : OnC a b r) : padd a (padd a p q) r = padd a (padd a p r) q := by
  have cn : ∀ {p q : Pt}, OnC a b p → OnC a b q → padd a (padd a q p) (neg p) = q := fun {p q} hp hq => by rw [padd_comm (a := a) q p]; exact cancel hD hp hq
  have opp : ∀ {q r : Pt}, OnC a b q → OnC a b r → padd a p q = neg r → padd a p r = neg q := fun {q r} hq hr h => by
    have := cn hq hp
    rw [h] at this
    rw [← this]
    have := cancel hD (neg_on hr) (neg_on hq)
    rw [neg_neg'] at this
    exact this
  by_cases e1 : padd a p q = neg r
  · rw [e1, opp hq hr e1, padd_comm (a := a) (neg r), neg_cancel, padd_comm (a := a) (neg q), neg_cancel]
  by_cases e2 : padd a p r = neg q
  · exact absurd (opp hr hq e2) e1
  by_cases e3 : q = r
  · rw [e3]
  by_cases e4 : q = neg p
  · rw [e4, neg_cancel, zero_padd, cancel hD hp hr]
  by_cases e5 : r = neg p
  · rw [e5, neg_cancel, zero_padd, cancel hD hp hq]
  by_cases e6 : r = neg q
  · have := cn (neg_on hq) hp
    rw [neg_neg'] at this
    rw [e6, this, cn hq hp]
  match p, q, r with
  | none, q, r => rw [zero_padd, zero_padd, padd_comm]
  | some p, none, r => rw [padd_zero, padd_zero]
  | some p, some q, none => rw [padd_zero, padd_zero]
  | some (x1, y1), some (x2, y2), some (x3, y3) =>
    have h23 : x2 ≠ x3 := by
      intro e
      subst e
      rcases onc_eq hq hr with e | e
      · exact e3 (by rw [e])
      · exact e6 (by rw [e]; rfl)
    rcases join hp hq with ⟨g1, g2, _⟩ | ⟨_, l, hl, h12, _⟩
    · exact absurd (by rw [g1, g2]; rfl) e4
    rcases join hp hr with ⟨g1, g2, _⟩ | ⟨_, m, hm, h13, _⟩
    · exact absurd (by rw [g1, g2]; rfl) e5
    have h32 := sub_ne h23
    have hi := mul_finv h32
    obtain ⟨u, hu⟩ : ∃ u, u * (x3 - x2) = m - l := ⟨(m - l) * finv (x3 - x2), by
      generalize finv (x3 - x2) = i at *
      grobner⟩
    have hu' : u * (x2 - x3) = l - m := by grobner
    rw [h12] at e1 ⊢
    rw [h13] at e2 ⊢
    have o4 := hl.on hp
    have o5 := hm.on hp
    rcases join o4 hr with ⟨g1, g2, _⟩ | ⟨_, s, hs, hS, hs'⟩
    · refine absurd ?_ e1
      simp only [neg]
      rw [g1, g2]
      congr 2
      grobner
    rcases join o5 hq with ⟨g1, g2, _⟩ | ⟨_, t, ht, hT, ht'⟩
    · refine absurd ?_ e2
      simp only [neg]
      rw [g1, g2]
      congr 2
      grobner
    have a1 : u * (l + s) = 1 := by
      by_cases hx : tx x1 x2 l = x3
      · obtain ⟨j1, j2, j3⟩ := hs' hx
        rw [hx, j1] at j3
        rw [j1] at j2
        exact keyT hl hm hu hx.symm j1.symm j3 j2
      · exact key hl hm hu h32 hs.1 (sub_ne hx)
    have a2 : u * (m + t) = 1 := by
      by_cases hx : tx x1 x3 m = x2
      · obtain ⟨j1, j2, j3⟩ := ht' hx
        rw [hx, j1] at j3
        rw [j1] at j2
        exact keyT hm hl hu' hx.symm j1.symm j3 j2
      · exact key hm hl hu' (sub_ne (Ne.symm h23)) ht.1 (sub_ne hx)
    obtain ⟨b1, b2⟩ := both hl hm hu a1 a2
    rw [hS, hT, b1, b2]
end

/-! multiples -/
section
variable {a b : F} (hD : 4 * (a * a * a) + 27 * (b * b) ≠ 0)
include hD
theorem assoc {p q r : Pt} (hp : OnC a b p) (hq : OnC a b q) (hr : OnC a b r) : padd a (padd a p q) r = padd a p (padd a q r) := by
  rw [padd_comm (a := a) p q, swap hD hq hp hr, padd_comm]
omit hD
/-- so often by itself -/
def sm (a : F) : Nat → Pt → Pt
  | 0, _ => none
  | n + 1, p => padd a (sm a n p) p
theorem sm_on {p : Pt} (hp : OnC a b p) : ∀ n, OnC a b (sm a n p)
  | 0 => trivial
  | n + 1 => padd_on (sm_on hp n) hp
theorem sm_none : ∀ n, sm a n none = none
  | 0 => rfl
  | n + 1 => by rw [sm, sm_none n]; rfl
theorem sm_one (p : Pt) : sm a 1 p = p := by cases p <;> rfl
include hD
theorem sm_add {p : Pt} (hp : OnC a b p) (m : Nat) : ∀ n, sm a (m + n) p = padd a (sm a m p) (sm a n p)
  | 0 => (padd_zero _).symm
  | n + 1 => by
    rw [← Nat.add_assoc, sm, sm, sm_add hp m n, assoc hD (sm_on hp m) (sm_on hp n) hp]
theorem sm_two {p : Pt} (hp : OnC a b p) (n : Nat) : sm a (2 * n) p = padd a (sm a n p) (sm a n p) := by
  rw [Nat.two_mul, sm_add hD hp]
theorem sm_mul {p : Pt} (hp : OnC a b p) (n : Nat) : ∀ m, sm a (m * n) p = sm a m (sm a n p)
  | 0 => by rw [Nat.zero_mul]; rfl
  | m + 1 => by rw [Nat.succ_mul, sm_add hD hp, sm, sm_mul hp n m]
theorem padd4 {p q r s : Pt} (hp : OnC a b p) (hq : OnC a b q) (hr : OnC a b r) (hs : OnC a b s) : padd a (padd a p q) (padd a r s) = padd a (padd a p r) (padd a q s) := by
  rw [assoc hD hp hq (padd_on hr hs), ← assoc hD hq hr hs, padd_comm (a := a) q r, assoc hD hr hq hs, ← assoc hD hp hr (padd_on hq hs)]
theorem sm_dist {p q : Pt} (hp : OnC a b p) (hq : OnC a b q) : ∀ n, sm a n (padd a p q) = padd a (sm a n p) (sm a n q)
  | 0 => rfl
  | n + 1 => by
    rw [sm, sm_dist hp hq n, sm, sm, padd4 hD (sm_on hp n) (sm_on hq n) hp hq]
end
end Go.Proofs.Ytfaobdakpbpkbaa.Ec
