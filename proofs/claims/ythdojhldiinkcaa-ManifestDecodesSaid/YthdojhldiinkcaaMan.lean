/-
  Manifests: the plain law. What is encoded, what is decoded, which may be; decoding undoes encoding, and the other way round.
-/
import Derived.Test.YthdojhldiinkcaaPos
namespace Go.Proofs.Ythdojhldiinkcaa
open Go.RowKit Go.Pt

structure Gr where
  start : Nat
  size : Nat
  rights : Int
structure Py where
  dig : List UInt8
  size : Nat
  bias : Nat
  grants : List Gr
  calls : Int
structure Mf where
  counter : Nat
  key : Int
  pays : List Py
def manMark : List UInt8 := [80, 79, 82, 84, 73, 67, 79, 49]
def encG (g : Gr) : List UInt8 := leB 4 g.start ++ (leB 4 g.size ++ leB 4 g.rights.toNat)
def encP (p : Py) : List UInt8 := p.dig ++ (leB 4 p.size ++ (leB 4 p.bias ++ (leB 1 p.calls.toNat ++ (leB 1 p.grants.length ++ (leB 2 0 ++ p.grants.flatMap encG)))))
def encM (m : Mf) : List UInt8 := manMark ++ (leB 4 m.counter ++ (leB 1 m.key.toNat ++ (leB 1 m.pays.length ++ (leB 2 0 ++ m.pays.flatMap encP))))
def gAt (b : List UInt8) (k : Nat) : Gr := ⟨num b k 4, num b (k + 4) 4, num b (k + 8) 4⟩
def decG (b : List UInt8) : Nat → Nat → Option (List Gr)
  | 0, _ => some []
  | n + 1, k => if num b (k + 8) 4 ≤ 7 then (decG b n (k + 12)).map (gAt b k :: ·) else none
def digAt (b : List UInt8) (k : Nat) : List UInt8 := if k + 32 ≤ b.length then part b k 32 else List.replicate 32 0
def decP (b : List UInt8) : Nat → Nat → Option (List Py × Nat)
  | 0, k => some ([], k)
  | n + 1, k =>
    if num b (k + 42) 2 = 0 ∧ num b (k + 41) 1 ≤ 4 then
      match decG b (num b (k + 41) 1) (k + 44) with
      | none => none
      | some gs => (decP b n (k + 44 + 12 * num b (k + 41) 1)).map fun r => (⟨digAt b k, num b (k + 32) 4, num b (k + 36) 4, gs, num b (k + 40) 1⟩ :: r.1, r.2)
    else none
def decM (b : List UInt8) : Option Mf :=
  if part b 0 8 = manMark ∧ num b 14 2 = 0 ∧ num b 13 1 ≤ 4 then
    match decP b (num b 13 1) 16 with
    | none => none
    | some r => if r.2 = b.length then some ⟨num b 8 4, num b 12 1, r.1⟩ else none
  else none

/-! ### reading what was written -/
theorem part_at (a x c : List UInt8) : part (a ++ (x ++ c)) a.length x.length = x := by
  unfold part
  rw [if_pos (by simp only [List.length_append]; omega), List.drop_left, List.take_left]
theorem num_at (a c : List UInt8) (n y : Nat) : num (a ++ (leB n y ++ c)) a.length n = y % 256 ^ n := by
  have := part_at a (leB n y) c
  rw [leB_length] at this
  unfold num
  rw [this, leN_leB]
/-- the same behind k more bytes -/
theorem num_in (a x c : List UInt8) (n y k : Nat) (hk : k = a.length + x.length) : num (a ++ (x ++ (leB n y ++ c))) k n = y % 256 ^ n := by
  have := num_at (a ++ x) c n y
  rw [List.append_assoc, List.length_append, ← hk] at this
  exact this
def GrOk (g : Gr) : Prop := g.start < 4294967296 ∧ g.size < 4294967296 ∧ 0 ≤ g.rights ∧ g.rights ≤ 7
def PyFit (p : Py) : Prop := p.dig.length = 32 ∧ p.size < 4294967296 ∧ p.bias < 4294967296 ∧ 0 ≤ p.calls ∧ p.calls ≤ 255 ∧ p.grants.length ≤ 4 ∧ ∀ g ∈ p.grants, GrOk g
def MfOk (m : Mf) : Prop := m.counter < 4294967296 ∧ 0 ≤ m.key ∧ m.key ≤ 255 ∧ m.pays.length ≤ 4 ∧ ∀ p ∈ m.pays, PyFit p
theorem encG_length (g : Gr) : (encG g).length = 12 := by simp [encG, leB_length]
theorem encGs_length (gs : List Gr) : (gs.flatMap encG).length = 12 * gs.length := by
  induction gs with
  | nil => rfl
  | cons g r ih => rw [List.flatMap_cons, List.length_append, encG_length, ih, List.length_cons]; omega
theorem decG_enc (gs : List Gr) (hg : ∀ g ∈ gs, GrOk g) (a c : List UInt8) : decG (a ++ (gs.flatMap encG ++ c)) gs.length a.length = some gs := by
  induction gs generalizing a with
  | nil => rfl
  | cons g r ih =>
    obtain ⟨h1, h2, h3, h4⟩ := hg g (by simp)
    have e : a ++ ((g :: r).flatMap encG ++ c) = a ++ (leB 4 g.start ++ (leB 4 g.size ++ (leB 4 g.rights.toNat ++ (r.flatMap encG ++ c)))) := by simp [encG]
    have n0 : num (a ++ ((g :: r).flatMap encG ++ c)) a.length 4 = g.start := by rw [e, num_at]; exact Nat.mod_eq_of_lt h1
    have n4 : num (a ++ ((g :: r).flatMap encG ++ c)) (a.length + 4) 4 = g.size := by
      rw [e, num_in _ _ _ _ _ _ (by rw [leB_length])]; exact Nat.mod_eq_of_lt h2
    have n8 : num (a ++ ((g :: r).flatMap encG ++ c)) (a.length + 8) 4 = g.rights.toNat := by
      rw [e, ← List.append_assoc (leB 4 g.start), num_in _ _ _ _ _ _ (by rw [List.length_append, leB_length, leB_length])]
      exact Nat.mod_eq_of_lt (by omega)
    have e2 : a ++ ((g :: r).flatMap encG ++ c) = (a ++ encG g) ++ (r.flatMap encG ++ c) := by simp
    have ih' := ih (fun g hg' => hg g (by simp [hg'])) (a ++ encG g)
    rw [List.length_append, encG_length] at ih'
    simp only [List.length_cons, decG, n8, gAt, n0, n4]
    rw [if_pos (by omega), e2, ih']
    simp only [Option.map_some, Option.some.injEq, List.cons.injEq, and_true]
    cases g
    simp only [Gr.mk.injEq, true_and]
    simp only at h3
    omega
theorem encP_length (p : Py) (h : p.dig.length = 32) : (encP p).length = 44 + 12 * p.grants.length := by
  simp only [encP, List.length_append, leB_length, h, encGs_length]; omega
theorem decP_enc (ps : List Py) (hp : ∀ p ∈ ps, PyFit p) (a c : List UInt8) : decP (a ++ (ps.flatMap encP ++ c)) ps.length a.length = some (ps, (a ++ ps.flatMap encP).length) := by
  induction ps generalizing a with
  | nil => simp [decP]
  | cons p r ih =>
    obtain ⟨h1, h2, h3, h4, h5, h6, h7⟩ := hp p (by simp)
    generalize hb : a ++ ((p :: r).flatMap encP ++ c) = b
    have e : b = a ++ (p.dig ++ (leB 4 p.size ++ (leB 4 p.bias ++ (leB 1 p.calls.toNat ++ (leB 1 p.grants.length ++ (leB 2 0 ++ (p.grants.flatMap encG ++ (r.flatMap encP ++ c)))))))) := by subst hb; simp [encP]
    have d0 : digAt b a.length = p.dig := by
      have := part_at a p.dig (leB 4 p.size ++ (leB 4 p.bias ++ (leB 1 p.calls.toNat ++ (leB 1 p.grants.length ++ (leB 2 0 ++ (p.grants.flatMap encG ++ (r.flatMap encP ++ c)))))))
      rw [← e, h1] at this
      unfold digAt
      rw [if_pos (by rw [e]; simp only [List.length_append, h1]; omega), this]
    have n32 : num b (a.length + 32) 4 = p.size := by rw [e, num_in _ _ _ _ _ _ (by rw [h1])]; exact Nat.mod_eq_of_lt h2
    have n36 : num b (a.length + 36) 4 = p.bias := by
      rw [e, ← List.append_assoc p.dig, num_in _ _ _ _ _ _ (by rw [List.length_append, h1, leB_length])]; exact Nat.mod_eq_of_lt h3
    have n40 : num b (a.length + 40) 1 = p.calls.toNat := by
      rw [e, ← List.append_assoc p.dig, ← List.append_assoc (p.dig ++ _), num_in _ _ _ _ _ _ (by simp only [List.length_append, h1, leB_length])]; exact Nat.mod_eq_of_lt (by omega)
    have n41 : num b (a.length + 41) 1 = p.grants.length := by
      rw [e, ← List.append_assoc p.dig, ← List.append_assoc (p.dig ++ _), ← List.append_assoc (p.dig ++ _ ++ _), num_in _ _ _ _ _ _ (by simp only [List.length_append, h1, leB_length])]; exact Nat.mod_eq_of_lt (by omega)
    have n42 : num b (a.length + 42) 2 = 0 := by
      rw [e, ← List.append_assoc p.dig, ← List.append_assoc (p.dig ++ _), ← List.append_assoc (p.dig ++ _ ++ _), ← List.append_assoc (p.dig ++ _ ++ _ ++ _), num_in _ _ _ _ _ _ (by simp only [List.length_append, h1, leB_length])]
    have eg : b = (a ++ (p.dig ++ (leB 4 p.size ++ (leB 4 p.bias ++ (leB 1 p.calls.toNat ++ (leB 1 p.grants.length ++ leB 2 0)))))) ++ (p.grants.flatMap encG ++ (r.flatMap encP ++ c)) := by rw [e]; simp
    have hg := decG_enc p.grants h7 (a ++ (p.dig ++ (leB 4 p.size ++ (leB 4 p.bias ++ (leB 1 p.calls.toNat ++ (leB 1 p.grants.length ++ leB 2 0)))))) (r.flatMap encP ++ c)
    rw [← eg] at hg
    have hgl : (a ++ (p.dig ++ (leB 4 p.size ++ (leB 4 p.bias ++ (leB 1 p.calls.toNat ++ (leB 1 p.grants.length ++ leB 2 0)))))).length = a.length + 44 := by simp only [List.length_append, h1, leB_length]
    rw [hgl] at hg
    have ih' := ih (fun q hq => hp q (by simp [hq])) (a ++ encP p)
    rw [List.length_append, encP_length p h1] at ih'
    have e2 : b = (a ++ encP p) ++ (r.flatMap encP ++ c) := by subst hb; simp
    rw [← e2] at ih'
    simp only [List.length_cons, decP, n41, n42, n40, n36, n32, d0]
    rw [if_pos ⟨trivial, h6⟩, hg]
    simp only
    rw [show a.length + 44 + 12 * p.grants.length = a.length + (44 + 12 * p.grants.length) by omega, ih']
    simp only [Option.map_some, Option.some.injEq, Prod.mk.injEq, List.cons.injEq, and_true]
    refine ⟨?_, by simp⟩
    cases p
    simp only [Py.mk.injEq, true_and]
    simp only at h4
    omega
theorem decM_enc (m : Mf) (h : MfOk m) : decM (encM m) = some m := by
  obtain ⟨h1, h2, h3, h4, h5⟩ := h
  have hp := decP_enc m.pays h5 (manMark ++ (leB 4 m.counter ++ (leB 1 m.key.toNat ++ (leB 1 m.pays.length ++ leB 2 0)))) []
  rw [List.append_nil] at hp
  have e : (manMark ++ (leB 4 m.counter ++ (leB 1 m.key.toNat ++ (leB 1 m.pays.length ++ leB 2 0)))) ++ m.pays.flatMap encP = encM m := by simp [encM]
  rw [e] at hp
  have hl : (manMark ++ (leB 4 m.counter ++ (leB 1 m.key.toNat ++ (leB 1 m.pays.length ++ leB 2 0)))).length = 16 := by simp only [List.length_append, leB_length]; rfl
  rw [hl] at hp
  have p0 : part (encM m) 0 8 = manMark := by have := part_at [] manMark (leB 4 m.counter ++ (leB 1 m.key.toNat ++ (leB 1 m.pays.length ++ (leB 2 0 ++ m.pays.flatMap encP)))); exact this
  have n8 : num (encM m) 8 4 = m.counter := by
    unfold encM; rw [show (8 : Nat) = manMark.length from rfl, num_at]; exact Nat.mod_eq_of_lt h1
  have n12 : num (encM m) 12 1 = m.key.toNat := by
    unfold encM; rw [num_in _ _ _ _ _ _ (by rw [leB_length]; rfl)]; exact Nat.mod_eq_of_lt (by omega)
  have n13 : num (encM m) 13 1 = m.pays.length := by
    unfold encM; rw [← List.append_assoc (leB 4 m.counter), num_in _ _ _ _ _ _ (by simp only [List.length_append, leB_length]; rfl)]; exact Nat.mod_eq_of_lt (by omega)
  have n14 : num (encM m) 14 2 = 0 := by
    unfold encM; rw [← List.append_assoc (leB 4 m.counter), ← List.append_assoc (leB 4 m.counter ++ _), num_in _ _ _ _ _ _ (by simp only [List.length_append, leB_length]; rfl)]
  unfold decM
  rw [if_pos ⟨p0, n14, by omega⟩, n13, hp, n8, n12]
  simp only [if_true]
  cases m
  simp only [Option.some.injEq, Mf.mk.injEq, true_and, and_true]
  simp only at h2
  omega

/-! ### writing what was read -/
theorem leB_leN (l : List UInt8) : leB l.length (leN l) = l := by
  induction l with
  | nil => rfl
  | cons x r ih =>
    simp only [List.length_cons, leB, leN]
    have h1 : (x.toNat + 256 * leN r) % 256 = x.toNat := by have := x.toNat_lt; omega
    have h2 : (x.toNat + 256 * leN r) / 256 = leN r := by have := x.toNat_lt; omega
    rw [h1, h2, ih]
    simp
theorem leB_num (b : List UInt8) (k n : Nat) (h : k + n ≤ b.length) : leB n (num b k n) = part b k n := by
  have := leB_leN (part b k n)
  unfold num
  have hl : (part b k n).length = n := by unfold part; rw [if_pos h]; simp; omega
  rw [hl] at this
  exact this
theorem drop_part (b : List UInt8) (k n : Nat) (h : k + n ≤ b.length) : b.drop k = part b k n ++ b.drop (k + n) := by
  unfold part
  rw [if_pos h, ← List.drop_drop, List.take_append_drop]
theorem decG_dec (b : List UInt8) (n k : Nat) (gs : List Gr) (h : decG b n k = some gs) (hl : k + 12 * n ≤ b.length) : gs.length = n ∧ (∀ g ∈ gs, GrOk g) ∧ b.drop k = gs.flatMap encG ++ b.drop (k + 12 * n) := by
  induction n generalizing k gs with
  | zero => simp only [decG, Option.some.injEq] at h; subst h; simp
  | succ n ih =>
    simp only [decG] at h
    split at h
    · rename_i h7
      obtain ⟨r, hr, rfl⟩ := Option.map_eq_some_iff.1 h
      obtain ⟨i1, i2, i3⟩ := ih (k + 12) r hr (by omega)
      have lt4 : ∀ j, num b j 4 < 4294967296 := fun j => by
        have h1 : ∀ l : List UInt8, leN l < 256 ^ l.length := fun l => by
          induction l with
          | nil => simp [leN]
          | cons x r ih => simp only [leN, List.length_cons, Nat.pow_succ]; have := x.toNat_lt; omega
        have h2 := h1 (part b j 4)
        have h3 : (256 : Nat) ^ (part b j 4).length ≤ 256 ^ 4 := Nat.pow_le_pow_right (by omega) (part_len b j 4)
        unfold num
        omega
      refine ⟨by simp [i1], fun g hg => ?_, ?_⟩
      · rcases List.mem_cons.1 hg with rfl | hg
        · exact ⟨lt4 _, lt4 _, by simp [gAt], by simp only [gAt]; omega⟩
        · exact i2 g hg
      · rw [drop_part b k 4 (by omega), drop_part b (k + 4) 4 (by omega), drop_part b (k + 8) 4 (by omega), show k + 8 + 4 = k + 12 by omega, i3, ← leB_num b k 4 (by omega), ← leB_num b (k + 4) 4 (by omega), ← leB_num b (k + 8) 4 (by omega)]
        simp only [List.flatMap_cons, encG, gAt, Int.toNat_natCast, List.append_assoc]
        rw [show k + 12 + 12 * n = k + 12 * (n + 1) by omega]
    · cases h
theorem decP_dec (b : List UInt8) (n k : Nat) (r : List Py × Nat) (h : decP b n k = some r) (hl : r.2 ≤ b.length) : k ≤ r.2 ∧ r.1.length = n ∧ (∀ p ∈ r.1, PyFit p) ∧ b.drop k = r.1.flatMap encP ++ b.drop r.2 := by
  induction n generalizing k r with
  | zero => simp only [decP, Option.some.injEq] at h; subst h; simp
  | succ n ih =>
    simp only [decP] at h
    split at h
    · rename_i h7
      generalize hng : num b (k + 41) 1 = ng at *
      split at h
      · cases h
      · rename_i gs hgs
        obtain ⟨r', hr, rfl⟩ := Option.map_eq_some_iff.1 h
        simp only at hl
        obtain ⟨i1, i2, i3, i4⟩ := ih _ r' hr hl
        obtain ⟨g1, g2, g3⟩ := decG_dec b ng (k + 44) gs hgs (by omega)
        have ltn : ∀ j n, num b j n < 256 ^ n := fun j n => by
          have h1 : ∀ l : List UInt8, leN l < 256 ^ l.length := fun l => by
            induction l with
            | nil => simp [leN]
            | cons x r ih => simp only [leN, List.length_cons, Nat.pow_succ]; have := x.toNat_lt; omega
          have h2 := h1 (part b j n)
          have h3 : (256 : Nat) ^ (part b j n).length ≤ 256 ^ n := Nat.pow_le_pow_right (by omega) (part_len b j n)
          unfold num
          omega
        have l1 := ltn (k + 32) 4
        have l2 := ltn (k + 36) 4
        have l3 := ltn (k + 40) 1
        have hdl : (digAt b k).length = 32 := by unfold digAt part; rw [if_pos (by omega), if_pos (by omega)]; simp; omega
        have hd : digAt b k = part b k 32 := by unfold digAt; rw [if_pos (by omega)]
        refine ⟨by simp only; omega, by simp [i2], fun p hp => ?_, ?_⟩
        · rcases List.mem_cons.1 hp with rfl | hp
          · exact ⟨hdl, by simpa using l1, by simpa using l2, by simp, by simp only; omega, by simp only [g1]; exact h7.2, g2⟩
          · exact i3 p hp
        · simp only
          rw [drop_part b k 32 (by omega), drop_part b (k + 32) 4 (by omega), drop_part b (k + 36) 4 (by omega), drop_part b (k + 40) 1 (by omega), drop_part b (k + 41) 1 (by omega), drop_part b (k + 42) 2 (by omega), show k + 42 + 2 = k + 44 by omega, g3, i4,
            ← leB_num b (k + 32) 4 (by omega), ← leB_num b (k + 36) 4 (by omega), ← leB_num b (k + 40) 1 (by omega), ← leB_num b (k + 41) 1 (by omega), ← leB_num b (k + 42) 2 (by omega), hng, h7.1, ← hd, ← g1]
          simp [encP]
    · cases h
theorem decM_dec (b : List UInt8) (m : Mf) (h : decM b = some m) : encM m = b ∧ MfOk m := by
  unfold decM at h
  split at h
  · rename_i h0
    generalize hn : num b 13 1 = n at *
    split at h
    · cases h
    · rename_i r hr
      split at h
      · rename_i he
        simp only [Option.some.injEq] at h
        subst h
        obtain ⟨i1, i2, i3, i4⟩ := decP_dec b n 16 r hr (by omega)
        have ltn : ∀ j n, num b j n < 256 ^ n := fun j n => by
          have h1 : ∀ l : List UInt8, leN l < 256 ^ l.length := fun l => by
            induction l with
            | nil => simp [leN]
            | cons x r ih => simp only [leN, List.length_cons, Nat.pow_succ]; have := x.toNat_lt; omega
          have h2 := h1 (part b j n)
          have h3 : (256 : Nat) ^ (part b j n).length ≤ 256 ^ n := Nat.pow_le_pow_right (by omega) (part_len b j n)
          unfold num
          omega
        have l1 := ltn 8 4
        have l2 := ltn 12 1
        refine ⟨?_, by simpa using l1, by simp, by simp only; omega, by simp only [i2]; exact h0.2.2, i3⟩
        have hb := drop_part b 0 8 (by omega)
        rw [List.drop_zero, drop_part b (0 + 8) 4 (by omega), drop_part b (0 + 8 + 4) 1 (by omega), drop_part b (0 + 8 + 4 + 1) 1 (by omega), drop_part b (0 + 8 + 4 + 1 + 1) 2 (by omega), show 0 + 8 + 4 + 1 + 1 + 2 = 16 by omega, i4, h0.1,
          ← leB_num b (0 + 8) 4 (by omega), ← leB_num b (0 + 8 + 4) 1 (by omega), ← leB_num b (0 + 8 + 4 + 1) 1 (by omega), ← leB_num b (0 + 8 + 4 + 1 + 1) 2 (by omega)] at hb
        simp only [Nat.zero_add, Nat.reduceAdd] at hb
        rw [hn, h0.2.1, he] at hb
        rw [List.drop_length, List.append_nil] at hb
        unfold encM
        simp only [Int.toNat_natCast, i2]
        exact hb.symm
      · cases h
  · cases h

/-! ### which may be -/
def fineB (g : Gr) : Bool := decide (2147487744 ≤ g.start ∧ g.start + g.size ≤ 2147549184 ∧ g.size ≠ 0 ∧ g.start % 4 = 0 ∧ g.size % 4 = 0 ∧ 1 ≤ g.rights ∧ g.rights ≤ 5)
def apG (g o : Gr) : Bool := apB g.start g.size o.start o.size
def notUp (prev : Option Gr) (g : Gr) : Bool := match prev with
  | some q => decide (g.start ≤ q.start)
  | none => false
def grantsR : List Gr → Option Gr → List Gr → Nat × List Gr
  | all, _, [] => (0, all)
  | all, prev, g :: r => if !fineB g || notUp prev g then (10, all) else if all.all (apG g) then grantsR (all ++ [g]) (some g) r else (11, all)
def payB (p : Py) : Bool := decide (1 ≤ p.grants.length ∧ p.grants.length ≤ 4 ∧ 0 ≤ p.calls ∧ p.calls ≤ 255 ∧ p.size ≤ 32768 ∧ p.bias % 4 = 0)
def paysR : List Gr → List Py → Nat
  | _, [] => 0
  | all, p :: r => if payB p then (if (grantsR all none p.grants).1 = 0 then paysR (grantsR all none p.grants).2 r else (grantsR all none p.grants).1) else 3
def rightOf (m : Mf) : Nat := if 0 ≤ m.key ∧ m.key ≤ 255 ∧ 1 ≤ m.pays.length ∧ m.pays.length ≤ 4 then paysR [] m.pays else 3
theorem grantsR_ok {all : List Gr} {prev : Option Gr} {gs : List Gr} (h : (grantsR all prev gs).1 = 0) : ∀ g ∈ gs, fineB g = true := by
  induction gs generalizing all prev with
  | nil => intro g hg; cases hg
  | cons g r ih =>
    simp only [grantsR] at h
    split at h
    · cases h
    · rename_i h1
      split at h
      · intro q hq
        rcases List.mem_cons.1 hq with rfl | hq
        · simp only [Bool.not_eq_true, Bool.or_eq_false_iff, Bool.not_eq_false'] at h1
          exact h1.1
        · exact ih h q hq
      · cases h
theorem paysR_ok {all : List Gr} {ps : List Py} (h : paysR all ps = 0) : ∀ p ∈ ps, payB p = true ∧ ∀ g ∈ p.grants, fineB g = true := by
  induction ps generalizing all with
  | nil => intro p hp; cases hp
  | cons p r ih =>
    simp only [paysR] at h
    split at h
    · rename_i h1
      split at h
      · rename_i h2
        intro q hq
        rcases List.mem_cons.1 hq with rfl | hq
        · exact ⟨h1, grantsR_ok h2⟩
        · exact ih h q hq
      · rename_i h2; exact (h2 h).elim
    · cases h
theorem rightOf_fit {m : Mf} (h : rightOf m = 0) (hc : m.counter < 4294967296) (hp : ∀ p ∈ m.pays, p.dig.length = 32 ∧ p.bias < 4294967296) : MfOk m := by
  unfold rightOf at h
  split at h
  · rename_i h1
    refine ⟨hc, h1.1, h1.2.1, h1.2.2.2, fun p hpm => ?_⟩
    obtain ⟨h2, h3⟩ := paysR_ok h p hpm
    unfold payB at h2
    simp only [decide_eq_true_eq] at h2
    refine ⟨(hp p hpm).1, by omega, (hp p hpm).2, h2.2.2.1, h2.2.2.2.1, h2.2.1, fun g hg => ?_⟩
    have := h3 g hg
    unfold fineB at this
    simp only [decide_eq_true_eq] at this
    exact ⟨by omega, by omega, by omega, by omega⟩
  · cases h
end Go.Proofs.Ythdojhldiinkcaa
