/-
  The segments of a file: the plain law that both readers follow.
-/
import Derived.Test.YtcjikjadajmefaaElfR
namespace Go.Proofs.Ytcjikjadajmefaa
open Go.RowKit Go.Pt

structure Sg where
  addr : Nat
  size : Nat
  rights : Nat
  bytes : List UInt8

def sgOf (f : List UInt8) (o : Nat) : Sg := ⟨num f (o + 8) 4, num f (o + 20) 4, rx (num f (o + 24) 4), (f.drop (num f (o + 4) 4)).take (num f (o + 16) 4)⟩
/-- a header that may not follow the segments l -/
def segBad (f : List UInt8) (o : Nat) (l : List Sg) : Prop :=
  num f (o + 20) 4 = 0 ∨ num f (o + 8) 4 % 4 ≠ 0 ∨ num f (o + 20) 4 % 4 ≠ 0 ∨ 4294967292 < num f (o + 8) 4 + num f (o + 20) 4 ∨ rx (num f (o + 24) 4) = 0 ∨ 6 ≤ rx (num f (o + 24) 4) ∨ l.length = 4 ∨
    ∃ s, l.getLast? = some s ∧ num f (o + 8) 4 < s.addr + s.size
def entIn (f : List UInt8) (e o : Nat) : Bool :=
  decide (4 ≤ rx (num f (o + 24) 4)) && decide (e % 4 = 0) && decide (num f (o + 8) 4 ≤ e) && decide (e + 4 ≤ num f (o + 8) 4 + num f (o + 20) 4)
open Classical in
noncomputable def segStep (f : List UInt8) (e o : Nat) (s : List Sg × Nat × Bool) : Option (List Sg × Nat × Bool) :=
  if num f o 4 = 2 then some (s.1, s.2.1 + 1, s.2.2) else if segBad f o s.1 then none else some (s.1 ++ [sgOf f o], s.2.1, s.2.2 || entIn f e o)
noncomputable def segAt (f : List UInt8) (A e : Nat) : Nat → Option (List Sg × Nat × Bool)
  | 0 => some ([], 0, false)
  | i + 1 => (segAt f A e i).bind (segStep f e (A + 32 * i))
theorem segAt_dyn {f : List UInt8} {A e i : Nat} {l : List Sg} {nd : Nat} {b : Bool} (h : segAt f A e i = some (l, nd, b)) (h2 : num f (A + 32 * i) 4 = 2) : segAt f A e (i + 1) = some (l, nd + 1, b) := by
  simp only [segAt, h, Option.bind_some, segStep, if_pos h2]
theorem segAt_bad {f : List UInt8} {A e i : Nat} {l : List Sg} {nd : Nat} {b : Bool} (h : segAt f A e i = some (l, nd, b)) (h2 : ¬ num f (A + 32 * i) 4 = 2) (hb : segBad f (A + 32 * i) l) : segAt f A e (i + 1) = none := by
  simp only [segAt, h, Option.bind_some, segStep, if_neg h2, if_pos hb]
theorem segAt_put {f : List UInt8} {A e i : Nat} {l : List Sg} {nd : Nat} {b : Bool} (h : segAt f A e i = some (l, nd, b)) (h2 : ¬ num f (A + 32 * i) 4 = 2) (hb : ¬ segBad f (A + 32 * i) l) :
    segAt f A e (i + 1) = some (l ++ [sgOf f (A + 32 * i)], nd, b || entIn f e (A + 32 * i)) := by
  simp only [segAt, h, Option.bind_some, segStep, if_neg h2, if_neg hb]
theorem segAt_none {f : List UInt8} {A e i j : Nat} (h : segAt f A e i = none) (hij : i ≤ j) : segAt f A e j = none := by
  induction hij with
  | refl => exact h
  | step _ ih => simp only [segAt, ih, Option.bind_none]
theorem segAt_len {f : List UInt8} {A e i : Nat} {l : List Sg} {nd : Nat} {b : Bool} (h : segAt f A e i = some (l, nd, b)) : l.length ≤ 4 ∧ nd ≤ i := by
  induction i generalizing l nd b with
  | zero => simp only [segAt, Option.some.injEq, Prod.mk.injEq] at h; obtain ⟨rfl, rfl, rfl⟩ := h; simp
  | succ i ih =>
    cases hs : segAt f A e i with
    | none => simp only [segAt, hs, Option.bind_none] at h; cases h
    | some s =>
      obtain ⟨l', nd', b'⟩ := s
      have hl := ih hs
      by_cases h2 : num f (A + 32 * i) 4 = 2
      · rw [segAt_dyn hs h2] at h; cases h; exact ⟨hl.1, by omega⟩
      · by_cases hb : segBad f (A + 32 * i) l'
        · rw [segAt_bad hs h2 hb] at h; cases h
        · rw [segAt_put hs h2 hb] at h
          cases h
          have : ¬ l'.length = 4 := fun e => hb (.inr (.inr (.inr (.inr (.inr (.inr (.inl e)))))))
          refine ⟨?_, by omega⟩
          rw [List.length_append, List.length_singleton]; omega
/-- what each segment satisfies, and where it came from -/
theorem segAt_ok {f : List UInt8} {A e i : Nat} {l : List Sg} {nd : Nat} {b : Bool} (h : segAt f A e i = some (l, nd, b)) :
    ∀ s ∈ l, 0 < s.size ∧ s.addr % 4 = 0 ∧ s.size % 4 = 0 ∧ s.addr + s.size ≤ 4294967292 ∧ 0 < s.rights ∧ s.rights < 6 ∧ ∃ j, j < i ∧ s = sgOf f (A + 32 * j) := by
  induction i generalizing l nd b with
  | zero => simp only [segAt, Option.some.injEq, Prod.mk.injEq] at h; obtain ⟨rfl, rfl, rfl⟩ := h; simp
  | succ i ih =>
    cases hs : segAt f A e i with
    | none => simp only [segAt, hs, Option.bind_none] at h; cases h
    | some s =>
      obtain ⟨l', nd', b'⟩ := s
      have hl := ih hs
      have hl' : ∀ s ∈ l', 0 < s.size ∧ s.addr % 4 = 0 ∧ s.size % 4 = 0 ∧ s.addr + s.size ≤ 4294967292 ∧ 0 < s.rights ∧ s.rights < 6 ∧ ∃ j, j < i + 1 ∧ s = sgOf f (A + 32 * j) := fun s hs' => by
        obtain ⟨a1, a2, a3, a4, a5, a6, j, a7, a8⟩ := hl s hs'
        exact ⟨a1, a2, a3, a4, a5, a6, j, by omega, a8⟩
      by_cases h2 : num f (A + 32 * i) 4 = 2
      · rw [segAt_dyn hs h2] at h; cases h; exact hl'
      · by_cases hb : segBad f (A + 32 * i) l'
        · rw [segAt_bad hs h2 hb] at h; cases h
        · rw [segAt_put hs h2 hb] at h
          cases h
          intro s hs'
          rcases List.mem_append.1 hs' with hs' | hs'
          · exact hl' s hs'
          · rw [List.mem_singleton] at hs'
            subst hs'
            have b1 : ¬ num f (A + 32 * i + 20) 4 = 0 := fun e => hb (.inl e)
            have b2 : ¬ num f (A + 32 * i + 8) 4 % 4 ≠ 0 := fun e => hb (.inr (.inl e))
            have b3 : ¬ num f (A + 32 * i + 20) 4 % 4 ≠ 0 := fun e => hb (.inr (.inr (.inl e)))
            have b4 : ¬ 4294967292 < num f (A + 32 * i + 8) 4 + num f (A + 32 * i + 20) 4 := fun e => hb (.inr (.inr (.inr (.inl e))))
            have b5 : ¬ rx (num f (A + 32 * i + 24) 4) = 0 := fun e => hb (.inr (.inr (.inr (.inr (.inl e)))))
            have b6 : ¬ 6 ≤ rx (num f (A + 32 * i + 24) 4) := fun e => hb (.inr (.inr (.inr (.inr (.inr (.inl e))))))
            simp only [sgOf]
            exact ⟨by omega, by omega, by omega, by omega, by omega, by omega, i, by omega, rfl⟩
/-- the segments that a file holds, if it may be loaded -/
def SegsOf (f : List UInt8) (l : List Sg) (nd : Nat) : Prop := segAt f (num f 28 4) (num f 24 4) (num f 44 2) = some (l, nd, true) ∧ nd ≤ 1
theorem SegsOf.one {f : List UInt8} {l l' : List Sg} {nd nd' : Nat} (h : SegsOf f l nd) (h' : SegsOf f l' nd') : l = l' ∧ nd = nd' := by
  have := h.1.symm.trans h'.1
  simp only [Option.some.injEq, Prod.mk.injEq] at this
  exact ⟨this.1, this.2.1⟩
/-- the cells of the headers of the dynamic kind -/
def dynC (g : Nat → List Value) (f : List UInt8) (A : Nat) : Nat → List Value
  | 0 => []
  | i + 1 => dynC g f A i ++ if num f (A + 32 * i) 4 = 2 then g (A + 32 * i) else []
theorem dynC_yes {g : Nat → List Value} {f : List UInt8} {A i : Nat} (h : num f (A + 32 * i) 4 = 2) : dynC g f A (i + 1) = dynC g f A i ++ g (A + 32 * i) := by simp [dynC, h]
theorem dynC_no {g : Nat → List Value} {f : List UInt8} {A i : Nat} (h : ¬ num f (A + 32 * i) 4 = 2) : dynC g f A (i + 1) = dynC g f A i := by simp [dynC, h]
/-- where there is none, or one -/
theorem dynC_zero {f : List UInt8} {A E i : Nat} {l : List Sg} {b : Bool} (h : segAt f A E i = some (l, 0, b)) (g : Nat → List Value) : dynC g f A i = [] := by
  induction i generalizing l b with
  | zero => rfl
  | succ i ih =>
    cases hs : segAt f A E i with
    | none => simp only [segAt, hs, Option.bind_none] at h; cases h
    | some s =>
      obtain ⟨l', nd', b'⟩ := s
      by_cases h2 : num f (A + 32 * i) 4 = 2
      · rw [segAt_dyn hs h2] at h; cases h
      · rw [dynC_no h2]
        by_cases hb : segBad f (A + 32 * i) l'
        · rw [segAt_bad hs h2 hb] at h; cases h
        · rw [segAt_put hs h2 hb] at h
          cases h
          exact ih hs
theorem dynC_one {f : List UInt8} {A E i : Nat} {l : List Sg} {b : Bool} (h : segAt f A E i = some (l, 1, b)) : ∃ j, j < i ∧ num f (A + 32 * j) 4 = 2 ∧ ∀ g : Nat → List Value, dynC g f A i = g (A + 32 * j) := by
  induction i generalizing l b with
  | zero => simp only [segAt, Option.some.injEq, Prod.mk.injEq] at h; omega
  | succ i ih =>
    cases hs : segAt f A E i with
    | none => simp only [segAt, hs, Option.bind_none] at h; cases h
    | some s =>
      obtain ⟨l', nd', b'⟩ := s
      by_cases h2 : num f (A + 32 * i) 4 = 2
      · rw [segAt_dyn hs h2] at h
        simp only [Option.some.injEq, Prod.mk.injEq] at h
        obtain ⟨rfl, h0, rfl⟩ := h
        have : nd' = 0 := by omega
        subst this
        exact ⟨i, Nat.lt_succ_self i, h2, fun g => by rw [dynC_yes h2, dynC_zero hs]; rfl⟩
      · by_cases hb : segBad f (A + 32 * i) l'
        · rw [segAt_bad hs h2 hb] at h; cases h
        · rw [segAt_put hs h2 hb] at h
          cases h
          obtain ⟨j, a1, a2, a3⟩ := ih hs
          exact ⟨j, by omega, a2, fun g => by rw [dynC_no h2]; exact a3 g⟩
def sgP (x : Sg × Value) : List Value := [.int .u32 x.1.addr, x.2, .int .u32 x.1.size, .int .i64 x.1.rights]
def sgR (x : Sg × Value) : List Value := [.int .i64 x.1.addr, .int .i64 x.1.size, .int .i64 x.1.rights, x.2]
end Go.Proofs.Ytcjikjadajmefaa
