/-
  A region in any order: which operations are ready; operations that come one behind the other.
-/
import Derived.Test.YtfaobdakpbpkbaaRul
namespace Go.Pt
open Go.RowKit

/-- the operation o waits for the j-th -/
def waits (o : Oper) (j : Nat) : Bool := o.after.toList.any fun e => Nat.beq e.on j && Region.binds .any e
/-- each of the first m is awaited by a later one up to the m-th; from the m-th on each awaits the one before; none awaits a later one -/
def chainB (l : List Oper) (m : Nat) : Bool :=
  Nat.blt m l.length &&
  ((List.range m).all fun i => (List.range (m + 1)).any fun j => Nat.blt i j && (match l[j]? with | some o => waits o i | none => false)) &&
  ((List.range l.length).all fun i => Nat.ble i m || (match l[i]? with | some o => waits o (i - 1) | none => false)) &&
  ((List.range l.length).all fun i => match l[i]? with | some o => o.after.toList.all (fun e => Nat.blt e.on i) | none => true)
theorem waits_out {o : Oper} {j : Nat} (h : waits o j = true) : ∃ e ∈ o.after.toList, e.on = j ∧ Region.binds .any e = true := by
  obtain ⟨e, h1, h2⟩ := List.any_eq_true.1 h
  rw [Bool.and_eq_true] at h2
  exact ⟨e, h1, Nat.eq_of_beq_eq_true h2.1, h2.2⟩
structure Chain (l : List Oper) (m : Nat) : Prop where
  lt : m < l.length
  pre : ∀ i, i < m → ∃ (j : Nat) (o : Oper), i < j ∧ j ≤ m ∧ l[j]? = some o ∧ ∃ e ∈ o.after.toList, e.on = i ∧ Region.binds .any e = true
  next : ∀ (i : Nat) (o : Oper), m < i → l[i]? = some o → ∃ e ∈ o.after.toList, e.on = i - 1 ∧ Region.binds .any e = true
  back : ∀ (i : Nat) (o : Oper), l[i]? = some o → ∀ e ∈ o.after.toList, e.on < i
theorem chainB_out {l : List Oper} {m : Nat} (h : chainB l m = true) : Chain l m := by
  unfold chainB at h
  simp only [Bool.and_eq_true] at h
  obtain ⟨⟨⟨h0, h1⟩, h2⟩, h3⟩ := h
  refine ⟨Nat.le_of_ble_eq_true h0, fun i hi => ?_, fun i o hi ho => ?_, fun i o ho e he => ?_⟩
  · have := List.all_eq_true.1 h1 i (List.mem_range.2 hi)
    obtain ⟨j, hj, hj2⟩ := List.any_eq_true.1 this
    rw [Bool.and_eq_true] at hj2
    have hjm := List.mem_range.1 hj
    cases ho : l[j]? with
    | none => rw [ho] at hj2; cases hj2.2
    | some o =>
      rw [ho] at hj2
      exact ⟨j, o, Nat.le_of_ble_eq_true hj2.1, by omega, ho, waits_out hj2.2⟩
  · have hil := (List.getElem?_eq_some_iff.1 ho).1
    have := List.all_eq_true.1 h2 i (List.mem_range.2 hil)
    rw [ho, Bool.or_eq_true] at this
    rcases this with h | h
    · have := Nat.le_of_ble_eq_true h; omega
    · exact waits_out h
  · have hil := (List.getElem?_eq_some_iff.1 ho).1
    have := List.all_eq_true.1 h3 i (List.mem_range.2 hil)
    rw [ho] at this
    exact Nat.le_of_ble_eq_true (List.all_eq_true.1 this e he)
theorem getD_tf {x : Array Bool} {i : Nat} (h : i < x.size) : x.getD i true = x.getD i false := by
  simp [Array.getD_eq_getD_getElem?, h]
theorem ready_iff {l : List Oper} {listed : Array Bool} {i : Nat} {o : Oper} (ho : l[i]? = some o) : i ∈ Region.ready .any l.toArray listed ↔ listed.getD i true = false ∧ ∀ e ∈ o.after.toList, Region.binds .any e = true → listed.getD e.on false = true := by
  have hil := (List.getElem?_eq_some_iff.1 ho).1
  have hoa : l.toArray[i]? = some o := by simpa using ho
  unfold Region.ready
  rw [List.mem_filter]
  simp only [List.size_toArray, List.mem_range, hoa, Option.map_some, Option.getD_some, Bool.and_eq_true, Bool.not_eq_true', Array.all_eq_true', Bool.or_eq_true]
  constructor
  · rintro ⟨_, h1, h2⟩
    exact ⟨h1, fun e he hb => (h2 e (by simpa using he)).elim (fun y => by rw [hb] at y; cases y) id⟩
  · rintro ⟨h1, h2⟩
    refine ⟨hil, h1, fun e he => ?_⟩
    cases hb : Region.binds .any e with
    | false => exact .inl rfl
    | true => exact .inr (h2 e (by simpa using he) hb)
theorem ready_lt {l : List Oper} {listed : Array Bool} {i : Nat} (h : i ∈ Region.ready .any l.toArray listed) : i < l.length := by
  unfold Region.ready at h
  rw [List.mem_filter] at h
  simpa using h.1
/-- from the m-th on: one behind the other -/
theorem tail_run {P : Program} {l : List Oper} {m : Nat} {Q : Exit → Act → World → Prop} (hch : Chain l m) : ∀ (rest : List Oper) (k : Nat), l.drop k = rest → m ≤ k → ∀ n (listed : Array Bool) a w, listed.size = l.length → (∀ j, j < k → j < l.length → listed.getD j true = true) →
    (∀ j, k ≤ j → j < l.length → listed.getD j true = false) → n = l.length - k → wpList P l.toArray Q rest a w → wpAny P .any l.toArray Q n listed a w := by
  intro rest
  induction rest with
  | nil =>
    intro k hk hmk n listed a w hsz h1 h2 hn h
    have hl : l.length ≤ k := by simpa using hk
    have hr : Region.ready .any l.toArray listed = [] := by
      rw [List.eq_nil_iff_forall_not_mem]
      intro i hi
      have hil := ready_lt hi
      have := ((ready_iff (List.getElem?_eq_getElem hil)).1 hi).1
      rw [h1 i (by omega) hil] at this
      cases this
    have hn0 : n = 0 := by omega
    subst hn0
    exact ⟨hr, h⟩
  | cons o rest ih =>
    intro k hk hmk n listed a w hsz h1 h2 hn h
    have hkl : k < l.length := by
      rcases Nat.lt_or_ge k l.length with h | h
      · exact h
      · rw [List.drop_eq_nil_of_le h] at hk; cases hk
    have ho : l[k]? = some o := by
      have := List.getElem?_drop (xs := l) (i := k) (j := 0)
      rw [hk] at this
      simpa using this.symm
    have hrk : k ∈ Region.ready .any l.toArray listed := (ready_iff ho).2 ⟨h2 k (Nat.le_refl _) hkl, fun e he _ => by
      have hek := hch.back k o ho e he
      rw [← getD_tf (by omega)]
      exact h1 e.on hek (by omega)⟩
    have hn' : n = (l.length - (k + 1)) + 1 := by omega
    subst hn'
    refine ⟨fun hr => (by rw [hr] at hrk; cases hrk), fun i hi => ?_⟩
    have hil := ready_lt hi
    have hio := (ready_iff (List.getElem?_eq_getElem hil)).1 hi
    have hik : i = k := by
      rcases Nat.lt_trichotomy i k with h | h | h
      · rw [h1 i h hil] at hio; cases hio.1
      · exact h
      · obtain ⟨e, he, he1, he2⟩ := hch.next i _ (by omega) (List.getElem?_eq_getElem hil)
        have := hio.2 e he he2
        rw [← getD_tf (by omega), he1, h2 (i - 1) (by omega) (by omega)] at this
        cases this
    subst hik
    have hoa : l.toArray[i]? = some o := by simpa using ho
    have hK : ∀ a' w', wpList P l.toArray Q rest a' w' → wpAny P .any l.toArray Q (l.length - (i + 1)) (listed.setIfInBounds i true) a' w' := fun a' w' h' => by
      refine ih (i + 1) ?_ (by omega) _ _ a' w' (by simp [hsz]) (fun j hj hjl => ?_) (fun j hj hjl => ?_) rfl h'
      · rw [← List.drop_drop, hk]; rfl
      · by_cases e : i = j
        · subst e; simp [Array.getD_eq_getD_getElem?, hsz, hil]
        · rw [getD_set e]; exact h1 j (by omega) hjl
      · rw [getD_set (by omega)]; exact h2 j (by omega) hjl
    unfold wpOp
    simp only [hoa]
    simp only [wpList] at h
    split
    · rename_i hw
      rw [if_pos hw] at h
      exact h.imp (fun h => Oper.wp_mono hK h) id
    · rename_i hw
      rw [if_neg hw] at h
      exact hK _ _ h
end Go.Pt
