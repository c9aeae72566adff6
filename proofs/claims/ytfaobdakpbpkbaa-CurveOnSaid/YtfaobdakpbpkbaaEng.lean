/-
  A small engine of my own for walks: the frame is a list of the temporaries that are known, the world is known by a base world and by the blocks that the call has made or may write. Each operation has one rule; nothing of it speaks of a program.
-/
import Derived.Test.YtfaobdakpbpkbaaBase
import Derived.Deep.Quiet
import Derived.Laws.Slices
namespace Go.Pt
open Go.RowKit

/-! ### The frame -/
abbrev Env := List (Nat × Value)
def look : Env → Nat → Option Value
  | [], _ => none
  | (d, v) :: r, t => bif Nat.beq t d then some v else look r t
def ev (Γ : Env) : Operand → Option Value
  | .tmp t => look Γ t
  | .const v => some v
  | .global g => some (.pointer (some ⟨g, 0, none⟩))
  | .func f => some (.func (.func f) #[] #[])

theorem beqFalse {a b : Nat} (h : ¬ a = b) : Nat.beq a b = false := by
  cases e : Nat.beq a b
  · rfl
  · exact (h (Nat.eq_of_beq_eq_true e)).elim

structure Fr (N : Nat) (a : Act) (Γ : Env) : Prop where
  defers : a.defers = []
  size : a.tmps.size = N
  get : ∀ t v, look Γ t = some v → a.tmps[t]? = some v

theorem Fr.ev {N : Nat} {a : Act} {Γ : Env} (h : Fr N a Γ) {x : Operand} {v : Value} (hx : ev Γ x = some v) : a.eval x = v := by
  cases x with
  | tmp t => simp only [Go.Pt.ev] at hx; simp [Act.eval, h.get t v hx]
  | const c => simp only [Go.Pt.ev] at hx; cases hx; rfl
  | global g => simp only [Go.Pt.ev] at hx; cases hx; rfl
  | func f => simp only [Go.Pt.ev] at hx; cases hx; rfl
theorem Fr.put {N : Nat} {a : Act} {Γ : Env} (h : Fr N a Γ) {d : Nat} (hd : Nat.blt d N = true) (v : Value) : Fr N (a.put (some d) v) ((d, v) :: Γ) := by
  have hlt : d < N := Nat.le_of_ble_eq_true hd
  refine ⟨h.defers, by simp [Act.put, h.size], fun t u hu => ?_⟩
  simp only [look] at hu
  by_cases e : t = d
  · subst e
    simp at hu
    subst hu
    simp [Act.put, h.size, hlt]
  · have : Nat.beq t d = false := beqFalse e
    rw [this] at hu
    simp at hu
    have := h.get t u hu
    simp [Act.put, Array.getElem?_setIfInBounds_ne (Ne.symm e), this]
theorem Fr.put0 {N : Nat} {a : Act} {Γ : Env} (h : Fr N a Γ) (v : Value) : Fr N (a.put none v) Γ := h

/-- what is known of the frame is forgotten but for Γ' -/
inductive Sub (Γ : Env) : Env → Prop
  | nil : Sub Γ []
  | cons {t : Nat} {v : Value} {r : Env} (h : look Γ t = some v) (hs : Sub Γ r) : Sub Γ ((t, v) :: r)
theorem Sub.look {Γ Γ' : Env} (h : Sub Γ Γ') {t : Nat} {v : Value} (ht : look Γ' t = some v) : look Γ t = some v := by
  induction h with
  | nil => simp [Go.Pt.look] at ht
  | @cons d u r h hs ih =>
    simp only [Go.Pt.look] at ht
    by_cases e : t = d
    · subst e; simp at ht; subst ht; exact h
    · have : Nat.beq t d = false := beqFalse e
      rw [this] at ht; exact ih (by simpa using ht)
theorem Sub.cons' {Γ r : Env} {t : Nat} {v u : Value} (h : Pt.look Γ t = some u) (e : u = v) (hs : Sub Γ r) : Sub Γ ((t, v) :: r) := Sub.cons (e ▸ h) hs
theorem Fr.sub {N : Nat} {a : Act} {Γ Γ' : Env} (h : Fr N a Γ) (hs : Sub Γ Γ') : Fr N a Γ' := ⟨h.defers, h.size, fun t v ht => h.get t v (hs.look ht)⟩

/-! ### The world -/
/-- the block's number, its cells, its type -/
structure Blk where
  b : Nat
  cs : List Value
  t : TypeId
/-- none of the blocks H is b -/
def Off : List Blk → Nat → Prop
  | [], _ => True
  | x :: r, b => x.b ≠ b ∧ Off r b
def Apart : List Blk → Prop
  | [] => True
  | x :: r => Off r x.b ∧ Apart r
def Own (w : World) : List Blk → Prop
  | [] => True
  | x :: r => w.heap[x.b]? = some (.cells x.cs.toArray x.t (0, 0)) ∧ Own w r

/-- The blocks H are as told; what else was in the world w0 is as it was. -/
structure Hp (w0 : World) (H : List Blk) (w : World) : Prop where
  upd : Upd (fun k => ¬ Off H k) w0 w
  own : Own w H
  apart : Apart H

theorem Hp.start (w : World) : Hp w [] w := ⟨Upd.refl _ _, trivial, trivial⟩
theorem Hp.rebase {w0 w : World} {H : List Blk} (h : Hp w0 H w) : Hp w H w := ⟨Upd.refl _ _, h.own, h.apart⟩
/-- an old block is taken among those that may be written -/
theorem Hp.open {w0 w : World} {H : List Blk} (h : Hp w0 H w) {c : Nat} {cs : List Value} {t : TypeId} (hc : w0.heap[c]? = some (.cells cs.toArray t (0, 0))) (ho : Off H c := by exact trivial) : Hp w0 (⟨c, cs, t⟩ :: H) w :=
  ⟨h.upd.mono fun _ _ hn ho => hn ho.2, ⟨h.upd.heap hc fun x => x ho, h.own⟩, ⟨ho, h.apart⟩⟩
theorem Hp.drew {w0 w : World} {H : List Blk} (h : Hp w0 H w) : Hp w0 H w.drew := ⟨h.upd.trans (Upd.drew _ _), by
  have := h.own
  clear h
  induction H with
  | nil => trivial
  | cons x r ih => exact ⟨this.1, ih this.2⟩, h.apart⟩
theorem Off.of {H : List Blk} {b : Nat} (h : ∀ x ∈ H, x.b ≠ b) : Off H b := by
  induction H with
  | nil => trivial
  | cons x r ih => exact ⟨h x (by simp), ih fun y hy => h y (by simp [hy])⟩
theorem Off.at {H : List Blk} {b : Nat} (h : Off H b) {x : Blk} (hx : x ∈ H) : x.b ≠ b := by
  induction H with
  | nil => cases hx
  | cons y r ih => cases hx with
    | head => exact h.1
    | tail _ hx => exact ih h.2 hx
theorem off1 {c k : Nat} {cs : List Value} {t : TypeId} (h : k < c) : Off [⟨c, cs, t⟩] k := ⟨fun e => by simp only at e; omega, trivial⟩
theorem Own.at {w : World} {H : List Blk} (h : Own w H) {x : Blk} (hx : x ∈ H) : w.heap[x.b]? = some (.cells x.cs.toArray x.t (0, 0)) := by
  induction H with
  | nil => cases hx
  | cons y r ih => cases hx with
    | head => exact h.1
    | tail _ hx => exact ih h.2 hx
theorem Own.of {w : World} {H : List Blk} (h : ∀ x ∈ H, w.heap[x.b]? = some (.cells x.cs.toArray x.t (0, 0))) : Own w H := by
  induction H with
  | nil => trivial
  | cons x r ih => exact ⟨h x (by simp), ih fun y hy => h y (by simp [hy])⟩
theorem Own.lt {w : World} {H : List Blk} (h : Own w H) {x : Blk} (hx : x ∈ H) : x.b < w.heap.size := lt_of_block (h.at hx)
theorem Own.upd {S : Nat → Prop} {w w' : World} {H : List Blk} (h : Own w H) (u : Upd S w w') (hs : ∀ x ∈ H, ¬ S x.b) : Own w' H :=
  Own.of fun x hx => u.heap (h.at hx) (hs x hx)
/-- a step that turns nothing of H -/
theorem Hp.step {S : Nat → Prop} {w0 w w' : World} {H : List Blk} (h : Hp w0 H w) (u : Upd S w w') (hs : ∀ x ∈ H, ¬ S x.b) (ho : ∀ k, k < w0.heap.size → S k → ¬ Off H k) : Hp w0 H w' :=
  ⟨⟨u.os.trans h.upd.os, u.tape.trans h.upd.tape, u.output.trans h.upd.output, Nat.le_trans h.upd.size u.size, fun k hk hn =>
      (u.block k (Nat.lt_of_lt_of_le hk h.upd.size) fun s => hn (ho k hk s)).trans (h.upd.block k hk hn)⟩, h.own.upd u hs, h.apart⟩
theorem Off.lt {w : World} {H : List Blk} (h : Own w H) : Off H w.heap.size := Off.of fun x hx => by have := h.lt hx; omega
/-- a new block -/
theorem Hp.alloc {w0 w : World} {H : List Blk} (h : Hp w0 H w) (cs : List Value) (t : TypeId) : Hp w0 (⟨w.heap.size, cs, t⟩ :: H) (w.alloc (.cells cs.toArray t)) := by
  refine ⟨(h.upd.mono fun k _ hn => fun ho => hn ho.2).trans (Upd.alloc _ _ _), ⟨heap_alloc_new w _, h.own.upd (Upd.alloc (fun _ => False) w _) fun _ _ h => h⟩, ⟨Off.lt h.own, h.apart⟩⟩
/-- one block of H gets new cells -/
theorem Hp.set {w0 w : World} {A B : List Blk} {c : Nat} {cs cs' : List Value} {t : TypeId} (h : Hp w0 (A ++ ⟨c, cs, t⟩ :: B) w) {w' : World} (u : Upd (· = c) w w') (hc : w'.heap[c]? = some (.cells cs'.toArray t (0, 0))) :
    Hp w0 (A ++ ⟨c, cs', t⟩ :: B) w' := by
  have offs : ∀ (A : List Blk) k, Off (A ++ ⟨c, cs', t⟩ :: B) k ↔ Off (A ++ ⟨c, cs, t⟩ :: B) k := by
    intro A k
    induction A with
    | nil => exact Iff.rfl
    | cons x r ih => simp only [List.cons_append, Off, ih]
  have aparts : ∀ (A : List Blk), Apart (A ++ ⟨c, cs, t⟩ :: B) → Apart (A ++ ⟨c, cs', t⟩ :: B) := by
    intro A
    induction A with
    | nil => exact fun h => h
    | cons x r ih => exact fun h => ⟨(offs r x.b).2 h.1, ih h.2⟩
  have ne : ∀ x ∈ A ++ B, x.b ≠ c := by
    have hap := h.apart
    clear h offs aparts
    induction A with
    | nil => intro x hx; exact hap.1.at hx
    | cons y r ih =>
      intro x hx
      cases hx with
      | head => exact fun e => (hap.1.at (x := ⟨c, cs, t⟩) (by simp)) e.symm
      | tail _ hx => exact ih hap.2 x hx
  refine ⟨⟨u.os.trans h.upd.os, u.tape.trans h.upd.tape, u.output.trans h.upd.output, Nat.le_trans h.upd.size u.size, fun k hk hn => ?_⟩, Own.of fun x hx => ?_, aparts A h.apart⟩
  · have hoff : Off (A ++ ⟨c, cs, t⟩ :: B) k := by
      rcases Classical.em (Off (A ++ ⟨c, cs, t⟩ :: B) k) with e | e
      · exact e
      · exact (hn fun e' => e ((offs A k).1 e')).elim
    have hkc : k ≠ c := fun e => hoff.at (x := ⟨c, cs, t⟩) (by simp) e.symm
    exact (u.block k (Nat.lt_of_lt_of_le hk h.upd.size) hkc).trans (h.upd.block k hk fun x => x hoff)
  · simp only [List.mem_append, List.mem_cons] at hx
    rcases hx with hx | rfl | hx
    · exact u.heap (h.own.at (by simp [hx])) (ne x (by simp [hx]))
    · exact hc
    · exact u.heap (h.own.at (by simp [hx])) (ne x (by simp [hx]))

inductive HSet (c : Nat) (cs cs' : List Value) (t : TypeId) : List Blk → List Blk → Prop
  | here {r : List Blk} : HSet c cs cs' t (⟨c, cs, t⟩ :: r) (⟨c, cs', t⟩ :: r)
  | there {x : Blk} {r r' : List Blk} (h : HSet c cs cs' t r r') : HSet c cs cs' t (x :: r) (x :: r')
theorem HSet.split {c : Nat} {cs cs' : List Value} {t : TypeId} {H H' : List Blk} (h : HSet c cs cs' t H H') : ∃ A B, H = A ++ ⟨c, cs, t⟩ :: B ∧ H' = A ++ ⟨c, cs', t⟩ :: B := by
  induction h with
  | here => exact ⟨[], _, rfl, rfl⟩
  | @there x r r' h ih => obtain ⟨A, B, rfl, rfl⟩ := ih; exact ⟨x :: A, B, rfl, rfl⟩
theorem HSet.mem {c : Nat} {cs cs' : List Value} {t : TypeId} {H H' : List Blk} (h : HSet c cs cs' t H H') : (⟨c, cs, t⟩ : Blk) ∈ H := by
  obtain ⟨A, B, rfl, rfl⟩ := h.split; simp
theorem Hp.hset {w0 w w' : World} {H H' : List Blk} {c : Nat} {cs cs' : List Value} {t : TypeId} (h : Hp w0 H w) (hs : HSet c cs cs' t H H') (u : Upd (· = c) w w') (hc : w'.heap[c]? = some (.cells cs'.toArray t (0, 0))) : Hp w0 H' w' := by
  obtain ⟨A, B, rfl, rfl⟩ := hs.split
  exact h.set u hc
/-- behind a call that turns one block of H -/
theorem Hp.callSet {w0 w w' : World} {H H' : List Blk} {c : Nat} {cs cs' : List Value} {t : TypeId} (h : Hp w0 H w) (hs : HSet c cs cs' t H H') (k : Hp w [⟨c, cs', t⟩] w') : Hp w0 H' w' :=
  h.hset hs (k.upd.mono fun j _ hj => Classical.byContradiction fun e => hj ⟨fun x => e x.symm, trivial⟩) k.own.1
/-- new blocks are forgotten -/
theorem Hp.drop {w0 w : World} {H : List Blk} (h : Hp w0 H w) (hn : ∀ x ∈ H, w0.heap.size ≤ x.b) : Hp w0 [] w :=
  ⟨h.upd.mono fun _ hk hs => (hs (Off.of fun x hx e => by have := hn x hx; omega)).elim, trivial, trivial⟩
/-- behind a call that turns nothing that was there -/
theorem Hp.keep {w0 w w' : World} {H : List Blk} (h : Hp w0 H w) (k : Hp w [] w') : Hp w0 H w' := h.step k.upd (fun _ _ x => x trivial) (fun _ _ x => (x trivial).elim)
/-- behind a call that makes one block and turns nothing that was there -/
theorem Hp.callNew {w0 w w' : World} {H : List Blk} {c : Nat} {cs : List Value} {t : TypeId} (h : Hp w0 H w) (k : Hp w [⟨c, cs, t⟩] w') (hc : w.heap.size ≤ c) : Hp w0 (⟨c, cs, t⟩ :: H) w' := by
  refine ⟨h.upd.comp k.upd fun j hj hs => ?_, ⟨k.own.1, h.own.upd k.upd fun x hx e => e (off1 (by have := h.own.lt hx; omega))⟩, ⟨Off.of fun x hx e => by have h2 := h.own.lt hx; simp only at e; omega, h.apart⟩⟩
  rcases hs with hs | hs
  · exact fun e => hs e.2
  · exact fun _ => hs (off1 (by have := h.upd.size; omega))
/-- a cell of a block of H -/
theorem Hp.cell {w0 w : World} {H : List Blk} (h : Hp w0 H w) {c i : Nat} {cs : List Value} {t : TypeId} {v : Value} (hm : (⟨c, cs, t⟩ : Blk) ∈ H) (hi : cs[i]? = some v) : w.cell? ⟨c, i, none⟩ = some v := by
  rw [cellAt (h.own.at hm)]; simpa using hi
theorem Hp.free {w0 w : World} {H : List Blk} (h : Hp w0 H w) {c i : Nat} {cs : List Value} {t : TypeId} (hm : (⟨c, cs, t⟩ : Blk) ∈ H) : w.frozen? ⟨c, i, none⟩ = false := freeAt (h.own.at hm) i
/-- a cell of the old memory -/
theorem Hp.old {w0 w : World} {H : List Blk} (h : Hp w0 H w) {a : Addr} {v : Value} (hc : w0.cell? a = some v) (ho : Off H a.block) : w.cell? a = some v := h.upd.cell hc fun x => x ho

end Go.Pt
