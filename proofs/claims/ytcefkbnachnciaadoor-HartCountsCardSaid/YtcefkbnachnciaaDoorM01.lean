/-
  15 texts, one behind the other; each says what it proves. Conditions: as each text says.
-/
import Derived.WalkKit
import Derived.WalkSpells
import Derived.WalkLawsBesides
import Derived.ProofKit
import Derived.Lib.SmallJoins
import Derived.Lib.Hide
import Derived.Deep.Quiet
import Derived.Laws.Slices
import Derived.LoopN
import Derived.Test.YtcefkbnachnciaaDoorProg
import Derived.KernelRfl
import Derived.Maps.Views
import Derived.Maps.OwnSet
import Derived.Laws.BitsAllLaws
import Derived.Laws.Closers25b
section
namespace Go.Pt
open Go.RowKit
structure Upd (S : Nat → Prop) (w w' : World) : Prop where
  os : w'.os = w.os
  tape : w'.tape = w.tape
  output : w'.output = w.output
  size : w.heap.size ≤ w'.heap.size
  block : ∀ k, k < w.heap.size → ¬ S k → w'.heap[k]? = w.heap[k]?

theorem Upd.refl (S : Nat → Prop) (w : World) : Upd S w w := ⟨rfl, rfl, rfl, Nat.le_refl _, fun _ _ _ => rfl⟩
theorem Upd.trans {S : Nat → Prop} {a b c : World} (h : Upd S a b) (k : Upd S b c) : Upd S a c :=
  ⟨k.os.trans h.os, k.tape.trans h.tape, k.output.trans h.output, Nat.le_trans h.size k.size,
   fun i hi hs => (k.block i (Nat.lt_of_lt_of_le hi h.size) hs).trans (h.block i hi hs)⟩
theorem Upd.mono {S S' : Nat → Prop} {a b : World} (h : Upd S a b) (hs : ∀ k, k < a.heap.size → S k → S' k) : Upd S' a b :=
  ⟨h.os, h.tape, h.output, h.size, fun k hk hn => h.block k hk fun x => hn (hs k hk x)⟩
theorem Upd.comp {S S' T : Nat → Prop} {a b c : World} (h : Upd S a b) (k : Upd S' b c) (ht : ∀ k, k < a.heap.size → S k ∨ S' k → T k) : Upd T a c :=
  ⟨k.os.trans h.os, k.tape.trans h.tape, k.output.trans h.output, Nat.le_trans h.size k.size,
   fun i hi hs => (k.block i (Nat.lt_of_lt_of_le hi h.size) fun x => hs (ht i hi (.inr x))).trans (h.block i hi fun x => hs (ht i hi (.inl x)))⟩
theorem Upd.drew (S : Nat → Prop) (w : World) : Upd S w w.drew := ⟨rfl, rfl, rfl, Nat.le_refl _, fun _ _ _ => rfl⟩
theorem Upd.alloc (S : Nat → Prop) (w : World) (o : Obj) : Upd S w (w.alloc o) :=
  ⟨rfl, rfl, rfl, by simp, fun k hk _ => Below.heap_alloc _ _ _ hk⟩
theorem Upd.setCell {S : Nat → Prop} (w : World) (p : Addr) (u : Value) (hp : S p.block) : Upd S w (w.setCell p u) :=
  ⟨rfl, rfl, rfl, by simp [World.setCell], fun k _ hs => Below.heap_setCell _ _ _ _ fun e => hs (e ▸ hp)⟩
theorem Upd.grown {S : Nat → Prop} {w w' : World} {row : Option Nat} (hg : w.grownBy w' row) (hr : ∀ k, row = some k → S k) : Upd S w w' :=
  ⟨hg.os, hg.tape, hg.output, hg.size, fun k hk hs => hg.block k hk fun e => hs (hr k e.symm)⟩
theorem Upd.toBelow {S : Nat → Prop} {B : Nat} {w w' : World} (h : Upd S w w') (hB : B ≤ w.heap.size) (hs : ∀ k, k < B → ¬ S k) : Below B w w' :=
  ⟨h.os, h.tape, h.output, h.size, fun k hk => h.block k (Nat.lt_of_lt_of_le hk hB) (hs k hk)⟩
theorem Upd.cell {S : Nat → Prop} {w w' : World} (h : Upd S w w') {p : Addr} {v : Value} (hc : w.cell? p = some v) (hs : ¬ S p.block) : w'.cell? p = some v :=
  (World.cell?_of_block (w := w) (h.block p.block (World.block_lt_of_cell? w p hc) hs)).trans hc
theorem Upd.heap {S : Nat → Prop} {w w' : World} (h : Upd S w w') {k : Nat} {o : Obj} (hc : w.heap[k]? = some o) (hs : ¬ S k) : w'.heap[k]? = some o :=
  (h.block k (lt_of_block hc) hs).trans hc
theorem cellAt {w : World} {g : Nat} {cs : Array Value} {t : TypeId} {fr : Nat × Nat} (h : w.heap[g]? = some (.cells cs t fr)) (i : Nat) : w.cell? ⟨g, i, none⟩ = cs[i]? := by simp [World.cell?, h]
theorem freeAt {w : World} {g : Nat} {cs : Array Value} {t : TypeId} (h : w.heap[g]? = some (.cells cs t (0, 0))) (i : Nat) : w.frozen? ⟨g, i, none⟩ = false := by simp [World.frozen?, h]
theorem blockSet {w : World} {g i : Nat} {cs : Array Value} {t : TypeId} {fr : Nat × Nat} (h : w.heap[g]? = some (.cells cs t fr)) (v : Value) : (w.setCell ⟨g, i, none⟩ v).heap[g]? = some (.cells (cs.setIfInBounds i v) t fr) := by
  have hlt := lt_of_block h
  have h' : w.heap[g] = .cells cs t fr := by simpa [Array.getElem?_eq_getElem hlt] using h
  show (w.heap.modify g _)[g]? = _
  rw [Array.getElem?_eq_getElem (by simpa using hlt), Array.getElem_modify_self, h']
  rfl
def Sv (w : World) (sz n : Nat) (v : Value) (cs : List Value) : Prop :=
  cs.length = n * sz ∧ ∃ a cap, v = .slice a n cap ∧ n ≤ cap ∧ cap ≤ maxLen ∧ (a = none → cap = 0) ∧
    (cs ≠ [] → ∃ b off, a = some ⟨b, off, none⟩ ∧ ∀ i (h : i < cs.length), w.cell? ⟨b, off + i, none⟩ = some cs[i])

theorem Sv.nil (w : World) (sz : Nat) : Sv w sz 0 (.slice none 0 0) [] := ⟨by simp, none, 0, rfl, Nat.le_refl _, by simp [maxLen], fun _ => rfl, fun h => (h rfl).elim⟩
theorem Sv.ofOwn {w : World} {base : Nat} {e : TypeId} {sz n : Nat} {v : Value} {cs : List Value} (h : w.ownsRow base e sz v n cs) : Sv w sz n v cs := by
  obtain ⟨hl, h⟩ := h
  rcases h with ⟨rfl, rfl⟩ | ⟨g, cap, cur, rfl, hb, hh, hn, hc, hs, ht⟩
  · have : cs = [] := by simpa using hl
    subst this; exact Sv.nil w sz
  · refine ⟨hl, _, cap, rfl, hn, hc, fun e => (by cases e), fun _ => ⟨g, 0, rfl, fun i hi => ?_⟩⟩
    rw [cellAt hh]
    subst ht
    simp only [List.length_take] at hi
    have hi' : i < cur.size := by simp at hi; omega
    simp [hi']

def byteCells (l : List UInt8) : List Value := l.map fun c => .int .u8 (c.toNat : Int)
def Bs (w : World) (v : Value) (l : List UInt8) : Prop := Sv w 1 l.length v (byteCells l)

theorem byteCells_ne {l : List UInt8} : byteCells l ≠ [] ↔ l ≠ [] := by simp [byteCells]
theorem Bs.shape {w : World} {v : Value} {l : List UInt8} (h : Bs w v l) : ∃ a cap, v = .slice a l.length cap ∧ l.length ≤ cap ∧ cap ≤ maxLen := by
  obtain ⟨_, a, cap, h1, h2, h3, _, _⟩ := h; exact ⟨a, cap, h1, h2, h3⟩
theorem Bs.cells {w : World} {a : Option Addr} {n cap : Nat} {l : List UInt8} (h : Bs w (.slice a n cap) l) (hne : l ≠ []) :
    ∃ b off, a = some ⟨b, off, none⟩ ∧ ∀ i (hi : i < l.length), w.cell? ⟨b, off + i, none⟩ = some (.int .u8 (l[i].toNat : Int)) := by
  obtain ⟨_, a', cap', h1, _, _, _, h3⟩ := h
  cases h1
  obtain ⟨b, off, rfl, hc⟩ := h3 (byteCells_ne.2 hne)
  refine ⟨b, off, rfl, fun i hi => ?_⟩
  have := hc i (by simpa [byteCells] using hi)
  simpa [byteCells] using this
end Go.Pt
end
section
namespace Go.Pt
open Go.RowKit
abbrev Env := List (Nat × Value)
def look : Env → Nat → Option Value
  | [], _ => none
  | (d, v) :: r, t => bif Nat.beq t d then some v else look r t
def ev (Γ : Env) : Operand → Option Value
  | .tmp t => look Γ t
  | .const v => some v
  | .global g => some (.pointer (some ⟨g, 0, none⟩))
  | .func f => some (.func (.func f) #[] #[])

theorem beqFalse {a b : Nat} (h : ¬ a = b) : Nat.beq a b = false := by
  cases e : Nat.beq a b
  · rfl
  · exact (h (Nat.eq_of_beq_eq_true e)).elim

structure Fr (N : Nat) (a : Act) (Γ : Env) : Prop where
  defers : a.defers = []
  size : a.tmps.size = N
  get : ∀ t v, look Γ t = some v → a.tmps[t]? = some v

theorem Fr.ev {N : Nat} {a : Act} {Γ : Env} (h : Fr N a Γ) {x : Operand} {v : Value} (hx : ev Γ x = some v) : a.eval x = v := by
  cases x with
  | tmp t => simp only [Go.Pt.ev] at hx; simp [Act.eval, h.get t v hx]
  | const c => simp only [Go.Pt.ev] at hx; cases hx; rfl
  | global g => simp only [Go.Pt.ev] at hx; cases hx; rfl
  | func f => simp only [Go.Pt.ev] at hx; cases hx; rfl
theorem Fr.put {N : Nat} {a : Act} {Γ : Env} (h : Fr N a Γ) {d : Nat} (hd : Nat.blt d N = true) (v : Value) : Fr N (a.put (some d) v) ((d, v) :: Γ) := by
  have hlt : d < N := Nat.le_of_ble_eq_true hd
  refine ⟨h.defers, by simp [Act.put, h.size], fun t u hu => ?_⟩
  simp only [look] at hu
  by_cases e : t = d
  · subst e
    simp at hu
    subst hu
    simp [Act.put, h.size, hlt]
  · have : Nat.beq t d = false := beqFalse e
    rw [this] at hu
    simp at hu
    have := h.get t u hu
    simp [Act.put, Array.getElem?_setIfInBounds_ne (Ne.symm e), this]
theorem Fr.put0 {N : Nat} {a : Act} {Γ : Env} (h : Fr N a Γ) (v : Value) : Fr N (a.put none v) Γ := h

inductive Sub (Γ : Env) : Env → Prop
  | nil : Sub Γ []
  | cons {t : Nat} {v : Value} {r : Env} (h : look Γ t = some v) (hs : Sub Γ r) : Sub Γ ((t, v) :: r)
theorem Sub.look {Γ Γ' : Env} (h : Sub Γ Γ') {t : Nat} {v : Value} (ht : look Γ' t = some v) : look Γ t = some v := by
  induction h with
  | nil => simp [Go.Pt.look] at ht
  | @cons d u r h hs ih =>
    simp only [Go.Pt.look] at ht
    by_cases e : t = d
    · subst e; simp at ht; subst ht; exact h
    · have : Nat.beq t d = false := beqFalse e
      rw [this] at ht; exact ih (by simpa using ht)
theorem Fr.sub {N : Nat} {a : Act} {Γ Γ' : Env} (h : Fr N a Γ) (hs : Sub Γ Γ') : Fr N a Γ' := ⟨h.defers, h.size, fun t v ht => h.get t v (hs.look ht)⟩
structure Blk where
  b : Nat
  cs : List Value
  t : TypeId
def Off : List Blk → Nat → Prop
  | [], _ => True
  | x :: r, b => x.b ≠ b ∧ Off r b
def Apart : List Blk → Prop
  | [] => True
  | x :: r => Off r x.b ∧ Apart r
def Own (w : World) : List Blk → Prop
  | [] => True
  | x :: r => w.heap[x.b]? = some (.cells x.cs.toArray x.t (0, 0)) ∧ Own w r

structure Hp (w0 : World) (H : List Blk) (w : World) : Prop where
  upd : Upd (fun k => ¬ Off H k) w0 w
  own : Own w H
  apart : Apart H

theorem Hp.start (w : World) : Hp w [] w := ⟨Upd.refl _ _, trivial, trivial⟩
theorem Hp.open {w0 w : World} {H : List Blk} (h : Hp w0 H w) {c : Nat} {cs : List Value} {t : TypeId} (hc : w0.heap[c]? = some (.cells cs.toArray t (0, 0))) (ho : Off H c := by exact trivial) : Hp w0 (⟨c, cs, t⟩ :: H) w :=
  ⟨h.upd.mono fun _ _ hn ho => hn ho.2, ⟨h.upd.heap hc fun x => x ho, h.own⟩, ⟨ho, h.apart⟩⟩
theorem Hp.drew {w0 w : World} {H : List Blk} (h : Hp w0 H w) : Hp w0 H w.drew := ⟨h.upd.trans (Upd.drew _ _), by
  have := h.own
  clear h
  induction H with
  | nil => trivial
  | cons x r ih => exact ⟨this.1, ih this.2⟩, h.apart⟩
theorem Off.of {H : List Blk} {b : Nat} (h : ∀ x ∈ H, x.b ≠ b) : Off H b := by
  induction H with
  | nil => trivial
  | cons x r ih => exact ⟨h x (by simp), ih fun y hy => h y (by simp [hy])⟩
theorem Off.at {H : List Blk} {b : Nat} (h : Off H b) {x : Blk} (hx : x ∈ H) : x.b ≠ b := by
  induction H with
  | nil => cases hx
  | cons y r ih => cases hx with
    | head => exact h.1
    | tail _ hx => exact ih h.2 hx
theorem off1 {c k : Nat} {cs : List Value} {t : TypeId} (h : k < c) : Off [⟨c, cs, t⟩] k := ⟨fun e => by simp only at e; omega, trivial⟩
theorem Own.at {w : World} {H : List Blk} (h : Own w H) {x : Blk} (hx : x ∈ H) : w.heap[x.b]? = some (.cells x.cs.toArray x.t (0, 0)) := by
  induction H with
  | nil => cases hx
  | cons y r ih => cases hx with
    | head => exact h.1
    | tail _ hx => exact ih h.2 hx
theorem Own.of {w : World} {H : List Blk} (h : ∀ x ∈ H, w.heap[x.b]? = some (.cells x.cs.toArray x.t (0, 0))) : Own w H := by
  induction H with
  | nil => trivial
  | cons x r ih => exact ⟨h x (by simp), ih fun y hy => h y (by simp [hy])⟩
theorem Own.lt {w : World} {H : List Blk} (h : Own w H) {x : Blk} (hx : x ∈ H) : x.b < w.heap.size := lt_of_block (h.at hx)
theorem Own.upd {S : Nat → Prop} {w w' : World} {H : List Blk} (h : Own w H) (u : Upd S w w') (hs : ∀ x ∈ H, ¬ S x.b) : Own w' H :=
  Own.of fun x hx => u.heap (h.at hx) (hs x hx)
theorem Hp.step {S : Nat → Prop} {w0 w w' : World} {H : List Blk} (h : Hp w0 H w) (u : Upd S w w') (hs : ∀ x ∈ H, ¬ S x.b) (ho : ∀ k, k < w0.heap.size → S k → ¬ Off H k) : Hp w0 H w' :=
  ⟨⟨u.os.trans h.upd.os, u.tape.trans h.upd.tape, u.output.trans h.upd.output, Nat.le_trans h.upd.size u.size, fun k hk hn =>
      (u.block k (Nat.lt_of_lt_of_le hk h.upd.size) fun s => hn (ho k hk s)).trans (h.upd.block k hk hn)⟩, h.own.upd u hs, h.apart⟩
theorem Off.lt {w : World} {H : List Blk} (h : Own w H) : Off H w.heap.size := Off.of fun x hx => by have := h.lt hx; omega
theorem Hp.alloc {w0 w : World} {H : List Blk} (h : Hp w0 H w) (cs : List Value) (t : TypeId) : Hp w0 (⟨w.heap.size, cs, t⟩ :: H) (w.alloc (.cells cs.toArray t)) := by
  refine ⟨(h.upd.mono fun k _ hn => fun ho => hn ho.2).trans (Upd.alloc _ _ _), ⟨heap_alloc_new w _, h.own.upd (Upd.alloc (fun _ => False) w _) fun _ _ h => h⟩, ⟨Off.lt h.own, h.apart⟩⟩
theorem Hp.set {w0 w : World} {A B : List Blk} {c : Nat} {cs cs' : List Value} {t : TypeId} (h : Hp w0 (A ++ ⟨c, cs, t⟩ :: B) w) {w' : World} (u : Upd (· = c) w w') (hc : w'.heap[c]? = some (.cells cs'.toArray t (0, 0))) :
    Hp w0 (A ++ ⟨c, cs', t⟩ :: B) w' := by
  have offs : ∀ (A : List Blk) k, Off (A ++ ⟨c, cs', t⟩ :: B) k ↔ Off (A ++ ⟨c, cs, t⟩ :: B) k := by
    intro A k
    induction A with
    | nil => exact Iff.rfl
    | cons x r ih => simp only [List.cons_append, Off, ih]
  have aparts : ∀ (A : List Blk), Apart (A ++ ⟨c, cs, t⟩ :: B) → Apart (A ++ ⟨c, cs', t⟩ :: B) := by
    intro A
    induction A with
    | nil => exact fun h => h
    | cons x r ih => exact fun h => ⟨(offs r x.b).2 h.1, ih h.2⟩
  have ne : ∀ x ∈ A ++ B, x.b ≠ c := by
    have hap := h.apart
    clear h offs aparts
    induction A with
    | nil => intro x hx; exact hap.1.at hx
    | cons y r ih =>
      intro x hx
      cases hx with
      | head => exact fun e => (hap.1.at (x := ⟨c, cs, t⟩) (by simp)) e.symm
      | tail _ hx => exact ih hap.2 x hx
  refine ⟨⟨u.os.trans h.upd.os, u.tape.trans h.upd.tape, u.output.trans h.upd.output, Nat.le_trans h.upd.size u.size, fun k hk hn => ?_⟩, Own.of fun x hx => ?_, aparts A h.apart⟩
  · have hoff : Off (A ++ ⟨c, cs, t⟩ :: B) k := by
      rcases Classical.em (Off (A ++ ⟨c, cs, t⟩ :: B) k) with e | e
      · exact e
      · exact (hn fun e' => e ((offs A k).1 e')).elim
    have hkc : k ≠ c := fun e => hoff.at (x := ⟨c, cs, t⟩) (by simp) e.symm
    exact (u.block k (Nat.lt_of_lt_of_le hk h.upd.size) hkc).trans (h.upd.block k hk fun x => x hoff)
  · simp only [List.mem_append, List.mem_cons] at hx
    rcases hx with hx | rfl | hx
    · exact u.heap (h.own.at (by simp [hx])) (ne x (by simp [hx]))
    · exact hc
    · exact u.heap (h.own.at (by simp [hx])) (ne x (by simp [hx]))

inductive HSet (c : Nat) (cs cs' : List Value) (t : TypeId) : List Blk → List Blk → Prop
  | here {r : List Blk} : HSet c cs cs' t (⟨c, cs, t⟩ :: r) (⟨c, cs', t⟩ :: r)
  | there {x : Blk} {r r' : List Blk} (h : HSet c cs cs' t r r') : HSet c cs cs' t (x :: r) (x :: r')
theorem HSet.split {c : Nat} {cs cs' : List Value} {t : TypeId} {H H' : List Blk} (h : HSet c cs cs' t H H') : ∃ A B, H = A ++ ⟨c, cs, t⟩ :: B ∧ H' = A ++ ⟨c, cs', t⟩ :: B := by
  induction h with
  | here => exact ⟨[], _, rfl, rfl⟩
  | @there x r r' h ih => obtain ⟨A, B, rfl, rfl⟩ := ih; exact ⟨x :: A, B, rfl, rfl⟩
theorem HSet.mem {c : Nat} {cs cs' : List Value} {t : TypeId} {H H' : List Blk} (h : HSet c cs cs' t H H') : (⟨c, cs, t⟩ : Blk) ∈ H := by
  obtain ⟨A, B, rfl, rfl⟩ := h.split; simp
theorem Hp.hset {w0 w w' : World} {H H' : List Blk} {c : Nat} {cs cs' : List Value} {t : TypeId} (h : Hp w0 H w) (hs : HSet c cs cs' t H H') (u : Upd (· = c) w w') (hc : w'.heap[c]? = some (.cells cs'.toArray t (0, 0))) : Hp w0 H' w' := by
  obtain ⟨A, B, rfl, rfl⟩ := hs.split
  exact h.set u hc
theorem Hp.callSet {w0 w w' : World} {H H' : List Blk} {c : Nat} {cs cs' : List Value} {t : TypeId} (h : Hp w0 H w) (hs : HSet c cs cs' t H H') (k : Hp w [⟨c, cs', t⟩] w') : Hp w0 H' w' :=
  h.hset hs (k.upd.mono fun j _ hj => Classical.byContradiction fun e => hj ⟨fun x => e x.symm, trivial⟩) k.own.1
theorem Hp.drop {w0 w : World} {H : List Blk} (h : Hp w0 H w) (hn : ∀ x ∈ H, w0.heap.size ≤ x.b) : Hp w0 [] w :=
  ⟨h.upd.mono fun _ hk hs => (hs (Off.of fun x hx e => by have := hn x hx; omega)).elim, trivial, trivial⟩
theorem Hp.keep {w0 w w' : World} {H : List Blk} (h : Hp w0 H w) (k : Hp w [] w') : Hp w0 H w' := h.step k.upd (fun _ _ x => x trivial) (fun _ _ x => (x trivial).elim)
theorem Hp.callNew {w0 w w' : World} {H : List Blk} {c : Nat} {cs : List Value} {t : TypeId} (h : Hp w0 H w) (k : Hp w [⟨c, cs, t⟩] w') (hc : w.heap.size ≤ c) : Hp w0 (⟨c, cs, t⟩ :: H) w' := by
  refine ⟨h.upd.comp k.upd fun j hj hs => ?_, ⟨k.own.1, h.own.upd k.upd fun x hx e => e (off1 (by have := h.own.lt hx; omega))⟩, ⟨Off.of fun x hx e => by have h2 := h.own.lt hx; simp only at e; omega, h.apart⟩⟩
  rcases hs with hs | hs
  · exact fun e => hs e.2
  · exact fun _ => hs (off1 (by have := h.upd.size; omega))
theorem Hp.cell {w0 w : World} {H : List Blk} (h : Hp w0 H w) {c i : Nat} {cs : List Value} {t : TypeId} {v : Value} (hm : (⟨c, cs, t⟩ : Blk) ∈ H) (hi : cs[i]? = some v) : w.cell? ⟨c, i, none⟩ = some v := by
  rw [cellAt (h.own.at hm)]; simpa using hi
theorem Hp.free {w0 w : World} {H : List Blk} (h : Hp w0 H w) {c i : Nat} {cs : List Value} {t : TypeId} (hm : (⟨c, cs, t⟩ : Blk) ∈ H) : w.frozen? ⟨c, i, none⟩ = false := freeAt (h.own.at hm) i
theorem Hp.old {w0 w : World} {H : List Blk} (h : Hp w0 H w) {a : Addr} {v : Value} (hc : w0.cell? a = some v) (ho : Off H a.block) : w.cell? a = some v := h.upd.cell hc fun x => x ho

end Go.Pt
end
section
namespace Go.Pt

def effB (o : Oper) : Bool := match o.op with
  | .call { callee := .builtin .len, .. } => false
  | .call _ | .store .. | .alloc _ | .box .. | .buildSlice .. | .makeSlice .. | .makeMap .. | .mapUpdate .. | .insert .. | .mapEntry .. | .entryStore .. => true
  | _ => false

section
variable {P : Program} {ops : Array Oper} {C : World → Prop}

def wpE (P : Program) (ops : Array Oper) (C : World → Prop) (Q : Act → World → Prop) : List Oper → Act → World → Prop
  | [], a, w => Q a w
  | o :: rest, a, w =>
    if Region.wanted o (yielded ops a.tmps) then
      if effB o then o.wp P a w (fun a' w' => C w' ∧ wpE P ops C Q rest a' w') (fun _ _ _ => False)
      else ∃ v, (∀ w', C w' → (execOp a.eval o).run P w' = .ok (.value v) w') ∧ wpE P ops C Q rest (a.put o.dst v) w
    else wpE P ops C Q rest (a.put o.dst undef) w

def onlyN (Q : Act → World → Prop) : Exit → Act → World → Prop
  | .normal, a, w => Q a w
  | _, _, _ => False

def wpAnyC (P : Program) (ops : Array Oper) (C : World → Prop) (Q : Act → World → Prop) : Nat → Array Bool → Act → World → Prop
  | 0, listed, a, w => C w ∧ Region.ready .any ops listed = [] ∧ Q a w
  | n + 1, listed, a, w => C w ∧ (Region.ready .any ops listed = [] → Q a w) ∧ ∀ i ∈ Region.ready .any ops listed, wpOp P ops (onlyN Q) i (wpAnyC P ops C Q n (listed.setIfInBounds i true)) a w

theorem wpAny_of_C {Q : Act → World → Prop} : ∀ (n : Nat) (listed : Array Bool) (a : Act) (w : World), wpAnyC P ops C Q n listed a w → wpAny P .any ops (onlyN Q) n listed a w
  | 0, _, _, _, h => ⟨h.2.1, h.2.2⟩
  | n + 1, _, _, _, h => ⟨h.2.1, fun i hi => wpOp_mono (fun a' w' hh => wpAny_of_C n _ a' w' hh) (h.2.2 i hi)⟩

def YC (P : Program) (ops : Array Oper) (C : World → Prop) (o : Oper) (v : Value) (a : Act) : Prop :=
  (Region.wanted o (yielded ops a.tmps) = true ∧ ∀ w, C w → (execOp a.eval o).run P w = .ok (.value v) w) ∨ (Region.wanted o (yielded ops a.tmps) = false ∧ v = undef)

theorem YC.same {o : Oper} {v : Value} {a a' : Act} (hy : YC P ops C o v a) (he : execOp a'.eval o = execOp a.eval o) (hw : Region.wanted o (yielded ops a'.tmps) = Region.wanted o (yielded ops a.tmps)) : YC P ops C o v a' := by
  unfold YC at *; rw [he, hw]; exact hy

theorem YC.now {i : Nat} {o : Oper} {v : Value} {a : Act} {w : World} (hi : ops[i]? = some o) (hy : YC P ops C o v a) (hC : C w) {Q : Exit → Act → World → Prop} {K : Act → World → Prop} (h : K (a.put o.dst v) w) : wpOp P ops Q i K a w := by
  unfold wpOp
  simp only [hi]
  rcases hy with ⟨hw, hv⟩ | ⟨hw, rfl⟩
  · rw [if_pos hw]; refine .inl ?_; simp only [Oper.wp, hv w hC, Oper.upon]; exact h
  · rw [hw]; exact h

theorem wpOp_swap {j : Nat} {oi oj : Oper} {v : Value} {Q : Act → World → Prop} (hj : ops[j]? = some oj) (hap : oi.apart ops oj = true) (hsi : ∀ cs b, oi.op ≠ .select cs b) (hsj : ∀ cs b, oj.op ≠ .select cs b)
    {K : Act → World → Prop} {a : Act} {w : World} (hy : YC P ops C oi v a) (h : wpOp P ops (onlyN Q) j K (a.put oi.dst v) w) :
    wpOp P ops (onlyN Q) j (fun a' w' => YC P ops C oi v a' ∧ K (a'.put oi.dst v) w') a w := by
  obtain ⟨h1, h2, h3⟩ := Oper.apart_spec hap
  have keep : ∀ (a : Act), YC P ops C oi v a → ∀ u, YC P ops C oi v (a.put oj.dst u) := fun a hy u => hy.same (execOp_put oi hsi a oj.dst u h3) (wanted_put oi a oj.dst u h3)
  have keepD : ∀ d, YC P ops C oi v { a with defers := d :: a.defers } := fun d => hy.same rfl rfl
  have noOut : ¬ LetsOut (onlyN Q) := fun ⟨_, _, h⟩ => h
  unfold wpOp at *
  simp only [hj] at *
  rw [wanted_put oj a oi.dst v h1] at h
  by_cases hw : Region.wanted oj (yielded ops a.tmps) = true
  · rw [if_pos hw] at h ⊢
    rcases h with h | ⟨_, hout⟩
    case inr => exact (noOut hout).elim
    refine .inl ?_
    unfold Oper.wp at *
    rw [execOp_put oj hsj a oi.dst v h1] at h
    generalize (execOp a.eval oj).run P w = r at *
    cases r with
    | halt x w' => cases x <;> simp only [Oper.upon, onlyN] at h
    | ok n w' =>
      cases n <;> simp only [Oper.upon] at h ⊢
      case value u => exact ⟨keep a hy u, by rw [← Act.put_comm a v u h2]; exact h⟩
      case skip => exact ⟨keep a hy _, by rw [← Act.put_comm a v undef h2]; exact h⟩
      case defer d => exact ⟨keep _ (keepD d) _, by rw [← Act.put_comm _ v undef h2, ← Act.put_defers]; exact h⟩
      case enter f args =>
        refine Calls.mono h fun e w'' he => ?_
        cases e with
        | returned u => exact ⟨keep a hy u, by rw [← Act.put_comm a v u h2]; exact he⟩
        | panicked c => exact he.elim
        | outgrown => exact (noOut he).elim
      case row row args => exact Rows.mono h fun u w'' he => ⟨keep a hy u, by rw [← Act.put_comm a v u h2]; exact he⟩
  · rw [if_neg hw] at h ⊢
    exact ⟨keep a hy _, by rw [← Act.put_comm a v undef h2]; exact h⟩

theorem firstC {Q : Act → World → Prop} {i : Nat} {oi : Oper} {v : Value} (hi : ops[i]? = some oi) (hsel : Region.noSelect ops = true) :
    ∀ (n : Nat) (listed : Array Bool) (a : Act) (w : World),
      (∀ j oj, ops[j]? = some oj → j ≠ i → listed.getD j true = false → (∀ e ∈ oj.after, Region.binds .any e = true → e.on ≠ i) → oi.apart ops oj = true) →
      i ∈ Region.ready .any ops listed → YC P ops C oi v a → wpAnyC P ops C Q n (listed.setIfInBounds i true) (a.put oi.dst v) w → wpAnyC P ops C Q (n + 1) listed a w := by
  have hs := fun j o cs b => Region.noSelect_spec hsel j o cs b
  intro n
  induction n with
  | zero =>
    intro listed a w _ hr hy H
    refine ⟨H.1, fun h => (by rw [h] at hr; cases hr), fun j hj => ?_⟩
    by_cases hji : j = i
    · subst hji; exact hy.now hi H.1 H
    · have := ready_mono hj hji
      rw [H.2.1] at this
      cases this
  | succ n ih =>
    intro listed a w hfree hr hy H
    refine ⟨H.1, fun h => (by rw [h] at hr; cases hr), fun j hj => ?_⟩
    by_cases hji : j = i
    · subst hji; exact hy.now hi H.1 H
    · have h1 := H.2.2 j (ready_mono hj hji)
      obtain ⟨hjun, oj, hoj, hall⟩ := mem_ready.1 hj
      have hnot : ∀ e ∈ oj.after, Region.binds .any e = true → e.on ≠ i := fun e he hb heq => by
        have h1 := hall e he hb
        have h0 := (mem_ready.1 hr).1
        rw [heq] at h1
        rcases Nat.lt_or_ge i listed.size with h' | h'
        · simp [h'] at h0 h1; rw [h0] at h1; cases h1
        · simp [Array.getElem?_eq_none h'] at h1
      have h2 := wpOp_swap hoj (hfree j oj hoj hji hjun hnot) (fun cs b => hs i oi cs b hi) (fun cs b => hs j oj cs b hoj) hy h1
      have hfree' : ∀ k ok, ops[k]? = some ok → k ≠ i → (listed.setIfInBounds j true).getD k true = false → (∀ e ∈ ok.after, Region.binds .any e = true → e.on ≠ i) → oi.apart ops ok = true := fun k ok hk hki hun hno => by
        refine hfree k ok hk hki ?_ hno
        by_cases hjk : j = k
        · subst hjk; exact hjun
        · rw [getD_set_ne true hjk] at hun; exact hun
      refine wpOp_mono (fun a' w' h3 => ih (listed.setIfInBounds j true) a' w' hfree' (ready_mono hr (Ne.symm hji)) h3.1 ?_) h2
      rw [Array.setIfInBounds_comm _ _ hji]
      exact h3.2

end
end Go.Pt
end
section
namespace Go.Pt
open Go.RowKit
inductive LSet : List Value → Nat → Value → List Value → Prop
  | z {x v : Value} {r : List Value} : LSet (x :: r) 0 v (v :: r)
  | s {x v : Value} {r r' : List Value} {n : Nat} (h : LSet r n v r') : LSet (x :: r) (n + 1) v (x :: r')
theorem LSet.out {l l' : List Value} {i : Nat} {v : Value} (h : LSet l i v l') : i < l.length ∧ l.set i v = l' := by
  induction h with
  | z => simp
  | s h ih => simpa using ih
inductive LOver : List Value → List Value → List Value → Prop
  | nil {l : List Value} : LOver l [] l
  | cons {x y : Value} {r r' xs : List Value} (h : LOver r xs r') : LOver (y :: r) (x :: xs) (x :: r')
inductive LPut : List Value → Nat → List Value → List Value → Prop
  | z {l l' xs : List Value} (h : LOver l xs l') : LPut l 0 xs l'
  | s {x : Value} {r r' xs : List Value} {n : Nat} (h : LPut r n xs r') : LPut (x :: r) (n + 1) xs (x :: r')
theorem LOver.out {l l' xs : List Value} (h : LOver l xs l') : xs.length ≤ l.length ∧ l' = xs ++ l.drop xs.length := by
  induction h with
  | nil => simp
  | cons h ih => obtain ⟨h1, h2⟩ := ih; exact ⟨by simpa using h1, by simpa using h2⟩
theorem LPut.out {l l' xs : List Value} {n : Nat} (h : LPut l n xs l') : n + xs.length ≤ l.length ∧ l.take n ++ xs ++ l.drop (n + xs.length) = l' := by
  induction h with
  | z h => obtain ⟨h1, h2⟩ := h.out; exact ⟨by simpa using h1, by simp [h2]⟩
  | @s x r r' xs n h ih =>
    obtain ⟨h1, h2⟩ := ih
    refine ⟨by simp; omega, ?_⟩
    rw [← h2, show n + 1 + xs.length = (n + xs.length) + 1 by omega]
    simp
inductive LSub : List Value → Nat → Nat → List Value → Prop
  | z {l : List Value} : LSub l 0 0 []
  | t {x : Value} {r xs : List Value} {n : Nat} (h : LSub r 0 n xs) : LSub (x :: r) 0 (n + 1) (x :: xs)
  | s {x : Value} {r xs : List Value} {i n : Nat} (h : LSub r i n xs) : LSub (x :: r) (i + 1) n xs
theorem LSub.out {l xs : List Value} {i n : Nat} (h : LSub l i n xs) : (l.drop i).take n = xs ∧ xs.length = n := by
  induction h with
  | z => simp
  | t h ih => simpa using ih
  | s h ih => simpa using ih
def aggB (P : Program) (t : Nat) : Bool := match P.underlying t with | some (.struct _) | some (.array _ _) => true | _ => false
def sizeB (P : Program) (t : Nat) : Nat := ((P.info? t).map (·.size)).getD 0
def fieldB (P : Program) (t i : Nat) : Option (Nat × Nat × Bool) := match P.underlying t with
  | some (.struct fs) => (fs[i]?).map fun f => (f.offset, f.type, !(Nat.beq (sizeB P f.type) 0))
  | _ => none
class TyD (P : Program) (t : Nat) (d : outParam TypeDesc) : Prop where
  out : P.underlying t = some d
class TyS (P : Program) (t : Nat) (size bytes : outParam Nat) : Prop where
  out : (P.info? t).map (fun i => (i.size, i.bytes)) = some (size, bytes)
class TyZ (P : Program) (t : Nat) (z : outParam Value) : Prop where
  out : (P.info? t).bind (fun i => i.zero) = some z
class TyC (P : Program) (t : Nat) : Prop where
  out : (P.underlying t).isSome = true ∧ aggB P t = false ∧ (P.info? t).map (fun i => i.size) = some 1
class TyA (P : Program) (t : Nat) (n : outParam Nat) : Prop where
  out : aggB P t = true ∧ (P.info? t).map (fun i => i.size) = some n
class Fld (P : Program) (t i : Nat) (off ft : outParam Nat) : Prop where
  out : fieldB P t i = some (off, ft, true)
class Ent (P : Program) (f : Nat) : Prop where
  out : ∀ args w, (callFunc f args).run P w = .ok (.enter f args) w

section
variable {P : Program} {w : World}
theorem ent_of {P : Program} {f : Nat} {fn : Func} (h1 : P.funcs[f]? = some fn) (h2 : (fn.name == "runtime.NumGoroutine") = false) (h3 : fn.body.isNone = false) : Ent P f :=
  ⟨fun args w => by
    have h2' : ¬ fn.name = "runtime.NumGoroutine" := by simpa using h2
    have h3' : ¬ fn.body = none := by cases hb : fn.body <;> simp_all
    simp [callFunc, h1, h2', h3']⟩
theorem run_size {t s b : Nat} [h : TyS P t s b] : (sizeOf t).run P w = .ok s w := by
  have h := h.out
  cases e : P.info? t with
  | none => rw [e] at h; cases h
  | some i => rw [e] at h; simp at h; simp [sizeOf, typeInfo, e, h.1]
theorem run_sizeA {t n : Nat} [h : TyA P t n] : (sizeOf t).run P w = .ok n w := by
  have h := h.out.2
  cases e : P.info? t with
  | none => rw [e] at h; cases h
  | some i => rw [e] at h; simp at h; simp [sizeOf, typeInfo, e, h]
theorem run_zero {t : Nat} {z : Value} [h : TyZ P t z] : (zeroValue t).run P w = .ok z w := by
  have h := h.out
  cases e : P.info? t with
  | none => rw [e] at h; cases h
  | some i => rw [e] at h; simp at h; simp [zeroValue, typeInfo, e, h]
theorem run_aggC {t : Nat} [h : TyC P t] : (isAgg t).run P w = .ok false w := by
  obtain ⟨h1, h2, _⟩ := h.out
  unfold aggB at h2
  cases e : P.underlying t with
  | none => rw [e] at h1; cases h1
  | some d => rw [e] at h2; cases d <;> simp_all [isAgg, run_underlying e]
theorem run_aggA {t n : Nat} [h : TyA P t n] : (isAgg t).run P w = .ok true w := by
  obtain ⟨h2, _⟩ := h.out
  unfold aggB at h2
  cases e : P.underlying t with
  | none => rw [e] at h2; cases h2
  | some d => rw [e] at h2; cases d <;> simp_all [isAgg, run_underlying e]
theorem run_loadC {t : Nat} [TyC P t] {a : Addr} {v : Value} (h : w.cell? a = some v) : (loadVar t a).run P w = .ok v w := by
  simp [loadVar, run_aggC, h]
theorem run_loadA {t n : Nat} [TyA P t n] {a : Addr} {xs : List Value} (hn : xs.length = n) (h : ∀ i v, xs[i]? = some v → w.cell? (a.add i) = some v) : (loadVar t a).run P w = .ok (.agg xs.toArray) w := by
  have := run_loadCells_list (P := P) w a xs h
  subst hn
  simp [loadVar, run_aggA, run_sizeA, this]
end

inductive Parts (Γ : Env) : List (Nat × Operand) → List (Nat × Value) → Prop
  | nil : Parts Γ [] []
  | cons {i : Nat} {x : Operand} {v : Value} {r : List (Nat × Operand)} {r' : List (Nat × Value)} (h : ev Γ x = some v) (hs : Parts Γ r r') : Parts Γ ((i, x) :: r) ((i, v) :: r')
theorem Parts.map {N : Nat} {a : Act} {Γ : Env} {parts : Array (Nat × Operand)} {ps : List (Nat × Value)} (hp : Parts Γ parts.toList ps) (ha : Fr N a Γ) : (parts.map fun (i, x) => (i, a.eval x)) = ps.toArray := by
  obtain ⟨l⟩ := parts
  simp only at hp
  simp only [List.map_toArray]
  congr 1
  induction hp with
  | nil => rfl
  | cons h hs ih => simp [ha.ev h, ih]
inductive Evs (Γ : Env) : List Operand → List Value → Prop
  | nil : Evs Γ [] []
  | cons {x : Operand} {v : Value} {r : List Operand} {r' : List Value} (h : ev Γ x = some v) (hs : Evs Γ r r') : Evs Γ (x :: r) (v :: r')
theorem Evs.map {N : Nat} {a : Act} {Γ : Env} {xs : List Operand} {vs : List Value} (hp : Evs Γ xs vs) (ha : Fr N a Γ) : (xs.map a.eval) = vs := by
  induction hp with
  | nil => rfl
  | cons h hs ih => simp [ha.ev h, ih]
theorem run_eql_nilp {P : Program} {w : World} {t e : TypeId} (h : P.underlying t = some (.pointer e)) (p : Option Addr) : (binOp .eql t (.pointer p) (.pointer none)).run P w = .ok (.bool p.isNone) w :=
  run_eql_pointer_nil w t p (by rw [h]; simp [Program.pointee, h])
theorem run_neq_nilp {P : Program} {w : World} {t e : TypeId} (h : P.underlying t = some (.pointer e)) (p : Option Addr) : (binOp .neq t (.pointer p) (.pointer none)).run P w = .ok (.bool (!p.isNone)) w :=
  run_neq_pointer_nil w t p (by rw [h]; simp [Program.pointee, h])

inductive Fills (place : Nat → Option (Nat × Nat)) : List Value → List (Nat × Value) → List Value → Prop
  | nil {cs : List Value} : Fills place cs [] cs
  | one {i off : Nat} {v : Value} {cs cs1 cs2 : List Value} {r : List (Nat × Value)} (hp : place i = some (off, 1)) (h1 : v.oneCell' = true) (hs : LSet cs off v cs1) (h : Fills place cs1 r cs2) : Fills place cs ((i, v) :: r) cs2
  | agg {i off n : Nat} {xs cs cs1 cs2 : List Value} {r : List (Nat × Value)} (hp : place i = some (off, n)) (hn : Nat.beq xs.length n = true) (hs : LPut cs off xs cs1) (h : Fills place cs1 r cs2) : Fills place cs ((i, .agg xs.toArray) :: r) cs2
theorem foldl_set (xs : List Value) : ∀ (off k : Nat) (cs : Array Value), off + k + xs.length ≤ cs.size →
    ((xs.zipIdx k).foldl (fun cs (x : Value × Nat) => cs.setIfInBounds (off + x.2) x.1) cs) = (cs.toList.take (off + k) ++ xs ++ cs.toList.drop (off + k + xs.length)).toArray := by
  induction xs with
  | nil => intro off k cs _; simp
  | cons x xs ih =>
    intro off k cs h
    simp only [List.length_cons] at h
    simp only [List.zipIdx_cons, List.foldl_cons]
    rw [ih off (k + 1) _ (by simp; omega)]
    congr 1
    have e := list_seg_step cs.toList (off + k) x xs (by simp; omega)
    simpa [Array.toList_setIfInBounds, Nat.add_assoc] using e
theorem fill_step {place : Nat → Option (Nat × Nat)} {i off : Nat} {cs cs1 : Array Value} {v : Value} {xs : List Value} {r : List (Nat × Value)} (hv : v.cells = xs.toArray) (hp : place i = some (off, xs.length)) (hle : off + xs.length ≤ cs.size)
    (h1 : (cs.toList.take off ++ xs ++ cs.toList.drop (off + xs.length)).toArray = cs1) : Instr.fill place cs ((i, v) :: r) = Instr.fill place cs1 r := by
  simp only [Instr.fill, hp, hv]
  have : ¬ (off + xs.length > cs.size) := by omega
  simp [this]
  have e := foldl_set xs off 0 cs (by omega)
  simp only [Nat.add_zero] at e
  rw [← h1, ← e]
theorem fill_of {cs cs' : List Value} {ps : List (Nat × Value)} {place : Nat → Option (Nat × Nat)} (h : Fills place cs ps cs') : Instr.fill place cs.toArray ps = some cs'.toArray := by
  induction h with
  | nil => rfl
  | @one i off v cs cs1 cs2 r hp h1 hset h ih =>
    obtain ⟨hlt, hset⟩ := hset.out
    rw [fill_step (v := v) (xs := [v]) (cs1 := cs1.toArray) (by cases v <;> simp_all [Value.cells, Value.oneCell']) hp (by simp; omega) ?_, ih]
    rw [← hset]
    simp only [List.length_singleton]
    rw [List.set_eq_take_append_cons_drop]
    simp [hlt]
  | @agg i off n xs cs cs1 cs2 r hp hn hput h ih =>
    have hn : xs.length = n := Nat.eq_of_beq_eq_true hn
    obtain ⟨hle, hput⟩ := hput.out
    rw [fill_step (v := .agg xs.toArray) (xs := xs) (cs1 := cs1.toArray) rfl (by rw [hp, hn]) (by simpa using hle) (by rw [← hput]), ih]
inductive LApp : List Value → List Value → List Value → Prop
  | nil {l : List Value} : LApp [] l l
  | cons {x : Value} {xs l r : List Value} (h : LApp xs l r) : LApp (x :: xs) l (x :: r)
theorem LApp.out {xs l r : List Value} (h : LApp xs l r) : r = xs ++ l := by
  induction h with
  | nil => rfl
  | cons h ih => rw [ih]; rfl
inductive CatP (sz : Nat) : Nat → List (Nat × Value) → List Value → Prop
  | nil {i : Nat} : CatP sz i [] []
  | one {i : Nat} {v : Value} {r : List (Nat × Value)} {cs : List Value} (h1 : v.oneCell' = true) (hs : Nat.beq sz 1 = true) (h : CatP sz (i + 1) r cs) : CatP sz i ((i, v) :: r) (v :: cs)
  | agg {i : Nat} {xs : List Value} {r : List (Nat × Value)} {cs ys : List Value} (hs : Nat.beq xs.length sz = true) (h : CatP sz (i + 1) r cs) (ha : LApp xs cs ys) : CatP sz i ((i, .agg xs.toArray) :: r) ys
theorem CatP.fill {sz i : Nat} {ps : List (Nat × Value)} {cs : List Value} (h : CatP sz i ps cs) : ∀ (pre rest : List Value), pre.length = i * sz → rest.length = ps.length * sz →
    Instr.fill (fun j => some (j * sz, sz)) (pre ++ rest).toArray ps = some (pre ++ cs).toArray := by
  induction h with
  | nil => intro pre rest h1 h2; simp at h2; subst h2; rfl
  | @one i v r cs h1 hs h ih =>
    intro pre rest hp hr
    have := Nat.eq_of_beq_eq_true hs
    subst this
    simp at hp hr
    obtain ⟨y, rest, rfl⟩ := List.exists_cons_of_length_eq_add_one hr
    rw [fill_step (v := v) (xs := [v]) (off := i * 1) (cs1 := ((pre ++ [v]) ++ rest).toArray) (by cases v <;> simp_all [Value.cells, Value.oneCell']) rfl (by simp; omega) ?_, ih (pre ++ [v]) rest (by simp; omega) (by simpa using hr)]
    · simp
    · simp [← hp]
  | @agg i xs r cs ys hs h ha ih =>
    intro pre rest hp hr
    have hx := Nat.eq_of_beq_eq_true hs
    have hr' : rest.length = r.length * sz + sz := by rw [hr, List.length_cons, Nat.succ_mul]
    rw [fill_step (v := .agg xs.toArray) (xs := xs) (off := i * sz) (cs1 := ((pre ++ xs) ++ rest.drop sz).toArray) rfl (by rw [hx]) (by simp; omega) ?_, ih (pre ++ xs) (rest.drop sz) (by simp [hp, hx, Nat.succ_mul]) (by simp; omega)]
    · rw [ha.out]; simp
    · rw [← hp, hx]; simp
theorem run_buildSlice_cat {P : Program} {w : World} {t e sz by_ n : Nat} {z : Value} {ps : List (Nat × Value)} {cs : List Value} [hd : TyD P t (.slice e)] [hs : TyS P e sz by_] [hz : TyZ P e z] (hn : Nat.beq ps.length n = true) (hb : Nat.ble (n * sz) 16777216 = true) (hF : CatP sz 0 ps cs) :
    (Instr.buildSlice t n ps.toArray).run P w = .ok (.slice (some ⟨w.heap.size, 0, none⟩) n n) (w.alloc (.cells cs.toArray e)) := by
  have hn := Nat.eq_of_beq_eq_true hn
  have hb' := Nat.le_of_ble_eq_true hb
  have key : ∀ zc : Array Value, Instr.fill (fun i => some (i * sz, sz)) ((Array.range (n * sz)).map (zc[· % zc.size]!)) ps = some cs.toArray := by
    intro zc
    have := hF.fill [] (((Array.range (n * sz)).map (zc[· % zc.size]!)).toList) (by simp) (by simp [hn])
    rw [List.nil_append, Array.toArray_toList, List.nil_append] at this
    exact this
  have hgt : ¬ (n * sz > 2 ^ 24) := by simp; omega
  simp only [Instr.buildSlice, Sem.run_bind, run_underlying hd.out, Result.andThen_ok, run_size (P := P) (t := e), if_neg hgt, pure_bind]
  by_cases h0 : n * sz = 0
  · have k := key #[]
    simp only [if_pos h0, pure_bind, k, newRow, Sem.run_bind, run_newObj, Result.andThen_ok, Sem.run_pure]
    rfl
  · simp [h0, run_zero (P := P) (t := e), key, newRow]
def placesB (P : Program) (t : Nat) : Option (List (Nat × Nat) × Value) :=
  match P.info? t, P.underlying t with
  | some it, some (.struct fields) => match it.zero, fields.toList.mapM (fun f => (P.info? f.type).map fun i => (f.offset, i.size)) with
    | some z, some pl => some (pl, z)
    | _, _ => none
  | _, _ => none
class TyP (P : Program) (t : Nat) (pl : outParam (List (Nat × Nat))) (z : outParam (List Value)) : Prop where
  out : placesB P t = some (pl, .agg z.toArray)
theorem run_build_struct {P : Program} {w : World} {t : Nat} {pl : List (Nat × Nat)} {z cs : List Value} {ps : List (Nat × Value)} [h : TyP P t pl z] (hF : Fills (pl.toArray[·]?) z ps cs) : (Instr.build t ps.toArray).run P w = .ok (.agg cs.toArray) w := by
  refine run_build w t _ _ ?_
  have h := h.out
  unfold placesB at h
  unfold Program.built
  split at h <;> try cases h
  rename_i it fields e1 e2
  split at h <;> try cases h
  rename_i z' pl' e3 e4
  simp only [e1, e2, e3, e4]
  simpa [Value.cells] using fill_of hF
theorem run_build_array {P : Program} {w : World} {t n e sz by_ : Nat} {z cs : List Value} {ps : List (Nat × Value)} [hd : TyD P t (.array n e)] [hs : TyS P e sz by_] [hz : TyZ P t (.agg z.toArray)] (hF : Fills (fun i => some (i * sz, sz)) z ps cs) : (Instr.build t ps.toArray).run P w = .ok (.agg cs.toArray) w := by
  refine run_build w t _ _ ?_
  have h1 := hz.out
  have h2 := hs.out
  unfold Program.built
  cases e1 : P.info? t with
  | none => rw [e1] at h1; cases h1
  | some it =>
    cases e2 : P.info? e with
    | none => rw [e2] at h2; cases h2
    | some ie =>
      rw [e1] at h1; rw [e2] at h2
      simp at h1 h2
      simp only [hd.out, h1, e2, h2.1]
      simpa [Value.cells] using fill_of hF
inductive Md where
  | seq
  | quiet
  | mix (D : World → Prop)
def Wl (l : List Oper) (P : Program) (md : Md) (ops : Array Oper) (N : Nat) (Γ : Env) (C : World → Prop) (Q : Exit → Act → World → Prop) : Prop :=
  match md with
  | .seq => ∀ a w, Fr N a Γ → C w → wpList P ops Q l a w
  | .quiet => ∀ a, Fr N a Γ → wpQuiet P ops C (fun a' => ∀ w', C w' → Q .normal a' w') l a
  | .mix D => ∀ a w, Fr N a Γ → D w → C w → wpE P ops C (fun a' w' => Q .normal a' w') l a w
def St (c : Code) (P : Program) (N : Nat) (Γ : Env) (C : World → Prop) (Q : Exit → Act → World → Prop) : Prop := ∀ a w, Fr N a Γ → C w → c.wp P Q a w
def Gt (N : Nat) (e : Exit) (Γ : Env) (C : World → Prop) (Q : Exit → Act → World → Prop) : Prop := ∀ a w, Fr N a Γ → C w → Q e a w

section
variable {P : Program} {md : Md} {ops : Array Oper} {N : Nat} {rest l : List Oper} {Γ : Env} {C : World → Prop} {Q K : Exit → Act → World → Prop}

theorem Wl.nil (h : Gt N .normal Γ C Q) : Wl [] P .seq ops N Γ C Q := fun a w ha hw => h a w ha hw
theorem Wl.nilQ (h : Gt N .normal Γ C Q) : Wl [] P .quiet ops N Γ C Q := fun a ha w hw => h a w ha hw
theorem Wl.nilM {D : World → Prop} (h : Gt N .normal Γ D Q) : Wl [] P (.mix D) ops N Γ C Q := fun a w ha hd _ => h a w ha hd

theorem Wl.val {d : Nat} {op : Op} {ty : TypeId} {pos : String} {af : Array Edge} {v : Value} (hd : Nat.blt d N = true)
    (hr : ∀ a w, Fr N a Γ → C w → (execOp a.eval ⟨some d, op, ty, pos, af, none⟩).run P w = .ok (.value v) w)
    (h : Wl rest P md ops N ((d, v) :: Γ) C Q) : Wl (⟨some d, op, ty, pos, af, none⟩ :: rest) P md ops N Γ C Q := by
  cases md
  · intro a w ha hw
    refine wpList_plain rfl fun K hK => ?_
    simp only [Oper.wp, hr a w ha hw, Oper.upon]
    exact hK _ _ (h _ _ (ha.put hd v) hw)
  · intro a ha
    simp only [wpQuiet, Region.wanted, if_true]
    exact ⟨v, fun w hw => by simp [Oper.quietAt, hr a w ha hw, Oper.quietUpon], h _ (ha.put hd v)⟩
  · intro a w ha hD hw
    simp only [wpE, Region.wanted, if_true]
    split
    · simp only [Oper.wp, hr a w ha hw, Oper.upon]; exact ⟨hw, h _ _ (ha.put hd v) hD hw⟩
    · exact ⟨v, fun w' hw' => hr a w' ha hw', h _ _ (ha.put hd v) hD hw⟩

theorem Wl.eff {d : Option Nat} {op : Op} {ty : TypeId} {pos : String} {af : Array Edge}
    (hr : ∀ a w, Fr N a Γ → C w → ∃ v w', ((execOp a.eval ⟨d, op, ty, pos, af, none⟩).run P w = .ok (.value v) w' ∨ ((execOp a.eval ⟨d, op, ty, pos, af, none⟩).run P w = .ok .skip w' ∧ v = undef)) ∧
      wpList P ops Q rest (a.put d v) w') : Wl (⟨d, op, ty, pos, af, none⟩ :: rest) P .seq ops N Γ C Q := by
  intro a w ha hw
  obtain ⟨v, w', h1, h2⟩ := hr a w ha hw
  refine wpList_plain rfl fun K hK => ?_
  rcases h1 with h1 | ⟨h1, rfl⟩
  · simp only [Oper.wp, h1, Oper.upon]; exact hK _ _ h2
  · simp only [Oper.wp, h1, Oper.upon]; exact hK _ _ h2

theorem Wl.cls {C' : World → Prop} (hc : ∀ w, C w → C' w) (h : Wl l P .seq ops N Γ C' Q) : Wl l P .seq ops N Γ C Q := fun a w ha hw => h a w ha (hc w hw)
theorem Wl.reb {H' : List Blk} (h : ∀ w, C w → Own w H' ∧ Apart H' ∧ Wl l P .seq ops N Γ (Hp w H') Q) : Wl l P .seq ops N Γ C Q := fun a w ha hw => by
  obtain ⟨h1, h2, h3⟩ := h w hw
  exact h3 a w ha ⟨Upd.refl _ _, h1, h2⟩
theorem yielded_of {a : Act} (ha : Fr N a Γ) {j t : Nat} {b : Bool} (hj : (ops[j]?).bind (·.dst) = some t) (ht : look Γ t = some (.bool b)) : yielded ops a.tmps j = some b := by
  simp [yielded, hj, ha.get t _ ht]
theorem Wl.on {d : Option Nat} {op : Op} {ty : TypeId} {pos : String} {af : Array Edge} {j t : Nat} {want b : Bool} (hj : (ops[j]?).bind (·.dst) = some t) (ht : look Γ t = some (.bool b)) (hb : b = want)
    (h : Wl (⟨d, op, ty, pos, af, none⟩ :: rest) P md ops N Γ C Q) : Wl (⟨d, op, ty, pos, af, some (j, want)⟩ :: rest) P md ops N Γ C Q := by
  subst hb
  cases md
  · intro a w ha hw
    have hy := yielded_of (ops := ops) ha hj ht
    have h := h a w ha hw
    simp only [wpList, Region.wanted, if_true] at h
    simp only [wpList, Region.wanted, hy, beq_self_eq_true, if_true]
    exact h
  · intro a ha
    have hy := yielded_of (ops := ops) ha hj ht
    have h := h a ha
    simp only [wpQuiet, Region.wanted, if_true] at h
    simp only [wpQuiet, Region.wanted, hy, beq_self_eq_true, if_true]
    exact h
  · intro a w ha hD hw
    have hy := yielded_of (ops := ops) ha hj ht
    have h := h a w ha hD hw
    simp only [wpE, Region.wanted, if_true] at h
    simp only [wpE, Region.wanted, hy, beq_self_eq_true, if_true]
    exact h
theorem Wl.off {d : Nat} {op : Op} {ty : TypeId} {pos : String} {af : Array Edge} {j t : Nat} {want b : Bool} (hd : Nat.blt d N = true) (hj : (ops[j]?).bind (·.dst) = some t) (ht : look Γ t = some (.bool b)) (hb : b = !want)
    (h : Wl rest P md ops N ((d, undef) :: Γ) C Q) : Wl (⟨some d, op, ty, pos, af, some (j, want)⟩ :: rest) P md ops N Γ C Q := by
  subst hb
  cases md
  · intro a w ha hw
    have hy := yielded_of (ops := ops) ha hj ht
    have e : ((some (!want) : Option Bool) == some want) = false := by cases want <;> rfl
    simp only [wpList, Region.wanted, hy, e]
    exact h _ _ (ha.put hd _) hw
  · intro a ha
    have hy := yielded_of (ops := ops) ha hj ht
    have e : ((some (!want) : Option Bool) == some want) = false := by cases want <;> rfl
    simp only [wpQuiet, Region.wanted, hy, e]
    exact h _ (ha.put hd _)
  · intro a w ha hD hw
    have hy := yielded_of (ops := ops) ha hj ht
    have e : ((some (!want) : Option Bool) == some want) = false := by cases want <;> rfl
    simp only [wpE, Region.wanted, hy, e]
    exact h _ _ (ha.put hd _) hD hw
theorem Wl.offU {d : Nat} {op : Op} {ty : TypeId} {pos : String} {af : Array Edge} {j t : Nat} {want : Bool} (hd : Nat.blt d N = true) (hj : (ops[j]?).bind (·.dst) = some t) (ht : look Γ t = some undef)
    (h : Wl rest P md ops N ((d, undef) :: Γ) C Q) : Wl (⟨some d, op, ty, pos, af, some (j, want)⟩ :: rest) P md ops N Γ C Q := by
  have e : ((none : Option Bool) == some want) = false := by cases want <;> rfl
  cases md
  · intro a w ha hw
    have hy : yielded ops a.tmps j = none := by simp [yielded, hj, ha.get t _ ht, undef]
    simp only [wpList, Region.wanted, hy, e]
    exact h _ _ (ha.put hd _) hw
  · intro a ha
    have hy : yielded ops a.tmps j = none := by simp [yielded, hj, ha.get t _ ht, undef]
    simp only [wpQuiet, Region.wanted, hy, e]
    exact h _ (ha.put hd _)
  · intro a w ha hD hw
    have hy : yielded ops a.tmps j = none := by simp [yielded, hj, ha.get t _ ht, undef]
    simp only [wpE, Region.wanted, hy, e]
    exact h _ _ (ha.put hd _) hD hw
theorem Wl.splitP {d : Option Nat} {op : Op} {ty : TypeId} {pos : String} {af : Array Edge} {j t : Nat} {want : Bool} {p : Prop} {_i : Decidable p} (_hj : (ops[j]?).bind (·.dst) = some t) (_ht : look Γ t = some (.bool (decide p)))
    (h1 : p → decide p = true → Wl (⟨d, op, ty, pos, af, some (j, want)⟩ :: rest) P md ops N Γ C Q) (h2 : ¬ p → decide p = false → Wl (⟨d, op, ty, pos, af, some (j, want)⟩ :: rest) P md ops N Γ C Q) :
    Wl (⟨d, op, ty, pos, af, some (j, want)⟩ :: rest) P md ops N Γ C Q := by
  by_cases hp : p
  · exact h1 hp (decide_eq_true hp)
  · exact h2 hp (decide_eq_false hp)

section ops
variable {d : Nat} {ty : TypeId} {pos : String} {af : Array Edge}
theorem Wl.move {x : Operand} {v : Value} (hd : Nat.blt d N = true) (hx : ev Γ x = some v) (h : Wl rest P md ops N ((d, v) :: Γ) C Q) : Wl (⟨some d, .move x, ty, pos, af, none⟩ :: rest) P md ops N Γ C Q :=
  Wl.val hd (fun a w ha _ => by simp [execOp, ha.ev hx]) h
theorem Wl.assign {x : Operand} {v : Value} (hd : Nat.blt d N = true) (hx : ev Γ x = some v) (h : Wl rest P md ops N ((d, v) :: Γ) C Q) : Wl (⟨some d, .assign x, ty, pos, af, none⟩ :: rest) P md ops N Γ C Q :=
  Wl.val hd (fun a w ha _ => by simp [execOp, ha.ev hx]) h
theorem Wl.pickT {c x y : Operand} {b : Bool} {v : Value} (hd : Nat.blt d N = true) (hc : ev Γ c = some (.bool b)) (hb : b = true) (hx : ev Γ x = some v) (h : Wl rest P md ops N ((d, v) :: Γ) C Q) :
    Wl (⟨some d, .pick c x y, ty, pos, af, none⟩ :: rest) P md ops N Γ C Q :=
  Wl.val hd (fun a w ha _ => by simp [execOp, ha.ev hc, ha.ev hx, asBool, hb]) h
theorem Wl.pickF {c x y : Operand} {b : Bool} {v : Value} (hd : Nat.blt d N = true) (hc : ev Γ c = some (.bool b)) (hb : b = false) (hy : ev Γ y = some v) (h : Wl rest P md ops N ((d, v) :: Γ) C Q) :
    Wl (⟨some d, .pick c x y, ty, pos, af, none⟩ :: rest) P md ops N Γ C Q :=
  Wl.val hd (fun a w ha _ => by simp [execOp, ha.ev hc, ha.ev hy, asBool, hb]) h
theorem Wl.not {t : TypeId} {x : Operand} {b : Bool} (hd : Nat.blt d N = true) (hx : ev Γ x = some (.bool b)) (h : Wl rest P md ops N ((d, .bool (!b)) :: Γ) C Q) : Wl (⟨some d, .unOp .not t x, ty, pos, af, none⟩ :: rest) P md ops N Γ C Q :=
  Wl.val hd (fun a w ha _ => by simp [execOp, ha.ev hx, Op.unary]) h
theorem Wl.neg {t : TypeId} {x : Operand} {k : IntKind} {n : Int} (hd : Nat.blt d N = true) (hx : ev Γ x = some (.int k n)) (h : Wl rest P md ops N ((d, .int k (k.wrap (0 - n))) :: Γ) C Q) : Wl (⟨some d, .unOp .neg t x, ty, pos, af, none⟩ :: rest) P md ops N Γ C Q :=
  Wl.val hd (fun a w ha _ => by simp [execOp, ha.ev hx, Op.unary, Op.intArith]) h
theorem Wl.compl {t : TypeId} {x : Operand} {k : IntKind} {n : Int} (hd : Nat.blt d N = true) (hx : ev Γ x = some (.int k n)) (h : Wl rest P md ops N ((d, .int k (bits .xor k (if k.signed then -1 else k.max) n)) :: Γ) C Q) : Wl (⟨some d, .unOp .xor t x, ty, pos, af, none⟩ :: rest) P md ops N Γ C Q :=
  Wl.val hd (fun a w ha _ => by simp only [execOp, ha.ev hx, Op.unary]; rfl) h
section bin
variable {t u : TypeId} {x y : Operand} {k : IntKind} {m n : Int}
theorem Wl.add (hd : Nat.blt d N = true) (hx : ev Γ x = some (.int k m)) (hy : ev Γ y = some (.int k n)) (h : Wl rest P md ops N ((d, .int k (k.wrap (m + n))) :: Γ) C Q) : Wl (⟨some d, .binOp .add t x y u, ty, pos, af, none⟩ :: rest) P md ops N Γ C Q :=
  Wl.val hd (fun a w ha _ => by simp [execOp, ha.ev hx, ha.ev hy, eqGuard_add, binOp_add, Op.intArith]) h
theorem Wl.sub' (hd : Nat.blt d N = true) (hx : ev Γ x = some (.int k m)) (hy : ev Γ y = some (.int k n)) (h : Wl rest P md ops N ((d, .int k (k.wrap (m - n))) :: Γ) C Q) : Wl (⟨some d, .binOp .sub t x y u, ty, pos, af, none⟩ :: rest) P md ops N Γ C Q :=
  Wl.val hd (fun a w ha _ => by simp [execOp, ha.ev hx, ha.ev hy, eqGuard_sub, binOp_sub, Op.intArith]) h
theorem Wl.mul (hd : Nat.blt d N = true) (hx : ev Γ x = some (.int k m)) (hy : ev Γ y = some (.int k n)) (h : Wl rest P md ops N ((d, .int k (k.wrap (m * n))) :: Γ) C Q) : Wl (⟨some d, .binOp .mul t x y u, ty, pos, af, none⟩ :: rest) P md ops N Γ C Q :=
  Wl.val hd (fun a w ha _ => by simp [execOp, ha.ev hx, ha.ev hy, eqGuard_mul, binOp_mul, Op.intArith]) h
theorem Wl.addI (hd : Nat.blt d N = true) (hx : ev Γ x = some (.int .i64 m)) (hy : ev Γ y = some (.int .i64 n)) (hb : -9223372036854775808 ≤ m + n ∧ m + n ≤ 9223372036854775807) (h : Wl rest P md ops N ((d, .int .i64 (m + n)) :: Γ) C Q) : Wl (⟨some d, .binOp .add t x y u, ty, pos, af, none⟩ :: rest) P md ops N Γ C Q :=
  Wl.add hd hx hy (by rw [IntWalk.i64_in _ hb]; exact h)
theorem Wl.subI (hd : Nat.blt d N = true) (hx : ev Γ x = some (.int .i64 m)) (hy : ev Γ y = some (.int .i64 n)) (hb : -9223372036854775808 ≤ m - n ∧ m - n ≤ 9223372036854775807) (h : Wl rest P md ops N ((d, .int .i64 (m - n)) :: Γ) C Q) : Wl (⟨some d, .binOp .sub t x y u, ty, pos, af, none⟩ :: rest) P md ops N Γ C Q :=
  Wl.sub' hd hx hy (by rw [IntWalk.i64_in _ hb]; exact h)
theorem Wl.mulI (hd : Nat.blt d N = true) (hx : ev Γ x = some (.int .i64 m)) (hy : ev Γ y = some (.int .i64 n)) (hb : -9223372036854775808 ≤ m * n ∧ m * n ≤ 9223372036854775807) (h : Wl rest P md ops N ((d, .int .i64 (m * n)) :: Γ) C Q) : Wl (⟨some d, .binOp .mul t x y u, ty, pos, af, none⟩ :: rest) P md ops N Γ C Q :=
  Wl.mul hd hx hy (by rw [IntWalk.i64_in _ hb]; exact h)
theorem Wl.addU (hd : Nat.blt d N = true) (hx : ev Γ x = some (.int .u64 m)) (hy : ev Γ y = some (.int .u64 n)) (hb : 0 ≤ m + n ∧ m + n ≤ 18446744073709551615) (h : Wl rest P md ops N ((d, .int .u64 (m + n)) :: Γ) C Q) : Wl (⟨some d, .binOp .add t x y u, ty, pos, af, none⟩ :: rest) P md ops N Γ C Q :=
  Wl.add hd hx hy (by rw [IntWalk.u64_in _ hb]; exact h)
theorem Wl.quo (hd : Nat.blt d N = true) (hx : ev Γ x = some (.int k m)) (hy : ev Γ y = some (.int k n)) (hn : n ≠ 0) (h : Wl rest P md ops N ((d, .int k (k.wrap (m.tdiv n))) :: Γ) C Q) : Wl (⟨some d, .binOp .quo t x y u, ty, pos, af, none⟩ :: rest) P md ops N Γ C Q :=
  Wl.val hd (fun a w ha _ => by simp [execOp, ha.ev hx, ha.ev hy, eqGuard_quo, binOp_quo, Op.intDiv, hn]) h
theorem Wl.rem (hd : Nat.blt d N = true) (hx : ev Γ x = some (.int k m)) (hy : ev Γ y = some (.int k n)) (hn : n ≠ 0) (h : Wl rest P md ops N ((d, .int k (m.tmod n)) :: Γ) C Q) : Wl (⟨some d, .binOp .rem t x y u, ty, pos, af, none⟩ :: rest) P md ops N Γ C Q :=
  Wl.val hd (fun a w ha _ => by simp [execOp, ha.ev hx, ha.ev hy, eqGuard_rem, binOp_rem, Op.intDiv, hn]) h
theorem Wl.and (hd : Nat.blt d N = true) (hx : ev Γ x = some (.int k m)) (hy : ev Γ y = some (.int k n)) (h : Wl rest P md ops N ((d, .int k (bits .and k m n)) :: Γ) C Q) : Wl (⟨some d, .binOp .and t x y u, ty, pos, af, none⟩ :: rest) P md ops N Γ C Q :=
  Wl.val hd (fun a w ha _ => by simp [execOp, ha.ev hx, ha.ev hy, eqGuard_and, binOp_and, intBits_and]) h
theorem Wl.or (hd : Nat.blt d N = true) (hx : ev Γ x = some (.int k m)) (hy : ev Γ y = some (.int k n)) (h : Wl rest P md ops N ((d, .int k (bits .or k m n)) :: Γ) C Q) : Wl (⟨some d, .binOp .or t x y u, ty, pos, af, none⟩ :: rest) P md ops N Γ C Q :=
  Wl.val hd (fun a w ha _ => by simp [execOp, ha.ev hx, ha.ev hy, eqGuard_or, binOp_or, intBits_or]) h
theorem Wl.xor (hd : Nat.blt d N = true) (hx : ev Γ x = some (.int k m)) (hy : ev Γ y = some (.int k n)) (h : Wl rest P md ops N ((d, .int k (bits .xor k m n)) :: Γ) C Q) : Wl (⟨some d, .binOp .xor t x y u, ty, pos, af, none⟩ :: rest) P md ops N Γ C Q :=
  Wl.val hd (fun a w ha _ => by simp [execOp, ha.ev hx, ha.ev hy, eqGuard_xor, binOp_xor, intBits_xor]) h
theorem Wl.andNot (hd : Nat.blt d N = true) (hx : ev Γ x = some (.int k m)) (hy : ev Γ y = some (.int k n)) (h : Wl rest P md ops N ((d, .int k (bits .andNot k m n)) :: Γ) C Q) : Wl (⟨some d, .binOp .andNot t x y u, ty, pos, af, none⟩ :: rest) P md ops N Γ C Q :=
  Wl.val hd (fun a w ha _ => by simp [execOp, ha.ev hx, ha.ev hy, eqGuard_andNot, binOp_andNot, intBits_andNot]) h
theorem Wl.shl {k' : IntKind} (hd : Nat.blt d N = true) (hx : ev Γ x = some (.int k m)) (hy : ev Γ y = some (.int k' n)) (hn : 0 ≤ n) (h : Wl rest P md ops N ((d, .int k (k.wrap (m * 2 ^ min n.toNat k.bits))) :: Γ) C Q) : Wl (⟨some d, .binOp .shl t x y u, ty, pos, af, none⟩ :: rest) P md ops N Γ C Q :=
  Wl.val hd (fun a w ha _ => by simp [execOp, ha.ev hx, ha.ev hy, eqGuard_shl, binOp_shl, Op.shift, show ¬ n < 0 by omega]) h
theorem Wl.shr {k' : IntKind} (hd : Nat.blt d N = true) (hx : ev Γ x = some (.int k m)) (hy : ev Γ y = some (.int k' n)) (hn : 0 ≤ n) (h : Wl rest P md ops N ((d, .int k (m.fdiv (2 ^ min n.toNat k.bits))) :: Γ) C Q) : Wl (⟨some d, .binOp .shr t x y u, ty, pos, af, none⟩ :: rest) P md ops N Γ C Q :=
  Wl.val hd (fun a w ha _ => by simp [execOp, ha.ev hx, ha.ev hy, eqGuard_shr, binOp_shr, Op.shift, show ¬ n < 0 by omega]) h
theorem Wl.eql (hd : Nat.blt d N = true) (hx : ev Γ x = some (.int k m)) (hy : ev Γ y = some (.int k n)) (h : Wl rest P md ops N ((d, .bool (decide (m = n))) :: Γ) C Q) : Wl (⟨some d, .binOp .eql t x y u, ty, pos, af, none⟩ :: rest) P md ops N Γ C Q :=
  Wl.val hd (fun a w ha _ => by simp only [execOp, ha.ev hx, ha.ev hy, eqGuard_at_int, binOp_eql, pure_bind]; simp; rfl) h
theorem Wl.neq (hd : Nat.blt d N = true) (hx : ev Γ x = some (.int k m)) (hy : ev Γ y = some (.int k n)) (h : Wl rest P md ops N ((d, .bool (decide (m ≠ n))) :: Γ) C Q) : Wl (⟨some d, .binOp .neq t x y u, ty, pos, af, none⟩ :: rest) P md ops N Γ C Q :=
  Wl.val hd (fun a w ha _ => by simp only [execOp, ha.ev hx, ha.ev hy, eqGuard_at_int, binOp_neq, pure_bind]; simp [bne]; rfl) h
theorem Wl.eqlIs (hd : Nat.blt d N = true) (hx : ev Γ x = some (.int k m)) (hy : ev Γ y = some (.int k n)) (e : m = n) (h : Wl rest P md ops N ((d, .bool true) :: Γ) C Q) : Wl (⟨some d, .binOp .eql t x y u, ty, pos, af, none⟩ :: rest) P md ops N Γ C Q :=
  Wl.eql hd hx hy (by rw [decide_eq_true e]; exact h)
theorem Wl.neqIs (hd : Nat.blt d N = true) (hx : ev Γ x = some (.int k m)) (hy : ev Γ y = some (.int k n)) (e : m = n) (h : Wl rest P md ops N ((d, .bool false) :: Γ) C Q) : Wl (⟨some d, .binOp .neq t x y u, ty, pos, af, none⟩ :: rest) P md ops N Γ C Q :=
  Wl.neq hd hx hy (by rw [decide_eq_false (fun h => h e)]; exact h)
theorem Wl.lss (hd : Nat.blt d N = true) (hx : ev Γ x = some (.int k m)) (hy : ev Γ y = some (.int k n)) (h : Wl rest P md ops N ((d, .bool (decide (m < n))) :: Γ) C Q) : Wl (⟨some d, .binOp .lss t x y u, ty, pos, af, none⟩ :: rest) P md ops N Γ C Q :=
  Wl.val hd (fun a w ha _ => by simp [execOp, ha.ev hx, ha.ev hy, eqGuard_lss, binOp_lss]) h
theorem Wl.leq (hd : Nat.blt d N = true) (hx : ev Γ x = some (.int k m)) (hy : ev Γ y = some (.int k n)) (h : Wl rest P md ops N ((d, .bool (decide (m ≤ n))) :: Γ) C Q) : Wl (⟨some d, .binOp .leq t x y u, ty, pos, af, none⟩ :: rest) P md ops N Γ C Q :=
  Wl.val hd (fun a w ha _ => by simp [execOp, ha.ev hx, ha.ev hy, eqGuard_leq, binOp_leq]) h
theorem Wl.gtr (hd : Nat.blt d N = true) (hx : ev Γ x = some (.int k m)) (hy : ev Γ y = some (.int k n)) (h : Wl rest P md ops N ((d, .bool (decide (n < m))) :: Γ) C Q) : Wl (⟨some d, .binOp .gtr t x y u, ty, pos, af, none⟩ :: rest) P md ops N Γ C Q :=
  Wl.val hd (fun a w ha _ => by simp [execOp, ha.ev hx, ha.ev hy, eqGuard_gtr, binOp_gtr]) h
theorem Wl.geq (hd : Nat.blt d N = true) (hx : ev Γ x = some (.int k m)) (hy : ev Γ y = some (.int k n)) (h : Wl rest P md ops N ((d, .bool (decide (n ≤ m))) :: Γ) C Q) : Wl (⟨some d, .binOp .geq t x y u, ty, pos, af, none⟩ :: rest) P md ops N Γ C Q :=
  Wl.val hd (fun a w ha _ => by simp [execOp, ha.ev hx, ha.ev hy, eqGuard_geq, binOp_geq]) h
theorem Wl.eqlPN {e : TypeId} [ht : TyD P t (.pointer e)] {a0 : Addr} (hd : Nat.blt d N = true) (hx : ev Γ x = some (.pointer (some a0))) (hy : ev Γ y = some (.pointer none)) (h : Wl rest P md ops N ((d, .bool false) :: Γ) C Q) : Wl (⟨some d, .binOp .eql t x y u, ty, pos, af, none⟩ :: rest) P md ops N Γ C Q :=
  Wl.val hd (fun a w ha _ => by simp only [execOp, ha.ev hx, ha.ev hy, eqGuard_at_pointer, pure_bind, Sem.run_bind, run_eql_nilp ht.out]; rfl) h
theorem Wl.neqPN {e : TypeId} [ht : TyD P t (.pointer e)] {a0 : Addr} (hd : Nat.blt d N = true) (hx : ev Γ x = some (.pointer (some a0))) (hy : ev Γ y = some (.pointer none)) (h : Wl rest P md ops N ((d, .bool true) :: Γ) C Q) : Wl (⟨some d, .binOp .neq t x y u, ty, pos, af, none⟩ :: rest) P md ops N Γ C Q :=
  Wl.val hd (fun a w ha _ => by simp only [execOp, ha.ev hx, ha.ev hy, eqGuard_at_pointer, pure_bind, Sem.run_bind, run_neq_nilp ht.out]; rfl) h
end bin

theorem Wl.convI {s t : TypeId} {x : Operand} {k k' : IntKind} {n : Int} [hs : TyD P s (.int k)] [ht : TyD P t (.int k')] (hd : Nat.blt d N = true) (hx : ev Γ x = some (.int k n)) (h : Wl rest P md ops N ((d, .int k' (k'.wrap n)) :: Γ) C Q) :
    Wl (⟨some d, .convert s t x, ty, pos, af, none⟩ :: rest) P md ops N Γ C Q :=
  Wl.val hd (fun a w ha _ => by simp [execOp, ha.ev hx, convert, run_underlying hs.out, run_underlying ht.out, Conv.intToInt]) h
theorem Wl.convI64 {s t : TypeId} {x : Operand} {k : IntKind} {n : Int} [hs : TyD P s (.int k)] [ht : TyD P t (.int .i64)] (hd : Nat.blt d N = true) (hx : ev Γ x = some (.int k n)) (hb : -9223372036854775808 ≤ n ∧ n ≤ 9223372036854775807) (h : Wl rest P md ops N ((d, .int .i64 n) :: Γ) C Q) :
    Wl (⟨some d, .convert s t x, ty, pos, af, none⟩ :: rest) P md ops N Γ C Q := Wl.convI hd hx (by rw [IntWalk.i64_in _ hb]; exact h)
theorem Wl.convU64 {s t : TypeId} {x : Operand} {k : IntKind} {n : Int} [hs : TyD P s (.int k)] [ht : TyD P t (.int .u64)] (hd : Nat.blt d N = true) (hx : ev Γ x = some (.int k n)) (hb : 0 ≤ n ∧ n ≤ 18446744073709551615) (h : Wl rest P md ops N ((d, .int .u64 n) :: Γ) C Q) :
    Wl (⟨some d, .convert s t x, ty, pos, af, none⟩ :: rest) P md ops N Γ C Q := Wl.convI hd hx (by rw [IntWalk.u64_in _ hb]; exact h)
theorem Wl.convU32 {s t : TypeId} {x : Operand} {k : IntKind} {n : Int} [hs : TyD P s (.int k)] [ht : TyD P t (.int .u32)] (hd : Nat.blt d N = true) (hx : ev Γ x = some (.int k n)) (hb : 0 ≤ n ∧ n ≤ 4294967295) (h : Wl rest P md ops N ((d, .int .u32 n) :: Γ) C Q) :
    Wl (⟨some d, .convert s t x, ty, pos, af, none⟩ :: rest) P md ops N Γ C Q := Wl.convI hd hx (by rw [IntWalk.u32_in _ hb]; exact h)
theorem Wl.nilCheck {x : Operand} {p : Addr} (hd : Nat.blt d N = true) (hx : ev Γ x = some (.pointer (some p))) (h : Wl rest P md ops N ((d, .pointer (some p)) :: Γ) C Q) : Wl (⟨some d, .nilCheck x, ty, pos, af, none⟩ :: rest) P md ops N Γ C Q :=
  Wl.val hd (fun a w ha _ => by simp [execOp, ha.ev hx]) h
theorem Wl.extract {x : Operand} {i : Nat} {vs : List Value} {v : Value} (hd : Nat.blt d N = true) (hx : ev Γ x = some (.tuple vs.toArray)) (hi : vs[i]? = some v) (h : Wl rest P md ops N ((d, v) :: Γ) C Q) : Wl (⟨some d, .extract x i, ty, pos, af, none⟩ :: rest) P md ops N Γ C Q :=
  Wl.val hd (fun a w ha _ => by simp [execOp, ha.ev hx, Instr.extract, hi]) h
theorem Wl.fieldAddr0 {s i ft : Nat} [hf : Fld P s i 0 ft] {x : Operand} {a0 : Addr} (hd : Nat.blt d N = true) (hx : ev Γ x = some (.pointer (some a0))) (h : Wl rest P md ops N ((d, .pointer (some a0)) :: Γ) C Q) :
    Wl (⟨some d, .fieldAddr s x i, ty, pos, af, none⟩ :: rest) P md ops N Γ C Q :=
  Wl.val hd (fun a w ha _ => by
    have h := hf.out
    unfold fieldB at h
    split at h <;> try cases h
    rename_i fs hfs
    cases e : fs[i]? with
    | none => rw [e] at h; cases h
    | some f =>
      rw [e] at h; simp at h
      obtain ⟨h1, h2, h3⟩ := h
      have h3 : ¬ sizeB P f.type = 0 := fun e0 => by rw [e0] at h3; cases h3
      cases e2 : P.info? f.type with
      | none => simp [sizeB, e2] at h3
      | some inf =>
        have h4 : ¬ inf.size = 0 := by simpa [sizeB, e2] using h3
        simp [execOp, ha.ev hx, Instr.fieldAt, run_underlying hfs, e, Instr.sureAddr, fieldPlace, sizeOf, typeInfo, e2, h4, h1, Addr.add]) h
theorem Wl.fieldAddr {s i off ft : Nat} [hf : Fld P s i off ft] {x : Operand} {b o : Nat} (hd : Nat.blt d N = true) (hx : ev Γ x = some (.pointer (some ⟨b, o, none⟩))) (h : Wl rest P md ops N ((d, .pointer (some ⟨b, o + off, none⟩)) :: Γ) C Q) :
    Wl (⟨some d, .fieldAddr s x i, ty, pos, af, none⟩ :: rest) P md ops N Γ C Q :=
  Wl.val hd (fun a w ha _ => by
    have h := hf.out
    unfold fieldB at h
    split at h <;> try cases h
    rename_i fs hfs
    cases e : fs[i]? with
    | none => rw [e] at h; cases h
    | some f =>
      rw [e] at h; simp at h
      obtain ⟨h1, h2, h3⟩ := h
      have h3 : ¬ sizeB P f.type = 0 := fun e0 => by rw [e0] at h3; cases h3
      cases e2 : P.info? f.type with
      | none => simp [sizeB, e2] at h3
      | some inf =>
        have h4 : ¬ inf.size = 0 := by simpa [sizeB, e2] using h3
        simp [execOp, ha.ev hx, Instr.fieldAt, run_underlying hfs, e, Instr.sureAddr, fieldPlace, sizeOf, typeInfo, e2, h4, h1, Addr.add_lit]) h
theorem Wl.fieldAddrZ {s i off ft : Nat} [hf : Fld P s i off ft] {x : Operand} {b : Nat} (hd : Nat.blt d N = true) (hx : ev Γ x = some (.pointer (some ⟨b, 0, none⟩))) (h : Wl rest P md ops N ((d, .pointer (some ⟨b, off, none⟩)) :: Γ) C Q) :
    Wl (⟨some d, .fieldAddr s x i, ty, pos, af, none⟩ :: rest) P md ops N Γ C Q :=
  Wl.fieldAddr (o := 0) hd hx (by rw [Nat.zero_add]; exact h)
theorem Wl.len {t : TypeId} {e : TypeId} {x : Operand} {a0 : Option Addr} {n c : Nat} [ht : TyD P t (.slice e)] (hd : Nat.blt d N = true) (hx : ev Γ x = some (.slice a0 n c)) (h : Wl rest P md ops N ((d, .int .i64 (n : Int)) :: Γ) C Q) :
    Wl (⟨some d, .call { callee := .builtin .len, args := #[x], argTypes := #[t] }, ty, pos, af, none⟩ :: rest) P md ops N Γ C Q :=
  Wl.val hd (fun a w ha _ => by simp [execOp, resolve, invoke, builtin, Builtin.len_, ha.ev hx, run_underlying ht.out, goInt]) h
theorem Wl.loadF {t : TypeId} [TyC P t] {x : Operand} {a0 : Addr} {v : Value} (hd : Nat.blt d N = true) (hx : ev Γ x = some (.pointer (some a0))) (hc : ∀ w, C w → w.cell? a0 = some v) (h : Wl rest P md ops N ((d, v) :: Γ) C Q) :
    Wl (⟨some d, .load t x, ty, pos, af, none⟩ :: rest) P md ops N Γ C Q :=
  Wl.val hd (fun a w ha hw => by simp [execOp, ha.ev hx, Instr.loadAt, Instr.sureAddr, run_loadC (P := P) (t := t) (hc w hw)]) h
theorem Wl.loadH {w0 : World} {H : List Blk} {t bt : TypeId} [TyC P t] {x : Operand} {c i : Nat} {cs : List Value} {v : Value} (hd : Nat.blt d N = true) (hx : ev Γ x = some (.pointer (some ⟨c, i, none⟩)))
    (hm : (⟨c, cs, bt⟩ : Blk) ∈ H) (hi : cs[i]? = some v) (h : Wl rest P md ops N ((d, v) :: Γ) (Hp w0 H) Q) : Wl (⟨some d, .load t x, ty, pos, af, none⟩ :: rest) P md ops N Γ (Hp w0 H) Q :=
  Wl.loadF hd hx (fun _ hw => hw.cell hm hi) h
theorem Wl.loadO {w0 : World} {H : List Blk} {t : TypeId} [TyC P t] {x : Operand} {a0 : Addr} {v : Value} (hd : Nat.blt d N = true) (hx : ev Γ x = some (.pointer (some a0)))
    (hc : w0.cell? a0 = some v) (ho : Off H a0.block) (h : Wl rest P md ops N ((d, v) :: Γ) (Hp w0 H) Q) : Wl (⟨some d, .load t x, ty, pos, af, none⟩ :: rest) P md ops N Γ (Hp w0 H) Q :=
  Wl.loadF hd hx (fun _ hw => hw.old hc ho) h
theorem Wl.loadAF {t n : TypeId} [TyA P t n] {x : Operand} {a0 : Addr} {xs : List Value} (hd : Nat.blt d N = true) (hx : ev Γ x = some (.pointer (some a0))) (hn : xs.length = n) (hc : ∀ w, C w → ∀ i v, xs[i]? = some v → w.cell? (a0.add i) = some v)
    (h : Wl rest P md ops N ((d, .agg xs.toArray) :: Γ) C Q) : Wl (⟨some d, .load t x, ty, pos, af, none⟩ :: rest) P md ops N Γ C Q :=
  Wl.val hd (fun a w ha hw => by simp [execOp, ha.ev hx, Instr.loadAt, Instr.sureAddr, run_loadA (P := P) (t := t) hn (hc w hw)]) h
theorem addLit (b o n : Nat) : Addr.add ⟨b, o, none⟩ n = ⟨b, o + n, none⟩ := Addr.add_lit b o n
theorem Wl.loadAH {w0 : World} {H : List Blk} {t n bt : TypeId} [TyA P t n] {x : Operand} {c i : Nat} {cs xs : List Value} (hd : Nat.blt d N = true) (hx : ev Γ x = some (.pointer (some ⟨c, i, none⟩)))
    (hm : (⟨c, cs, bt⟩ : Blk) ∈ H) (hi' : LSub cs i n xs) (h : Wl rest P md ops N ((d, .agg xs.toArray) :: Γ) (Hp w0 H) Q) : Wl (⟨some d, .load t x, ty, pos, af, none⟩ :: rest) P md ops N Γ (Hp w0 H) Q :=
  have hi := hi'.out.1
  have hn := hi'.out.2
  Wl.loadAF hd hx hn (fun w hw j v hj => by
    rw [addLit]
    refine hw.cell hm ?_
    subst hi
    rw [List.getElem?_take] at hj
    split at hj
    · simpa [List.getElem?_drop] using hj
    · cases hj) h
theorem Wl.store {w0 : World} {H H' : List Blk} {t bt : TypeId} {b1 : Nat} [ht : TyS P t 1 b1] {x y : Operand} {c i : Nat} {cs cs' : List Value} {v : Value} (hx : ev Γ x = some (.pointer (some ⟨c, i, none⟩))) (hy : ev Γ y = some v) (h1 : v.oneCell' = true)
    (hs : HSet c cs cs' bt H H') (hc' : LSet cs i v cs') (h : Wl rest P .seq ops N Γ (Hp w0 H') Q) : Wl (⟨none, .store t x y, ty, pos, af, none⟩ :: rest) P .seq ops N Γ (Hp w0 H) Q :=
  Wl.eff fun a w ha hw => by
    have hi : i < cs.length := hc'.out.1
    have hc := hc'.out.2
    have hcell : w.cell? ⟨c, i, none⟩ = some cs[i] := hw.cell hs.mem (by simp [hi])
    have hfr : w.frozen? ⟨c, i, none⟩ = false := hw.free hs.mem
    have hcs : v.cells = #[v] := by cases v <;> simp_all [Value.cells, Value.oneCell']
    refine ⟨undef, w.setCell ⟨c, i, none⟩ v, .inr ⟨?_, rfl⟩, h _ _ ha (hw.hset hs (Upd.setCell w _ v rfl) ?_)⟩
    · simp [execOp, ha.ev hx, ha.ev hy, Instr.storeAt, Instr.sureAddr, storeVar, run_size (P := P) (t := t), hcs, storeCells, run_store P w _ v _ h1, hcell, hfr, Addr.add]
    · rw [blockSet (hw.own.at hs.mem)]
      subst hc
      simp
theorem Wl.storeA {w0 : World} {H H' : List Blk} {t n bt : TypeId} [ht : TyA P t n] {x y : Operand} {c i : Nat} {cs cs' xs : List Value} (hx : ev Γ x = some (.pointer (some ⟨c, i, none⟩))) (hy : ev Γ y = some (.agg xs.toArray)) (hn : xs.length = n) (h1' : xs.all Value.oneCell' = true)
    (hs : HSet c cs cs' bt H H') (hc' : LPut cs i xs cs') (h : Wl rest P .seq ops N Γ (Hp w0 H') Q) : Wl (⟨none, .store t x y, ty, pos, af, none⟩ :: rest) P .seq ops N Γ (Hp w0 H) Q :=
  Wl.eff fun a w ha hw => by
    have h1 : ∀ v ∈ xs, v.oneCell' = true := fun v hv => List.all_eq_true.1 h1' v hv
    have hi : i + n ≤ cs.length := hn ▸ hc'.out.1
    have hc : cs.take i ++ xs ++ cs.drop (i + n) = cs' := hn ▸ hc'.out.2
    have hb := hw.own.at hs.mem
    have hst := run_storeCells_at P c i bt xs 0 cs.toArray w hb (by simp; omega) h1
    simp only [Nat.add_zero] at hst
    refine ⟨undef, w.setRow c cs'.toArray, .inr ⟨?_, rfl⟩, h _ _ ha (hw.hset hs ⟨rfl, rfl, rfl, by simp, fun k hk hne => ?_⟩ ?_)⟩
    · have e : (List.take i cs ++ xs ++ List.drop (i + xs.length) cs).toArray = cs'.toArray := by rw [hn, hc]
      rw [← e]
      simp only [execOp, ha.ev hx, ha.ev hy, Instr.storeAt, Instr.sureAddr, storeVar, Sem.run_bind, pure_bind, run_sizeA (P := P) (t := t), Value.cells, Result.andThen]
      simp [hn] at hst ⊢
      rw [hst]
    · exact setRow_other w c k _ hne
    · exact setRow_heap w c _ _ bt _ hb
theorem Wl.box {w0 : World} {H : List Blk} {t : TypeId} {x : Operand} {v : Value} (hd : Nat.blt d N = true) (hx : ev Γ x = some v)
    (h : ∀ c, w0.heap.size ≤ c → Off H c → Wl rest P .seq ops N ((d, .pointer (some ⟨c, 0, none⟩)) :: Γ) (Hp w0 (⟨c, v.cells.toList, t⟩ :: H)) Q) : Wl (⟨some d, .box t x, ty, pos, af, none⟩ :: rest) P .seq ops N Γ (Hp w0 H) Q :=
  Wl.eff fun a w ha hw => ⟨.pointer (some ⟨w.heap.size, 0, none⟩), w.alloc (.cells v.cells t), .inl (by
    simp [execOp, ha.ev hx, Instr.box, newVar, newRow]), h _ hw.upd.size (Off.lt hw.own) _ _ (ha.put hd _) (by simpa using hw.alloc v.cells.toList t)⟩
theorem Wl.boxA {w0 : World} {H : List Blk} {t : TypeId} {x : Operand} {xs : List Value} (hd : Nat.blt d N = true) (hx : ev Γ x = some (.agg xs.toArray))
    (h : ∀ c, w0.heap.size ≤ c → Off H c → Wl rest P .seq ops N ((d, .pointer (some ⟨c, 0, none⟩)) :: Γ) (Hp w0 (⟨c, xs, t⟩ :: H)) Q) : Wl (⟨some d, .box t x, ty, pos, af, none⟩ :: rest) P .seq ops N Γ (Hp w0 H) Q :=
  Wl.box hd hx h
theorem Wl.alloc {w0 : World} {H : List Blk} {t : TypeId} {z : Value} [TyZ P t z] (hd : Nat.blt d N = true)
    (h : ∀ c, w0.heap.size ≤ c → Off H c → Wl rest P .seq ops N ((d, .pointer (some ⟨c, 0, none⟩)) :: Γ) (Hp w0 (⟨c, z.cells.toList, t⟩ :: H)) Q) : Wl (⟨some d, .alloc t, ty, pos, af, none⟩ :: rest) P .seq ops N Γ (Hp w0 H) Q :=
  Wl.eff fun a w ha hw => ⟨.pointer (some ⟨w.heap.size, 0, none⟩), w.alloc (.cells z.cells t), .inl (by
    simp [execOp, Instr.alloc, newVar, newRow, run_zero (P := P) (t := t)]), h _ hw.upd.size (Off.lt hw.own) _ _ (ha.put hd _) (by simpa using hw.alloc z.cells.toList t)⟩
theorem Wl.build {t : TypeId} {parts : Array (Nat × Operand)} {ps : List (Nat × Value)} {v : Value} (hd : Nat.blt d N = true) (hp : Parts Γ parts.toList ps) (hr : ∀ w : World, (Instr.build t ps.toArray).run P w = .ok v w)
    (h : Wl rest P md ops N ((d, v) :: Γ) C Q) : Wl (⟨some d, .build t parts, ty, pos, af, none⟩ :: rest) P md ops N Γ C Q :=
  Wl.val hd (fun a w ha _ => by simp [execOp, hp.map ha, hr]) h
theorem Wl.buildS {t : TypeId} {parts : Array (Nat × Operand)} {ps : List (Nat × Value)} {pl : List (Nat × Nat)} {z cs : List Value} [TyP P t pl z] (hd : Nat.blt d N = true) (hp : Parts Γ parts.toList ps) (hF : Fills (pl.toArray[·]?) z ps cs)
    (h : Wl rest P md ops N ((d, .agg cs.toArray) :: Γ) C Q) : Wl (⟨some d, .build t parts, ty, pos, af, none⟩ :: rest) P md ops N Γ C Q := Wl.build hd hp (fun _ => run_build_struct hF) h
theorem Wl.buildA {t n e sz by_ : TypeId} {parts : Array (Nat × Operand)} {ps : List (Nat × Value)} {z cs : List Value} [TyD P t (.array n e)] [TyS P e sz by_] [TyZ P t (.agg z.toArray)] (hd : Nat.blt d N = true) (hp : Parts Γ parts.toList ps) (hF : Fills (fun i => some (i * sz, sz)) z ps cs)
    (h : Wl rest P md ops N ((d, .agg cs.toArray) :: Γ) C Q) : Wl (⟨some d, .build t parts, ty, pos, af, none⟩ :: rest) P md ops N Γ C Q := Wl.build hd hp (fun _ => run_build_array hF) h
theorem Wl.buildSlice {w0 : World} {H : List Blk} {t e n : TypeId} {parts : Array (Nat × Operand)} {ps : List (Nat × Value)} {cs : List Value} (hd : Nat.blt d N = true) (hp : Parts Γ parts.toList ps)
    (hr : ∀ w : World, (Instr.buildSlice t n ps.toArray).run P w = .ok (.slice (some ⟨w.heap.size, 0, none⟩) n n) (w.alloc (.cells cs.toArray e)))
    (h : ∀ c, w0.heap.size ≤ c → Off H c → Wl rest P .seq ops N ((d, .slice (some ⟨c, 0, none⟩) n n) :: Γ) (Hp w0 (⟨c, cs, e⟩ :: H)) Q) : Wl (⟨some d, .buildSlice t n parts, ty, pos, af, none⟩ :: rest) P .seq ops N Γ (Hp w0 H) Q :=
  Wl.eff fun a w ha hw => ⟨_, _, .inl (by simp [execOp, hp.map ha, hr]), h _ hw.upd.size (Off.lt hw.own) _ _ (ha.put hd _) (hw.alloc cs e)⟩
theorem Wl.lit {w0 : World} {H : List Blk} {t e sz by_ n : Nat} {z : Value} {parts : Array (Nat × Operand)} {ps : List (Nat × Value)} {cs : List Value} [TyD P t (.slice e)] [TyS P e sz by_] [TyZ P e z] (hd : Nat.blt d N = true) (hp : Parts Γ parts.toList ps)
    (hn : Nat.beq ps.length n = true) (hb : Nat.ble (n * sz) 16777216 = true) (hF : CatP sz 0 ps cs)
    (h : ∀ c, w0.heap.size ≤ c → Off H c → Wl rest P .seq ops N ((d, .slice (some ⟨c, 0, none⟩) n n) :: Γ) (Hp w0 (⟨c, cs, e⟩ :: H)) Q) : Wl (⟨some d, .buildSlice t n parts, ty, pos, af, none⟩ :: rest) P .seq ops N Γ (Hp w0 H) Q :=
  Wl.buildSlice hd hp (fun _ => run_buildSlice_cat hn hb hF) h
theorem Wl.indexAddr {t e sz by_ : TypeId} [ht : TyD P t (.slice e)] [TyS P e sz by_] {x i : Operand} {b o n c : Nat} {k : IntKind} {j : Int} (hd : Nat.blt d N = true) (hx : ev Γ x = some (.slice (some ⟨b, o, none⟩) n c)) (hi : ev Γ i = some (.int k j))
    (hj : 0 ≤ j ∧ j < n) (h : Wl rest P md ops N ((d, .pointer (some ⟨b, o + j.toNat * sz, none⟩)) :: Γ) C Q) : Wl (⟨some d, .indexAddr t x i, ty, pos, af, none⟩ :: rest) P md ops N Γ C Q :=
  Wl.val hd (fun a w ha _ => by simp [execOp, ha.ev hx, ha.ev hi, Instr.indexAt, asIntOf, run_underlying ht.out, hj, run_size (P := P) (t := e), Addr.add_lit]) h
theorem Wl.indexAddr1 {t e by_ : TypeId} [ht : TyD P t (.slice e)] [TyS P e 1 by_] {x i : Operand} {b o n c : Nat} {k : IntKind} {j : Int} (hd : Nat.blt d N = true) (hx : ev Γ x = some (.slice (some ⟨b, o, none⟩) n c)) (hi : ev Γ i = some (.int k j))
    (hj : 0 ≤ j ∧ j < n) (h : Wl rest P md ops N ((d, .pointer (some ⟨b, o + j.toNat, none⟩)) :: Γ) C Q) : Wl (⟨some d, .indexAddr t x i, ty, pos, af, none⟩ :: rest) P md ops N Γ C Q :=
  Wl.indexAddr (sz := 1) hd hx hi hj (by rw [Nat.mul_one]; exact h)
theorem Wl.indexArr {t e sz by_ n : TypeId} [ht : TyD P t (.array n e)] [TyS P e sz by_] {x i : Operand} {b o : Nat} {k : IntKind} {j : Int} (hd : Nat.blt d N = true) (hx : ev Γ x = some (.pointer (some ⟨b, o, none⟩))) (hi : ev Γ i = some (.int k j))
    (hj : 0 ≤ j ∧ j < (n : Int)) (h : Wl rest P md ops N ((d, .pointer (some ⟨b, o + j.toNat * sz, none⟩)) :: Γ) C Q) : Wl (⟨some d, .indexAddr t x i, ty, pos, af, none⟩ :: rest) P md ops N Γ C Q :=
  Wl.val hd (fun a w ha _ => by simp [execOp, ha.ev hx, ha.ev hi, Instr.indexAt, asIntOf, run_underlying ht.out, hj, run_size (P := P) (t := e), Addr.add_lit, Instr.sureAddr]) h
theorem exec_call {f : FuncId} [hE : Ent P f] {a : Act} {w : World} {N : Nat} {Γ : Env} (ha : Fr N a Γ) {d : Option Nat} {xs : Array Operand} {vs : List Value} {ts : Array TypeId} {ty : TypeId} {pos : String} {af : Array Edge} {g : Option (Nat × Bool)} (hx : Evs Γ xs.toList vs) :
    (execOp a.eval ⟨d, .call { callee := .value (.func f), args := xs, argTypes := ts }, ty, pos, af, g⟩).run P w = .ok (.enter f vs.toArray) w := by
  have e : xs.map a.eval = vs.toArray := by
    obtain ⟨l⟩ := xs
    simp only [List.map_toArray]
    exact congrArg _ (hx.map ha)
  simp [execOp, resolve, e, Act.eval, Deferred.ofValue, invoke, hE.out]
theorem Wl.callC {f : FuncId} [Ent P f] {xs : Array Operand} {vs : List Value} {ts : Array TypeId} (hd : Nat.blt d N = true) (hx : Evs Γ xs.toList vs)
    (h : ∀ w, C w → Calls P f vs.toArray w fun e w' => ∃ v C', e = .returned v ∧ C' w' ∧ Wl rest P .seq ops N ((d, v) :: Γ) C' Q) :
    Wl (⟨some d, .call { callee := .value (.func f), args := xs, argTypes := ts }, ty, pos, af, none⟩ :: rest) P .seq ops N Γ C Q := by
  intro a w ha hw
  refine wpList_plain rfl fun K hK => ?_
  simp only [Oper.wp, exec_call ha hx, Oper.upon]
  refine (h w hw).mono ?_
  rintro e w' ⟨v, C', rfl, hC, h⟩
  exact hK _ _ (h _ _ (ha.put hd v) hC)
theorem Wl.callQ {f : FuncId} [Ent P f] {xs : Array Operand} {vs : List Value} {ts : Array TypeId} {v : Value} (hd : Nat.blt d N = true) (hx : Evs Γ xs.toList vs)
    (hq : ∀ w, C w → Calls P f vs.toArray w fun e w' => e = .returned v ∧ C w') (h : Wl rest P .seq ops N ((d, v) :: Γ) C Q) :
    Wl (⟨some d, .call { callee := .value (.func f), args := xs, argTypes := ts }, ty, pos, af, none⟩ :: rest) P .seq ops N Γ C Q := by
  intro a w ha hw
  refine wpList_plain rfl fun K hK => ?_
  simp only [Oper.wp, exec_call ha hx, Oper.upon]
  refine (hq w hw).mono ?_
  rintro e w' ⟨rfl, hC⟩
  exact hK _ _ (h _ _ (ha.put hd v) hC)
theorem Wl.callQQ {f : FuncId} [Ent P f] {xs : Array Operand} {vs : List Value} {ts : Array TypeId} {v : Value} (hd : Nat.blt d N = true) (hx : Evs Γ xs.toList vs)
    (hq : ∀ w, C w → Calls P f vs.toArray w fun e w' => e = .returned v ∧ C w') (h : Wl rest P .quiet ops N ((d, v) :: Γ) C Q) :
    Wl (⟨some d, .call { callee := .value (.func f), args := xs, argTypes := ts }, ty, pos, af, none⟩ :: rest) P .quiet ops N Γ C Q := by
  intro a ha
  simp only [wpQuiet, Region.wanted, if_true]
  exact ⟨v, fun w hw => by simp only [Oper.quietAt, exec_call ha hx, Oper.quietUpon]; exact ⟨trivial, hq w hw⟩, h _ (ha.put hd v)⟩
theorem wp_only {o : Oper} {a : Act} {w : World} {K : Act → World → Prop} {Q' : Exit → Act → World → Prop} (hq : ∀ e a w, Q' e a w → e = .normal) (hh : o.wp P a w K Q') : o.wp P a w K fun _ _ _ => False := by
  have hl : ¬ LetsOut Q' := fun ⟨a, w, h⟩ => nomatch hq _ _ _ h
  unfold Oper.wp at *
  generalize (execOp a.eval o).run P w = r at *
  cases r with
  | ok n w' =>
    cases n <;> simp only [Oper.upon] at hh ⊢ <;>
      first
        | exact hh
        | exact Calls.mono hh (fun e w'' he => by cases e <;> first | exact he | exact nomatch hq _ _ _ he | exact (hl he).elim)
        | exact Rows.mono hh (fun _ _ he => he)
  | halt x w' => cases x <;> simp only [Oper.upon] at hh ⊢ <;> first | exact hh | exact nomatch hq _ _ _ hh
theorem ownsRow_upd {S : Nat → Prop} {w w' : World} {base : Nat} {e : TypeId} {sz n : Nat} {v : Value} {xs : List Value} (h : w.ownsRow base e sz v n xs) (u : Upd S w w') (hs : ∀ k, v.ownBlock = some k → ¬ S k) : w'.ownsRow base e sz v n xs := by
  obtain ⟨h1, h2⟩ := h
  refine ⟨h1, ?_⟩
  rcases h2 with h2 | ⟨g, cap, cur, rfl, hg, hh, r⟩
  · exact .inl h2
  · exact .inr ⟨g, cap, cur, rfl, hg, u.heap hh (hs g rfl), r⟩
theorem run_append2 {w : World} {t ty e sz by_ base n m c : Nat} {z v : Value} {xs news : List Value} {ad : Addr} [ht : TyD P t (.slice e)] [hs : TyS P e sz by_] [hz : TyZ P e z] (hzs : z.cells.size = sz) (hsz : 0 < sz)
    (hown : w.ownsRow base e sz v n xs) (hl : news.length = m * sz) (hnews : ∀ j u, news[j]? = some u → w.cell? (ad.add j) = some u) (h1 : news.all Value.oneCell' = true) (h63 : n + m ≤ maxLen) (hb : (n + m) * by_ ≤ 140737488355328) (hbase : base ≤ w.heap.size) :
    ∃ v' w', (Builtin.append_ #[t, t] ty #[v, .slice (some ad) m c]).run P w = .ok v' w' ∧ w'.ownsRow base e sz v' (n + m) (xs ++ news) ∧ w.grownBy w' v.ownBlock ∧ (v' = .slice none 0 0 ↔ v = .slice none 0 0 ∧ m = 0) ∧
      (∀ k, v'.ownBlock = some k → v.ownBlock = some k ∨ w.heap.size ≤ k) := by
  have a1 := hs.out
  have a2 := hz.out
  cases e1 : P.info? e with
  | none => rw [e1] at a1; cases a1
  | some i =>
    rw [e1] at a1 a2
    simp at a1 a2
    have hn1 : ∀ u ∈ news, u.oneCell' = true := fun u hu => List.all_eq_true.1 h1 u hu
    rcases hown.2 with ⟨rfl, rfl⟩ | ⟨g, cap, cur, rfl, hg, hh, hnc, hcm, hcs, htk⟩
    · have hx0 : xs = [] := by simpa using hown.1
      subst hx0
      obtain ⟨v', w', r1, r2, r3, r4⟩ := run_append_own (P := P) w w.heap.size t ty e i z sz by_ ht.out e1 a2 a1.1 a1.2 hzs hsz (.slice none 0 0) 0 [] (World.ownsRow_nil w _ e sz) ad m c news hl hnews hn1 h63 hb (Nat.le_refl _)
      exact ⟨v', w', r1, Go.Joins.ownsRow_le r2 hbase, r3, r4, fun k hk => .inr (r2.lt k hk).1⟩
    · by_cases hroom : n + m ≤ cap
      · obtain ⟨w', r1, r2, r3⟩ := run_append_fits (P := P) w base t ty e i sz ht.out e1 a1.1 g n cap xs hown ad m c news hl hnews hn1 hroom
        exact ⟨_, w', r1, r2, r3, by simp, fun k hk => .inl hk⟩
      · obtain ⟨v', w', r1, r2, r3⟩ := run_append_arg_grows (P := P) w t ty e i z sz by_ ht.out e1 a2 a1.1 a1.2 hzs hsz ⟨g, 0, none⟩ n cap xs hown.1 (fun j u hj => hown.cells rfl j u hj) ad m c news hl hnews (by omega) h63 hb
        refine ⟨v', w', r1, Go.Joins.ownsRow_le r2 hbase, ⟨r3.os, r3.tape, r3.output, r3.size, fun k hk _ => r3.block k hk (by simp)⟩, ?_, fun k hk => .inr (r2.lt k hk).1⟩
        refine ⟨fun hv => ?_, fun hv => by simp at hv⟩
        rcases r2.2 with ⟨_, h0⟩ | ⟨g', cap', _, hv', _⟩
        · omega
        · rw [hv'] at hv; cases hv
theorem Wl.append {w0 : World} {H : List Blk} {t e sz by_ base n m c : Nat} {z v : Value} {xs news : List Value} {ad : Addr} {s x : Operand} [ht : TyD P t (.slice e)] [hs : TyS P e sz by_] [hz : TyZ P e z]
    (hd : Nat.blt d N = true) (hs' : ev Γ s = some v) (hx : ev Γ x = some (.slice (some ad) m c)) (hown : w0.ownsRow base e sz v n xs) (hl : news.length = m * sz) (hnews : ∀ w, Hp w0 H w → ∀ j u, news[j]? = some u → w.cell? (ad.add j) = some u)
    (hoff : ∀ k, v.ownBlock = some k → Off H k) (h1 : news.all Value.oneCell' = true) (hzs : z.cells.size = sz) (hsz : 0 < sz) (h63 : n + m ≤ maxLen) (hb : (n + m) * by_ ≤ 140737488355328) (hbase : base ≤ w0.heap.size)
    (h : ∀ v' w1, w1.ownsRow base e sz v' (n + m) (xs ++ news) → Upd (fun k => v.ownBlock = some k ∨ ¬ Off H k) w0 w1 → (v' = .slice none 0 0 ↔ v = .slice none 0 0 ∧ m = 0) → (∀ k, v'.ownBlock = some k → Off H k ∧ (v.ownBlock = some k ∨ w0.heap.size ≤ k)) → Wl rest P .seq ops N ((d, v') :: Γ) (Hp w1 H) Q) :
    Wl (⟨some d, .call { callee := .builtin .append, args := #[s, x], argTypes := #[t, t] }, ty, pos, af, none⟩ :: rest) P .seq ops N Γ (Hp w0 H) Q :=
  Wl.eff fun a w ha hw => by
    have hown' : w.ownsRow base e sz v n xs := ownsRow_upd hown hw.upd fun k hk x => x (hoff k hk)
    obtain ⟨v', w', hrun, ho, hg, hn, hk⟩ := run_append2 (P := P) (t := t) (ty := ty) (c := c) hzs hsz hown' hl (hnews w hw) h1 h63 hb (Nat.le_trans hbase hw.upd.size)
    have u : Upd (fun k => v.ownBlock = some k) w w' := Upd.grown hg fun k hk => hk
    have hp1 : Own w' H := hw.own.upd u fun y hy hk => (hoff _ hk).at hy rfl
    refine ⟨v', w', .inl ?_, h v' w' ho ((hw.upd.mono fun k _ hk => .inr hk).trans (u.mono fun k _ hk => .inl hk)) hn (fun k hk' => (hk k hk').elim (fun e => ⟨hoff k e, .inl e⟩) fun hge => ⟨Off.of fun y hy e => by have := hw.own.lt hy; omega, .inr (Nat.le_trans hw.upd.size hge)⟩) _ _ (ha.put hd _) ⟨Upd.refl _ _, hp1, hw.apart⟩⟩
    simp [execOp, resolve, invoke, builtin, ha.ev hs', ha.ev hx, hrun]
theorem Wl.appendH {w0 : World} {H : List Blk} {t e sz by_ base n m c b bt : Nat} {z v : Value} {xs news : List Value} {s x : Operand} [ht : TyD P t (.slice e)] [hs : TyS P e sz by_] [hz : TyZ P e z]
    (hd : Nat.blt d N = true) (hs' : ev Γ s = some v) (hx : ev Γ x = some (.slice (some ⟨b, 0, none⟩) m c)) (hm : (⟨b, news, bt⟩ : Blk) ∈ H) (hl : Nat.beq news.length (m * sz) = true) (hown : w0.ownsRow base e sz v n xs)
    (hoff : ∀ k, v.ownBlock = some k → Off H k) (h1 : news.all Value.oneCell' = true) (hzs : z.cells.size = sz) (hsz : 0 < sz) (h63 : n + m ≤ maxLen) (hb : (n + m) * by_ ≤ 140737488355328) (hbase : base ≤ w0.heap.size)
    (h : ∀ v' w1, w1.ownsRow base e sz v' (n + m) (xs ++ news) → Upd (fun k => v.ownBlock = some k ∨ ¬ Off H k) w0 w1 → (v' = .slice none 0 0 ↔ v = .slice none 0 0 ∧ m = 0) → (∀ k, v'.ownBlock = some k → Off H k ∧ (v.ownBlock = some k ∨ w0.heap.size ≤ k)) → Wl rest P .seq ops N ((d, v') :: Γ) (Hp w1 H) Q) :
    Wl (⟨some d, .call { callee := .builtin .append, args := #[s, x], argTypes := #[t, t] }, ty, pos, af, none⟩ :: rest) P .seq ops N Γ (Hp w0 H) Q :=
  Wl.append hd hs' hx hown (Nat.eq_of_beq_eq_true hl) (fun w hw j u hj => by rw [addLit]; exact hw.cell hm (by simpa using hj)) hoff h1 hzs hsz h63 hb hbase h
theorem Wl.appendT {w0 : World} {H : List Blk} {t e sz by_ base n m c b bt : Nat} {z v : Value} {xs news : List Value} {s x : Operand} [ht : TyD P t (.slice e)] [hs : TyS P e sz by_] [hz : TyZ P e z]
    (hd : Nat.blt d N = true) (hs' : ev Γ s = some v) (hx : ev Γ x = some (.slice (some ⟨b, 0, none⟩) m c)) (hb0 : w0.heap.size ≤ b) (hl : Nat.beq news.length (m * sz) = true) (hown : w0.ownsRow base e sz v n xs)
    (hoff : ∀ k, v.ownBlock = some k → Off H k) (h1 : news.all Value.oneCell' = true) (hzs : z.cells.size = sz) (hsz : 0 < sz) (h63 : n + m ≤ maxLen) (hb : (n + m) * by_ ≤ 140737488355328) (hbase : base ≤ w0.heap.size)
    (h : ∀ v' w1, w1.ownsRow base e sz v' (n + m) (xs ++ news) → Upd (fun k => v.ownBlock = some k ∨ ¬ Off H k) w0 w1 → (v' = .slice none 0 0 ↔ v = .slice none 0 0 ∧ m = 0) → (∀ k, v'.ownBlock = some k → Off H k ∧ (v.ownBlock = some k ∨ w0.heap.size ≤ k)) → Wl rest P .seq ops N ((d, v') :: Γ) (Hp w1 H) Q) :
    Wl (⟨some d, .call { callee := .builtin .append, args := #[s, x], argTypes := #[t, t] }, ty, pos, af, none⟩ :: rest) P .seq ops N Γ (Hp w0 (⟨b, news, bt⟩ :: H)) Q :=
  Wl.appendH hd hs' hx (List.Mem.head _) hl hown (fun k hk => ⟨fun e => by have := (hown.lt k hk).2; simp only at e; omega, hoff k hk⟩) h1 hzs hsz h63 hb hbase fun v' w1 a1 a2 a3 a4 =>
    Wl.reb fun w hw => ⟨hw.own.2, hw.apart.2, h v' w (ownsRow_upd a1 hw.upd fun k hk y => y (a4 k hk).1) (a2.comp hw.upd fun k hk hs => by
      have key : ¬ Off (⟨b, news, bt⟩ :: H) k → ¬ Off H k := fun hn ho => hn ⟨fun e => by simp only at e; omega, ho⟩
      rcases hs with (hs | hs) | hs
      · exact .inl hs
      · exact .inr (key hs)
      · exact .inr (key hs)) a3 fun k hk => ⟨(a4 k hk).1.2, (a4 k hk).2⟩⟩
end ops
theorem St.seq {x y : Code} (h : St x P N Γ C (Exit.then (y.wp P Q) Q)) : St (.seq x y) P N Γ C Q := fun a w ha hw => wp_seq (h a w ha hw)
theorem St.skip (h : Gt N .normal Γ C Q) : St .skip P N Γ C Q := fun a w ha hw => wp_skip (h a w ha hw)
theorem St.ret (h : Gt N .ret Γ C Q) : St .ret P N Γ C Q := fun a w ha hw => wp_ret (h a w ha hw)
theorem St.exit {i : Nat} (h : Gt N (.exit i) Γ C Q) : St (.exit i) P N Γ C Q := fun a w ha hw => wp_exit (h a w ha hw)
theorem St.block {i : Nat} {c : Code} (h : St c P N Γ C (Exit.inBlock i Q)) : St (.block i c) P N Γ C Q := fun a w ha hw => wp_block (h a w ha hw)
theorem St.region {i : Nat} {l : List Oper} (h : Wl l P .seq l.toArray N Γ C Q) : St (.region i l.toArray false) P N Γ C Q := fun a w ha hw => wp_region_lit (h a w ha hw)
theorem St.draw {i : Nat} {l : List Oper} (hm : P.follows .mixedOrders = true) (hB : Region.lexB .any l.toArray = true) (hC : ∀ w, C w → C w.drew) (h : Wl l P .quiet l.toArray N Γ C Q) : St (.region i l.toArray true) P N Γ C Q :=
  fun a w ha hw => wp_region_quiet (C := C) hm hB (hC w hw) (by simpa using h a ha)
theorem St.condT {x : Operand} {b : Bool} {p q : Code} (hx : ev Γ x = some (.bool b)) (hb : b = true) (h : St p P N Γ C Q) : St (.cond x p q) P N Γ C Q :=
  fun a w ha hw => wp_cond_true (by rw [ha.ev hx, hb]) (h a w ha hw)
theorem St.condF {x : Operand} {b : Bool} {p q : Code} (hx : ev Γ x = some (.bool b)) (hb : b = false) (h : St q P N Γ C Q) : St (.cond x p q) P N Γ C Q :=
  fun a w ha hw => wp_cond_false (by rw [ha.ev hx, hb]) (h a w ha hw)
theorem St.condP {x : Operand} {r : Prop} {_i : Decidable r} {p q : Code} (hx : ev Γ x = some (.bool (decide r))) (h1 : r → decide r = true → St p P N Γ C Q) (h2 : ¬ r → decide r = false → St q P N Γ C Q) : St (.cond x p q) P N Γ C Q := by
  by_cases hr : r
  · exact St.condT hx (decide_eq_true hr) (h1 hr (decide_eq_true hr))
  · exact St.condF hx (decide_eq_false hr) (h2 hr (decide_eq_false hr))
theorem St.condB {x : Operand} {b : Bool} {p q : Code} (hx : ev Γ x = some (.bool b)) (h1 : b = true → St p P N Γ C Q) (h2 : b = false → St q P N Γ C Q) : St (.cond x p q) P N Γ C Q := by
  cases hb : b
  · exact St.condF hx hb (h2 hb)
  · exact St.condT hx hb (h1 hb)
theorem St.cls {c : Code} {C' : World → Prop} (hc : ∀ w, C w → C' w) (h : St c P N Γ C' Q) : St c P N Γ C Q := fun a w ha hw => h a w ha (hc w hw)
theorem St.loop {σ : Type} (I : σ → Prop) (Γf : σ → Env) (Cf : σ → World → Prop) (μ : σ → Nat) {c : Code} (τ0 : σ) (h0 : I τ0) (hs : Sub Γ (Γf τ0)) (hc : ∀ w, C w → Cf τ0 w)
    (round : ∀ τ, I τ → St c P N (Γf τ) (Cf τ) (Exit.then (fun a w => ∃ τ', I τ' ∧ μ τ' < μ τ ∧ Fr N a (Γf τ') ∧ Cf τ' w) Q)) : St (.loop c) P N Γ C Q := by
  intro a w ha hw b k cs
  have key : ∀ n τ a w, μ τ = n → I τ → Fr N a (Γf τ) → Cf τ w →
      ∃ e a' w', Q e a' w' ∧ Arrives P (lone (b.at a (.code c :: .inLoop c :: k)) cs w) b k cs e a' w' := by
    intro n
    induction n using Nat.strongRecOn with
    | _ n ih =>
      intro τ a w hn hI hfr hC
      obtain ⟨e, a₁, w₁, hq, harr⟩ := round τ hI a w hfr hC b (.inLoop c :: k) cs
      cases e with
      | normal =>
        obtain ⟨τ', hI', hlt, hfr', hC'⟩ := hq
        obtain ⟨e₂, a₂, w₂, hq₂, harr₂⟩ := ih (μ τ') (hn ▸ hlt) τ' a₁ w₁ rfl hI' hfr' hC'
        exact ⟨e₂, a₂, w₂, hq₂, .of_steps (Steps.trans harr (.one step_inLoop)) harr₂⟩
      | exit id => exact ⟨_, a₁, w₁, hq, .pass (x := .inLoop c) rfl (fun _ _ => .inl (by simp)) harr⟩
      | goto l => exact ⟨_, a₁, w₁, hq, .pass (x := .inLoop c) rfl (fun _ _ => .inl (by simp)) harr⟩
      | ret => exact ⟨_, a₁, w₁, hq, .pass (x := .inLoop c) rfl (fun _ _ => .inl (by simp)) harr⟩
      | panic ch => exact ⟨_, a₁, w₁, hq, .pass (x := .inLoop c) rfl (fun _ _ => .inl (by simp)) harr⟩
      | outgrown => exact ⟨_, a₁, w₁, hq, .pass (x := .inLoop c) rfl (fun _ _ => .inl (by simp)) harr⟩
  obtain ⟨e, a', w', hq, harr⟩ := key _ τ0 a w rfl h0 (ha.sub hs) (hc w hw)
  exact ⟨e, a', w', hq, .of_steps (.one step_loop) harr⟩
theorem Gt.round {σ : Type} {I : σ → Prop} {Γf : σ → Env} {Cf : σ → World → Prop} {μ : σ → Nat} {m : Nat} (τ' : σ) (hI : I τ') (hm : μ τ' < m) (hs : Sub Γ (Γf τ')) (hc : ∀ w, C w → Cf τ' w) :
    Gt N .normal Γ C (Exit.then (fun a w => ∃ τ', I τ' ∧ μ τ' < m ∧ Fr N a (Γf τ') ∧ Cf τ' w) Q) := fun _ w ha hw => ⟨τ', hI, hm, ha.sub hs, hc w hw⟩
theorem Gt.next {y : Code} {Q' : Exit → Act → World → Prop} (h : St y P N Γ C Q) : Gt N .normal Γ C (Exit.then (y.wp P Q) Q') := h
theorem Gt.thenExit {i : Nat} {k : Act → World → Prop} (h : Gt N (.exit i) Γ C Q) : Gt N (.exit i) Γ C (Exit.then k Q) := h
theorem Gt.thenRet {k : Act → World → Prop} (h : Gt N .ret Γ C Q) : Gt N .ret Γ C (Exit.then k Q) := h
theorem Gt.inNormal {i : Nat} (h : Gt N .normal Γ C Q) : Gt N .normal Γ C (Exit.inBlock i Q) := h
theorem Gt.inRet {i : Nat} (h : Gt N .ret Γ C Q) : Gt N .ret Γ C (Exit.inBlock i Q) := h
theorem Gt.inExit {i : Nat} (h : Gt N .normal Γ C Q) : Gt N (.exit i) Γ C (Exit.inBlock i Q) := fun a w ha hw => by
  simp only [Exit.inBlock, if_true]; exact h a w ha hw
theorem Gt.out1 {fn : Func} {R : Ending → World → Prop} {t : Nat} {v : Value} (hr : fn.results = #[.tmp t]) (ht : look Γ t = some v) (h : ∀ w, C w → R (.returned v) w) : Gt N .ret Γ C (bodyPost P fn R) := fun a w ha hw => by
  refine ⟨ha.defers, v, ?_, h w hw⟩
  rw [results_tmp hr]
  simp [ha.get t v ht]
theorem Gt.out0n {fn : Func} {R : Ending → World → Prop} (hr : fn.results = #[]) (h : ∀ w, C w → R (.returned (.tuple #[])) w) : Gt N .normal Γ C (bodyPost P fn R) := fun a w ha hw =>
  ⟨ha.defers, _, results_none hr _ _ _, h w hw⟩
theorem Gt.out2 {fn : Func} {R : Ending → World → Prop} {t u : Nat} {v v' : Value} (hr : fn.results = #[.tmp t, .tmp u]) (ht : look Γ t = some v) (hu : look Γ u = some v') (h : ∀ w, C w → R (.returned (.tuple #[v, v'])) w) : Gt N .ret Γ C (bodyPost P fn R) := fun a w ha hw => by
  refine ⟨ha.defers, _, ?_, h w hw⟩
  rw [results_tmp2 hr]
  simp [ha.get t v ht, ha.get u v' hu]
theorem Fr.start {args : List Value} {N : Nat} {Γ : Env} (hN : args.length ≤ N) (hg : ∀ t v, look Γ t = some v → args[t]? = some v) : Fr N { tmps := args.toArray ++ Array.replicate (N - args.toArray.size) undef, defers := [] } Γ := by
  refine ⟨rfl, by simp; omega, fun t v ht => ?_⟩
  have h := hg t v ht
  have hlt : t < args.length := (List.getElem?_eq_some_iff.1 h).1
  simp [Array.getElem?_append, hlt]
  simpa [List.getElem?_eq_getElem hlt] using h
inductive ArgEnv (args : List Value) : Env → Prop
  | nil : ArgEnv args []
  | cons {t : Nat} {v : Value} {r : Env} (h : args[t]? = some v) (hs : ArgEnv args r) : ArgEnv args ((t, v) :: r)
theorem ArgEnv.get {args : List Value} {Γ : Env} (h : ArgEnv args Γ) : ∀ t v, look Γ t = some v → args[t]? = some v := by
  induction h with
  | nil => intro t v h; simp [look] at h
  | @cons d u r h hs ih =>
    intro t v ht
    simp only [look] at ht
    by_cases e : t = d
    · subst e; simp at ht; subst ht; exact h
    · rw [beqFalse e] at ht; exact ih t v (by simpa using ht)
theorem enter {f : FuncId} {fn : Func} {c : Code} {args : List Value} {w : World} {R : Ending → World → Prop} (hf : P.funcs[f]? = some fn) (hn : fn.ntmps = N) (hb : fn.body = some c) (hN : args.length ≤ N) (hΓ : ArgEnv args Γ)
    (h : St c P N Γ (Hp w []) (bodyPost P fn R)) : Calls P f args.toArray w R := by
  refine calls_of_wp hf hb ?_
  have := h _ w (Fr.start (N := N) hN hΓ.get) (Hp.start w)
  rw [hn]
  exact this
end
def dstO (o : Oper) : Nat := match o.dst with
  | some d => d
  | none => 0
def dstAt (l : List Oper) (i : Nat) : Nat := match l[i]? with
  | some o => dstO o
  | none => 0
theorem look_any {Γ : Env} {t : Nat} {v : Value} (h : look Γ t = some v) : (Γ.any fun p => Nat.beq p.1 t) = true := by
  induction Γ with
  | nil => simp [look] at h
  | cons p r ih =>
    obtain ⟨d, u⟩ := p
    simp only [look] at h
    by_cases e : t = d
    · subst e; simp
    · rw [beqFalse e] at h
      simp only [List.any_cons, Bool.or_eq_true]
      exact .inr (ih h)
theorem Fr.cons {N : Nat} {a : Act} {Γ : Env} (h : Fr N a Γ) {d : Nat} {v : Value} (hv : a.tmps[d]? = some v) : Fr N a ((d, v) :: Γ) := by
  refine ⟨h.defers, h.size, fun t u hu => ?_⟩
  simp only [look] at hu
  by_cases e : t = d
  · subst e; simp at hu; subst hu; exact hv
  · rw [beqFalse e] at hu; exact h.get t u (by simpa using hu)
theorem wp_tmps {P : Program} {o : Oper} {a : Act} {w : World} {K : Act → World → Prop} {E : Exit → Act → World → Prop} (h : o.wp P a w K E) : o.wp P a w (fun a' w' => K a' w' ∧ ∃ v, a'.tmps = (a.put o.dst v).tmps) E := by
  unfold Oper.wp at *
  generalize (execOp a.eval o).run P w = r at *
  cases r with
  | ok n w' =>
    cases n <;> simp only [Oper.upon] at h ⊢
    case value u => exact ⟨h, u, rfl⟩
    case skip => exact ⟨h, undef, rfl⟩
    case defer d => exact ⟨h, undef, by cases o.dst <;> rfl⟩
    case enter f args => exact Calls.mono h (fun e w'' he => by cases e <;> first | exact ⟨he, _, rfl⟩ | exact he)
    case row row args => exact Rows.mono h (fun u _ he => ⟨he, u, rfl⟩)
  | halt x w' => cases x <;> simp only [Oper.upon] at h ⊢ <;> exact h

theorem getD_set {x : Array Bool} {i j : Nat} (h : i ≠ j) (b : Bool) : (x.setIfInBounds i b).getD j true = x.getD j true := by
  simp [Array.getD_eq_getD_getElem?, Array.getElem?_setIfInBounds_ne h]
section
variable {P : Program} {N : Nat} {Γ : Env} {C : World → Prop} {Q : Exit → Act → World → Prop}
end
section
variable {P : Program} {N : Nat} {ops : Array Oper} {l : List Oper} {c : Code} {e : Exit} {Γ : Env} {C : World → Prop} {Q : Exit → Act → World → Prop}
theorem Wl.elim (h : Wl l P .seq ops N Γ C Q) : ∀ a w, Fr N a Γ → C w → wpList P ops Q l a w := h
theorem Wl.elimM {D : World → Prop} (h : Wl l P (.mix D) ops N Γ C Q) : ∀ a w, Fr N a Γ → D w → C w → wpE P ops C (fun a' w' => Q .normal a' w') l a w := h
theorem St.intro (h : ∀ a w, Fr N a Γ → C w → c.wp P Q a w) : St c P N Γ C Q := h
theorem St.elim (h : St c P N Γ C Q) : ∀ a w, Fr N a Γ → C w → c.wp P Q a w := h
theorem Gt.intro (h : ∀ a w, Fr N a Γ → C w → Q e a w) : Gt N e Γ C Q := h
theorem Gt.elim (h : Gt N e Γ C Q) : ∀ a w, Fr N a Γ → C w → Q e a w := h
theorem Gt.reb {H' : List Blk} (h : ∀ w, C w → Own w H' ∧ Apart H' ∧ Gt N e Γ (Hp w H') Q) : Gt N e Γ C Q := fun a w ha hw => by
  obtain ⟨h1, h2, h3⟩ := h w hw
  exact h3 a w ha ⟨Upd.refl _ _, h1, h2⟩
end
attribute [irreducible] Wl St Gt
end Go.Pt
end
section
namespace Go.Pt

class FnE (P : Program) (f : Nat) (fn : outParam Func) (N : outParam Nat) : Prop where
  out : P.funcs[f]? = some fn ∧ fn.ntmps = N
def argsE : Nat → List Value → Env
  | _, [] => []
  | i, v :: r => (i, v) :: argsE (i + 1) r
theorem argsE_get (l : List Value) : ∀ (k t : Nat) (v : Value), look (argsE k l) t = some v → k ≤ t ∧ l[t - k]? = some v := by
  induction l with
  | nil => intro k t v h; simp [argsE, look] at h
  | cons x r ih =>
    intro k t v h
    simp only [argsE, look] at h
    by_cases e : t = k
    · subst e; simp at h; subst h; simp
    · rw [beqFalse e] at h
      obtain ⟨h1, h2⟩ := ih (k + 1) t v (by simpa using h)
      refine ⟨by omega, ?_⟩
      rw [show t - k = (t - (k + 1)) + 1 by omega, List.getElem?_cons_succ]
      exact h2

section
variable {P : Program} {N N' : Nat} {ops : Array Oper} {rest : List Oper} {Γ Γ' : Env} {C : World → Prop} {Q : Exit → Act → World → Prop} {d : Nat} {ty : TypeId} {pos : String} {af : Array Edge}
def InlPost (P : Program) (ops : Array Oper) (N d : Nat) (rest : List Oper) (Γ : Env) (Q : Exit → Act → World → Prop) : Ending → World → Prop :=
  fun e w' => ∃ v C', e = .returned v ∧ C' w' ∧ Wl rest P .seq ops N ((d, v) :: Γ) C' Q
theorem enterC {f : FuncId} {fn : Func} {c : Code} {vs : List Value} {R : Ending → World → Prop} (hf : P.funcs[f]? = some fn) (hn : fn.ntmps = N') (hb : fn.body = some c) (hN : Nat.ble vs.length N' = true)
    (h : St c P N' (argsE 0 vs) C (bodyPost P fn R)) (w : World) (hw : C w) : Calls P f vs.toArray w R := by
  refine calls_of_wp hf hb ?_
  have := h.elim _ w (Fr.start (N := N') (Nat.le_of_ble_eq_true hN) fun t v ht => by have := argsE_get vs 0 t v ht; simpa using this.2) hw
  rw [hn]
  exact this
theorem Wl.inline {f : FuncId} {fn : Func} {c : Code} {xs : Array Operand} {vs : List Value} {ts : Array TypeId} [he : FnE P f fn N'] [Ent P f] (hd : Nat.blt d N = true) (hx : Evs Γ xs.toList vs) (hb : fn.body = some c) (hN : Nat.ble vs.length N' = true)
    (h : St c P N' (argsE 0 vs) C (bodyPost P fn (InlPost P ops N d rest Γ Q))) : Wl (⟨some d, .call { callee := .value (.func f), args := xs, argTypes := ts }, ty, pos, af, none⟩ :: rest) P .seq ops N Γ C Q :=
  Wl.callC hd hx fun w hw => enterC he.out.1 he.out.2 hb hN h w hw
variable {fn : Func} {t u s r : Nat} {v v' v'' v3 : Value}
theorem Gt.inl1 (hr : fn.results = #[.tmp t]) (ht : look Γ' t = some v) (h : Wl rest P .seq ops N ((d, v) :: Γ) C Q) : Gt N' .ret Γ' C (bodyPost P fn (InlPost P ops N d rest Γ Q)) :=
  Gt.out1 hr ht fun _ hw => ⟨_, C, rfl, hw, h⟩
theorem Gt.inl2 (hr : fn.results = #[.tmp t, .tmp u]) (ht : look Γ' t = some v) (hu : look Γ' u = some v') (h : Wl rest P .seq ops N ((d, .tuple #[v, v']) :: Γ) C Q) : Gt N' .ret Γ' C (bodyPost P fn (InlPost P ops N d rest Γ Q)) :=
  Gt.out2 hr ht hu fun _ hw => ⟨_, C, rfl, hw, h⟩
theorem Gt.inl00n (hr : fn.results = #[]) (h : Wl rest P .seq ops N ((d, .tuple #[]) :: Γ) C Q) : Gt N' .normal Γ' C (bodyPost P fn (InlPost P ops N d rest Γ Q)) := Gt.out0n hr fun _ hw => ⟨_, C, rfl, hw, h⟩
end

theorem run_results_cell {P : Program} {fn : Func} {t ty n c i : Nat} {w : World} {tmps : Array Value} {xs : List Value} [ht : TyA P ty n] (hr : fn.results = #[.cell t ty]) (hv : tmps[t]? = some (.pointer (some ⟨c, i, none⟩))) (hn : xs.length = n)
    (hc : ∀ j v, xs[j]? = some v → w.cell? (Addr.add ⟨c, i, none⟩ j) = some v) : (results fn tmps).run P w = .ok (.agg xs.toArray) w := by
  have h := run_loadA (P := P) (t := ty) hn hc
  simp [results, hr, hv, asAddr, h]
theorem Gt.outC {P : Program} {N : Nat} {Γ : Env} {w0 : World} {H : List Blk} {fn : Func} {R : Ending → World → Prop} {t ty n c i bt : Nat} {cs xs : List Value} [TyA P ty n] (hr : fn.results = #[.cell t ty]) (ht : look Γ t = some (.pointer (some ⟨c, i, none⟩))) (hm : (⟨c, cs, bt⟩ : Blk) ∈ H) (hi' : LSub cs i n xs)
    (h : ∀ w, Hp w0 H w → R (.returned (.agg xs.toArray)) w) : Gt N .ret Γ (Hp w0 H) (bodyPost P fn R) := Gt.intro fun a w ha hw => by
  have hi := hi'.out.1
  have hn := hi'.out.2
  refine ⟨ha.defers, _, run_results_cell hr (ha.get _ _ ht) hn (fun j v hj => ?_), h w hw⟩
  rw [addLit]
  refine hw.cell hm ?_
  subst hi
  rw [List.getElem?_take] at hj
  split at hj
  · simpa [List.getElem?_drop] using hj
  · cases hj
theorem Gt.inlC {P : Program} {N N' d : Nat} {ops : Array Oper} {rest : List Oper} {Γ Γ' : Env} {Q : Exit → Act → World → Prop} {w0 : World} {H : List Blk} {fn : Func} {t ty n c i bt : Nat} {cs xs : List Value} [TyA P ty n] (hr : fn.results = #[.cell t ty]) (ht : look Γ' t = some (.pointer (some ⟨c, i, none⟩))) (hm : (⟨c, cs, bt⟩ : Blk) ∈ H) (hi' : LSub cs i n xs)
    (h : Wl rest P .seq ops N ((d, .agg xs.toArray) :: Γ) (Hp w0 H) Q) : Gt N' .ret Γ' (Hp w0 H) (bodyPost P fn (InlPost P ops N d rest Γ Q)) := Gt.outC hr ht hm hi' fun _ hw => ⟨_, Hp w0 H, rfl, hw, h⟩
section
variable {P : Program} {N n : Nat} {Γ Γ' : Env} {C : World → Prop} {Q Q' : Exit → Act → World → Prop} {c : Code}
end

end Go.Pt
end
section
namespace Go.Proofs.YtcefkbnachnciaaDoor
open Go.Pt

instance : TyD Tryd.prog 2 (.int .i64) := ⟨by kernel_rfl⟩
instance : TyS Tryd.prog 2 1 8 := ⟨by kernel_rfl⟩
instance : TyZ Tryd.prog 2 (.int .i64 0) := ⟨by kernel_rfl⟩
instance : TyC Tryd.prog 2 := ⟨by kernel_rfl, by kernel_rfl, by kernel_rfl⟩
instance : TyD Tryd.prog 3 (.int .i64) := ⟨by kernel_rfl⟩
instance : TyS Tryd.prog 3 1 8 := ⟨by kernel_rfl⟩
instance : TyZ Tryd.prog 3 (.int .i64 0) := ⟨by kernel_rfl⟩
instance : TyC Tryd.prog 3 := ⟨by kernel_rfl, by kernel_rfl, by kernel_rfl⟩
instance : TyD Tryd.prog 4 (.bool) := ⟨by kernel_rfl⟩
instance : TyS Tryd.prog 4 1 1 := ⟨by kernel_rfl⟩
instance : TyZ Tryd.prog 4 (.bool false) := ⟨by kernel_rfl⟩
instance : TyC Tryd.prog 4 := ⟨by kernel_rfl, by kernel_rfl, by kernel_rfl⟩
instance : TyD Tryd.prog 5 (.int .u8) := ⟨by kernel_rfl⟩
instance : TyS Tryd.prog 5 1 1 := ⟨by kernel_rfl⟩
instance : TyZ Tryd.prog 5 (.int .u8 0) := ⟨by kernel_rfl⟩
instance : TyC Tryd.prog 5 := ⟨by kernel_rfl, by kernel_rfl, by kernel_rfl⟩
instance : TyD Tryd.prog 6 (.int .u8) := ⟨by kernel_rfl⟩
instance : TyS Tryd.prog 6 1 1 := ⟨by kernel_rfl⟩
instance : TyZ Tryd.prog 6 (.int .u8 0) := ⟨by kernel_rfl⟩
instance : TyC Tryd.prog 6 := ⟨by kernel_rfl, by kernel_rfl, by kernel_rfl⟩
instance : TyS Tryd.prog 7 4 24 := ⟨by kernel_rfl⟩
instance : TyZ Tryd.prog 7 (.agg #[.int .i64 0, .int .i64 0, .bool false, .int .u8 0]) := ⟨by kernel_rfl⟩
instance : TyA Tryd.prog 7 4 := ⟨by kernel_rfl, by kernel_rfl⟩
instance : TyP Tryd.prog 7 [(0, 1), (1, 1), (2, 1), (3, 1)] [.int .i64 0, .int .i64 0, .bool false, .int .u8 0] := ⟨by kernel_rfl⟩
instance : Fld Tryd.prog 7 0 0 2 := ⟨by kernel_rfl⟩
instance : Fld Tryd.prog 7 1 1 3 := ⟨by kernel_rfl⟩
instance : Fld Tryd.prog 7 2 2 4 := ⟨by kernel_rfl⟩
instance : Fld Tryd.prog 7 3 3 6 := ⟨by kernel_rfl⟩
instance : TyS Tryd.prog 8 4 24 := ⟨by kernel_rfl⟩
instance : TyZ Tryd.prog 8 (.agg #[.int .i64 0, .int .i64 0, .bool false, .int .u8 0]) := ⟨by kernel_rfl⟩
instance : TyA Tryd.prog 8 4 := ⟨by kernel_rfl, by kernel_rfl⟩
instance : TyP Tryd.prog 8 [(0, 1), (1, 1), (2, 1), (3, 1)] [.int .i64 0, .int .i64 0, .bool false, .int .u8 0] := ⟨by kernel_rfl⟩
instance : Fld Tryd.prog 8 0 0 2 := ⟨by kernel_rfl⟩
instance : Fld Tryd.prog 8 1 1 3 := ⟨by kernel_rfl⟩
instance : Fld Tryd.prog 8 2 2 4 := ⟨by kernel_rfl⟩
instance : Fld Tryd.prog 8 3 3 6 := ⟨by kernel_rfl⟩
instance : TyD Tryd.prog 9 (.string) := ⟨by kernel_rfl⟩
instance : TyS Tryd.prog 9 1 16 := ⟨by kernel_rfl⟩
instance : TyZ Tryd.prog 9 (.string ⟨#[]⟩) := ⟨by kernel_rfl⟩
instance : TyC Tryd.prog 9 := ⟨by kernel_rfl, by kernel_rfl, by kernel_rfl⟩
instance : TyD Tryd.prog 10 (.string) := ⟨by kernel_rfl⟩
instance : TyS Tryd.prog 10 1 16 := ⟨by kernel_rfl⟩
instance : TyZ Tryd.prog 10 (.string ⟨#[]⟩) := ⟨by kernel_rfl⟩
instance : TyC Tryd.prog 10 := ⟨by kernel_rfl, by kernel_rfl, by kernel_rfl⟩
instance : TyD Tryd.prog 11 (.string) := ⟨by kernel_rfl⟩
instance : TyS Tryd.prog 11 1 16 := ⟨by kernel_rfl⟩
instance : TyZ Tryd.prog 11 (.string ⟨#[]⟩) := ⟨by kernel_rfl⟩
instance : TyC Tryd.prog 11 := ⟨by kernel_rfl, by kernel_rfl, by kernel_rfl⟩
instance : TyD Tryd.prog 12 (.int .u64) := ⟨by kernel_rfl⟩
instance : TyS Tryd.prog 12 1 8 := ⟨by kernel_rfl⟩
instance : TyZ Tryd.prog 12 (.int .u64 0) := ⟨by kernel_rfl⟩
instance : TyC Tryd.prog 12 := ⟨by kernel_rfl, by kernel_rfl, by kernel_rfl⟩
instance : TyS Tryd.prog 13 2 24 := ⟨by kernel_rfl⟩
instance : TyZ Tryd.prog 13 (.agg #[.string ⟨#[]⟩, .int .u64 0]) := ⟨by kernel_rfl⟩
instance : TyA Tryd.prog 13 2 := ⟨by kernel_rfl, by kernel_rfl⟩
instance : TyP Tryd.prog 13 [(0, 1), (1, 1)] [.string ⟨#[]⟩, .int .u64 0] := ⟨by kernel_rfl⟩
instance : Fld Tryd.prog 13 0 0 9 := ⟨by kernel_rfl⟩
instance : Fld Tryd.prog 13 1 1 12 := ⟨by kernel_rfl⟩
instance : TyS Tryd.prog 14 2 24 := ⟨by kernel_rfl⟩
instance : TyZ Tryd.prog 14 (.agg #[.string ⟨#[]⟩, .int .u64 0]) := ⟨by kernel_rfl⟩
instance : TyA Tryd.prog 14 2 := ⟨by kernel_rfl, by kernel_rfl⟩
instance : TyP Tryd.prog 14 [(0, 1), (1, 1)] [.string ⟨#[]⟩, .int .u64 0] := ⟨by kernel_rfl⟩
instance : Fld Tryd.prog 14 0 0 9 := ⟨by kernel_rfl⟩
instance : Fld Tryd.prog 14 1 1 12 := ⟨by kernel_rfl⟩
instance : TyD Tryd.prog 15 (.pointer 134) := ⟨by kernel_rfl⟩
instance : TyS Tryd.prog 15 1 8 := ⟨by kernel_rfl⟩
instance : TyZ Tryd.prog 15 (.pointer none) := ⟨by kernel_rfl⟩
instance : TyC Tryd.prog 15 := ⟨by kernel_rfl, by kernel_rfl, by kernel_rfl⟩
instance : TyD Tryd.prog 16 (.pointer 137) := ⟨by kernel_rfl⟩
instance : TyS Tryd.prog 16 1 8 := ⟨by kernel_rfl⟩
instance : TyZ Tryd.prog 16 (.pointer none) := ⟨by kernel_rfl⟩
instance : TyC Tryd.prog 16 := ⟨by kernel_rfl, by kernel_rfl, by kernel_rfl⟩
instance : TyD Tryd.prog 17 (.pointer 146) := ⟨by kernel_rfl⟩
instance : TyS Tryd.prog 17 1 8 := ⟨by kernel_rfl⟩
instance : TyZ Tryd.prog 17 (.pointer none) := ⟨by kernel_rfl⟩
instance : TyC Tryd.prog 17 := ⟨by kernel_rfl, by kernel_rfl, by kernel_rfl⟩
instance : TyS Tryd.prog 18 1 8 := ⟨by kernel_rfl⟩
instance : TyZ Tryd.prog 18 (.agg #[.pointer none]) := ⟨by kernel_rfl⟩
instance : TyA Tryd.prog 18 1 := ⟨by kernel_rfl, by kernel_rfl⟩
instance : TyP Tryd.prog 18 [(0, 1)] [.pointer none] := ⟨by kernel_rfl⟩
instance : Fld Tryd.prog 18 0 0 17 := ⟨by kernel_rfl⟩
instance : TyS Tryd.prog 19 1 8 := ⟨by kernel_rfl⟩
instance : TyZ Tryd.prog 19 (.agg #[.pointer none]) := ⟨by kernel_rfl⟩
instance : TyA Tryd.prog 19 1 := ⟨by kernel_rfl, by kernel_rfl⟩
instance : TyP Tryd.prog 19 [(0, 1)] [.pointer none] := ⟨by kernel_rfl⟩
instance : Fld Tryd.prog 19 0 0 17 := ⟨by kernel_rfl⟩
instance : TyD Tryd.prog 21 (.int .i32) := ⟨by kernel_rfl⟩
instance : TyS Tryd.prog 21 1 4 := ⟨by kernel_rfl⟩
instance : TyZ Tryd.prog 21 (.int .i32 0) := ⟨by kernel_rfl⟩
instance : TyC Tryd.prog 21 := ⟨by kernel_rfl, by kernel_rfl, by kernel_rfl⟩
instance : TyD Tryd.prog 22 (.int .u32) := ⟨by kernel_rfl⟩
instance : TyS Tryd.prog 22 1 4 := ⟨by kernel_rfl⟩
instance : TyZ Tryd.prog 22 (.int .u32 0) := ⟨by kernel_rfl⟩
instance : TyC Tryd.prog 22 := ⟨by kernel_rfl, by kernel_rfl, by kernel_rfl⟩
instance : TyD Tryd.prog 24 (.pointer 30) := ⟨by kernel_rfl⟩
instance : TyS Tryd.prog 24 1 8 := ⟨by kernel_rfl⟩
instance : TyZ Tryd.prog 24 (.pointer none) := ⟨by kernel_rfl⟩
instance : TyC Tryd.prog 24 := ⟨by kernel_rfl, by kernel_rfl, by kernel_rfl⟩
instance : TyD Tryd.prog 26 (.array 32 22) := ⟨by kernel_rfl⟩
instance : TyS Tryd.prog 26 32 128 := ⟨by kernel_rfl⟩
instance : TyZ Tryd.prog 26 (.agg #[.int .u32 0, .int .u32 0, .int .u32 0, .int .u32 0, .int .u32 0, .int .u32 0, .int .u32 0, .int .u32 0, .int .u32 0, .int .u32 0, .int .u32 0, .int .u32 0, .int .u32 0, .int .u32 0, .int .u32 0, .int .u32 0, .int .u32 0, .int .u32 0, .int .u32 0, .int .u32 0, .int .u32 0, .int .u32 0, .int .u32 0, .int .u32 0, .int .u32 0, .int .u32 0, .int .u32 0, .int .u32 0, .int .u32 0, .int .u32 0, .int .u32 0, .int .u32 0]) := ⟨by kernel_rfl⟩
instance : TyA Tryd.prog 26 32 := ⟨by kernel_rfl, by kernel_rfl⟩
instance : TyD Tryd.prog 27 (.pointer 54) := ⟨by kernel_rfl⟩
instance : TyS Tryd.prog 27 1 8 := ⟨by kernel_rfl⟩
instance : TyZ Tryd.prog 27 (.pointer none) := ⟨by kernel_rfl⟩
instance : TyC Tryd.prog 27 := ⟨by kernel_rfl, by kernel_rfl, by kernel_rfl⟩
instance : TyD Tryd.prog 28 (.pointer 94) := ⟨by kernel_rfl⟩
instance : TyS Tryd.prog 28 1 8 := ⟨by kernel_rfl⟩
instance : TyZ Tryd.prog 28 (.pointer none) := ⟨by kernel_rfl⟩
instance : TyC Tryd.prog 28 := ⟨by kernel_rfl, by kernel_rfl, by kernel_rfl⟩
instance : TyS Tryd.prog 29 35 152 := ⟨by kernel_rfl⟩
instance : TyZ Tryd.prog 29 (.agg #[.int .u32 0, .int .u32 0, .int .u32 0, .int .u32 0, .int .u32 0, .int .u32 0, .int .u32 0, .int .u32 0, .int .u32 0, .int .u32 0, .int .u32 0, .int .u32 0, .int .u32 0, .int .u32 0, .int .u32 0, .int .u32 0, .int .u32 0, .int .u32 0, .int .u32 0, .int .u32 0, .int .u32 0, .int .u32 0, .int .u32 0, .int .u32 0, .int .u32 0, .int .u32 0, .int .u32 0, .int .u32 0, .int .u32 0, .int .u32 0, .int .u32 0, .int .u32 0, .int .u32 0, .pointer none, .pointer none]) := ⟨by kernel_rfl⟩
instance : TyA Tryd.prog 29 35 := ⟨by kernel_rfl, by kernel_rfl⟩
instance : TyP Tryd.prog 29 [(0, 32), (32, 1), (33, 1), (34, 1)] [.int .u32 0, .int .u32 0, .int .u32 0, .int .u32 0, .int .u32 0, .int .u32 0, .int .u32 0, .int .u32 0, .int .u32 0, .int .u32 0, .int .u32 0, .int .u32 0, .int .u32 0, .int .u32 0, .int .u32 0, .int .u32 0, .int .u32 0, .int .u32 0, .int .u32 0, .int .u32 0, .int .u32 0, .int .u32 0, .int .u32 0, .int .u32 0, .int .u32 0, .int .u32 0, .int .u32 0, .int .u32 0, .int .u32 0, .int .u32 0, .int .u32 0, .int .u32 0, .int .u32 0, .pointer none, .pointer none] := ⟨by kernel_rfl⟩
instance : Fld Tryd.prog 29 0 0 26 := ⟨by kernel_rfl⟩
instance : Fld Tryd.prog 29 1 32 22 := ⟨by kernel_rfl⟩
instance : Fld Tryd.prog 29 2 33 27 := ⟨by kernel_rfl⟩
instance : Fld Tryd.prog 29 3 34 28 := ⟨by kernel_rfl⟩
instance : TyS Tryd.prog 30 35 152 := ⟨by kernel_rfl⟩
instance : TyZ Tryd.prog 30 (.agg #[.int .u32 0, .int .u32 0, .int .u32 0, .int .u32 0, .int .u32 0, .int .u32 0, .int .u32 0, .int .u32 0, .int .u32 0, .int .u32 0, .int .u32 0, .int .u32 0, .int .u32 0, .int .u32 0, .int .u32 0, .int .u32 0, .int .u32 0, .int .u32 0, .int .u32 0, .int .u32 0, .int .u32 0, .int .u32 0, .int .u32 0, .int .u32 0, .int .u32 0, .int .u32 0, .int .u32 0, .int .u32 0, .int .u32 0, .int .u32 0, .int .u32 0, .int .u32 0, .int .u32 0, .pointer none, .pointer none]) := ⟨by kernel_rfl⟩
instance : TyA Tryd.prog 30 35 := ⟨by kernel_rfl, by kernel_rfl⟩
instance : TyP Tryd.prog 30 [(0, 32), (32, 1), (33, 1), (34, 1)] [.int .u32 0, .int .u32 0, .int .u32 0, .int .u32 0, .int .u32 0, .int .u32 0, .int .u32 0, .int .u32 0, .int .u32 0, .int .u32 0, .int .u32 0, .int .u32 0, .int .u32 0, .int .u32 0, .int .u32 0, .int .u32 0, .int .u32 0, .int .u32 0, .int .u32 0, .int .u32 0, .int .u32 0, .int .u32 0, .int .u32 0, .int .u32 0, .int .u32 0, .int .u32 0, .int .u32 0, .int .u32 0, .int .u32 0, .int .u32 0, .int .u32 0, .int .u32 0, .int .u32 0, .pointer none, .pointer none] := ⟨by kernel_rfl⟩
instance : Fld Tryd.prog 30 0 0 26 := ⟨by kernel_rfl⟩
instance : Fld Tryd.prog 30 1 32 22 := ⟨by kernel_rfl⟩
instance : Fld Tryd.prog 30 2 33 27 := ⟨by kernel_rfl⟩
instance : Fld Tryd.prog 30 3 34 28 := ⟨by kernel_rfl⟩
instance : TyS Tryd.prog 31 7 40 := ⟨by kernel_rfl⟩
instance : TyZ Tryd.prog 31 (.agg #[.int .u32 0, .bool false, .int .u32 0, .int .u32 0, .int .u32 0, .int .i64 0, .bool false]) := ⟨by kernel_rfl⟩
instance : TyA Tryd.prog 31 7 := ⟨by kernel_rfl, by kernel_rfl⟩
instance : TyP Tryd.prog 31 [(0, 1), (1, 1), (2, 1), (3, 1), (4, 1), (5, 1), (6, 1)] [.int .u32 0, .bool false, .int .u32 0, .int .u32 0, .int .u32 0, .int .i64 0, .bool false] := ⟨by kernel_rfl⟩
instance : Fld Tryd.prog 31 0 0 22 := ⟨by kernel_rfl⟩
instance : Fld Tryd.prog 31 1 1 4 := ⟨by kernel_rfl⟩
instance : Fld Tryd.prog 31 2 2 22 := ⟨by kernel_rfl⟩
instance : Fld Tryd.prog 31 3 3 22 := ⟨by kernel_rfl⟩
instance : Fld Tryd.prog 31 4 4 22 := ⟨by kernel_rfl⟩
instance : Fld Tryd.prog 31 5 5 3 := ⟨by kernel_rfl⟩
instance : Fld Tryd.prog 31 6 6 4 := ⟨by kernel_rfl⟩
instance : TyS Tryd.prog 32 7 40 := ⟨by kernel_rfl⟩
instance : TyZ Tryd.prog 32 (.agg #[.int .u32 0, .bool false, .int .u32 0, .int .u32 0, .int .u32 0, .int .i64 0, .bool false]) := ⟨by kernel_rfl⟩
instance : TyA Tryd.prog 32 7 := ⟨by kernel_rfl, by kernel_rfl⟩
instance : TyP Tryd.prog 32 [(0, 1), (1, 1), (2, 1), (3, 1), (4, 1), (5, 1), (6, 1)] [.int .u32 0, .bool false, .int .u32 0, .int .u32 0, .int .u32 0, .int .i64 0, .bool false] := ⟨by kernel_rfl⟩
instance : Fld Tryd.prog 32 0 0 22 := ⟨by kernel_rfl⟩
instance : Fld Tryd.prog 32 1 1 4 := ⟨by kernel_rfl⟩
instance : Fld Tryd.prog 32 2 2 22 := ⟨by kernel_rfl⟩
instance : Fld Tryd.prog 32 3 3 22 := ⟨by kernel_rfl⟩
instance : Fld Tryd.prog 32 4 4 22 := ⟨by kernel_rfl⟩
instance : Fld Tryd.prog 32 5 5 3 := ⟨by kernel_rfl⟩
instance : Fld Tryd.prog 32 6 6 4 := ⟨by kernel_rfl⟩
instance : TyD Tryd.prog 35 (.slice 22) := ⟨by kernel_rfl⟩
instance : TyS Tryd.prog 35 1 24 := ⟨by kernel_rfl⟩
instance : TyZ Tryd.prog 35 (.slice none 0 0) := ⟨by kernel_rfl⟩
instance : TyC Tryd.prog 35 := ⟨by kernel_rfl, by kernel_rfl, by kernel_rfl⟩
instance : TyD Tryd.prog 36 (.slice 56) := ⟨by kernel_rfl⟩
instance : TyS Tryd.prog 36 1 24 := ⟨by kernel_rfl⟩
instance : TyZ Tryd.prog 36 (.slice none 0 0) := ⟨by kernel_rfl⟩
instance : TyC Tryd.prog 36 := ⟨by kernel_rfl, by kernel_rfl, by kernel_rfl⟩
instance : TyD Tryd.prog 37 (.slice 49) := ⟨by kernel_rfl⟩
instance : TyS Tryd.prog 37 1 24 := ⟨by kernel_rfl⟩
instance : TyZ Tryd.prog 37 (.slice none 0 0) := ⟨by kernel_rfl⟩
instance : TyC Tryd.prog 37 := ⟨by kernel_rfl, by kernel_rfl, by kernel_rfl⟩
instance : TyS Tryd.prog 38 6 112 := ⟨by kernel_rfl⟩
instance : TyZ Tryd.prog 38 (.agg #[.slice none 0 0, .slice none 0 0, .slice none 0 0, .bool false, .slice none 0 0, .int .u32 0]) := ⟨by kernel_rfl⟩
instance : TyA Tryd.prog 38 6 := ⟨by kernel_rfl, by kernel_rfl⟩
instance : TyP Tryd.prog 38 [(0, 1), (1, 1), (2, 1), (3, 1), (4, 1), (5, 1)] [.slice none 0 0, .slice none 0 0, .slice none 0 0, .bool false, .slice none 0 0, .int .u32 0] := ⟨by kernel_rfl⟩
instance : Fld Tryd.prog 38 0 0 35 := ⟨by kernel_rfl⟩
instance : Fld Tryd.prog 38 1 1 36 := ⟨by kernel_rfl⟩
instance : Fld Tryd.prog 38 2 2 37 := ⟨by kernel_rfl⟩
instance : Fld Tryd.prog 38 3 3 4 := ⟨by kernel_rfl⟩
instance : Fld Tryd.prog 38 4 4 36 := ⟨by kernel_rfl⟩
instance : Fld Tryd.prog 38 5 5 22 := ⟨by kernel_rfl⟩
instance : TyS Tryd.prog 39 6 112 := ⟨by kernel_rfl⟩
instance : TyZ Tryd.prog 39 (.agg #[.slice none 0 0, .slice none 0 0, .slice none 0 0, .bool false, .slice none 0 0, .int .u32 0]) := ⟨by kernel_rfl⟩
instance : TyA Tryd.prog 39 6 := ⟨by kernel_rfl, by kernel_rfl⟩
instance : TyP Tryd.prog 39 [(0, 1), (1, 1), (2, 1), (3, 1), (4, 1), (5, 1)] [.slice none 0 0, .slice none 0 0, .slice none 0 0, .bool false, .slice none 0 0, .int .u32 0] := ⟨by kernel_rfl⟩
instance : Fld Tryd.prog 39 0 0 35 := ⟨by kernel_rfl⟩
instance : Fld Tryd.prog 39 1 1 36 := ⟨by kernel_rfl⟩
instance : Fld Tryd.prog 39 2 2 37 := ⟨by kernel_rfl⟩
instance : Fld Tryd.prog 39 3 3 4 := ⟨by kernel_rfl⟩
instance : Fld Tryd.prog 39 4 4 36 := ⟨by kernel_rfl⟩
instance : Fld Tryd.prog 39 5 5 22 := ⟨by kernel_rfl⟩
instance : TyD Tryd.prog 40 (.pointer 44) := ⟨by kernel_rfl⟩
instance : TyS Tryd.prog 40 1 8 := ⟨by kernel_rfl⟩
instance : TyZ Tryd.prog 40 (.pointer none) := ⟨by kernel_rfl⟩
instance : TyC Tryd.prog 40 := ⟨by kernel_rfl, by kernel_rfl, by kernel_rfl⟩
instance : TyD Tryd.prog 42 (.pointer 82) := ⟨by kernel_rfl⟩
instance : TyS Tryd.prog 42 1 8 := ⟨by kernel_rfl⟩
instance : TyZ Tryd.prog 42 (.pointer none) := ⟨by kernel_rfl⟩
instance : TyC Tryd.prog 42 := ⟨by kernel_rfl, by kernel_rfl, by kernel_rfl⟩
instance : TyS Tryd.prog 43 2 16 := ⟨by kernel_rfl⟩
instance : TyZ Tryd.prog 43 (.agg #[.pointer none, .pointer none]) := ⟨by kernel_rfl⟩
instance : TyA Tryd.prog 43 2 := ⟨by kernel_rfl, by kernel_rfl⟩
instance : TyP Tryd.prog 43 [(0, 1), (1, 1)] [.pointer none, .pointer none] := ⟨by kernel_rfl⟩
instance : Fld Tryd.prog 43 0 0 24 := ⟨by kernel_rfl⟩
instance : Fld Tryd.prog 43 1 1 42 := ⟨by kernel_rfl⟩
instance : TyS Tryd.prog 44 2 16 := ⟨by kernel_rfl⟩
instance : TyZ Tryd.prog 44 (.agg #[.pointer none, .pointer none]) := ⟨by kernel_rfl⟩
instance : TyA Tryd.prog 44 2 := ⟨by kernel_rfl, by kernel_rfl⟩
instance : TyP Tryd.prog 44 [(0, 1), (1, 1)] [.pointer none, .pointer none] := ⟨by kernel_rfl⟩
instance : Fld Tryd.prog 44 0 0 24 := ⟨by kernel_rfl⟩
instance : Fld Tryd.prog 44 1 1 42 := ⟨by kernel_rfl⟩
instance : TyS Tryd.prog 48 3 24 := ⟨by kernel_rfl⟩
instance : TyZ Tryd.prog 48 (.agg #[.int .i64 0, .int .i64 0, .int .u32 0]) := ⟨by kernel_rfl⟩
instance : TyA Tryd.prog 48 3 := ⟨by kernel_rfl, by kernel_rfl⟩
instance : TyP Tryd.prog 48 [(0, 1), (1, 1), (2, 1)] [.int .i64 0, .int .i64 0, .int .u32 0] := ⟨by kernel_rfl⟩
instance : Fld Tryd.prog 48 0 0 3 := ⟨by kernel_rfl⟩
instance : Fld Tryd.prog 48 1 1 3 := ⟨by kernel_rfl⟩
instance : Fld Tryd.prog 48 2 2 22 := ⟨by kernel_rfl⟩
instance : TyS Tryd.prog 49 3 24 := ⟨by kernel_rfl⟩
instance : TyZ Tryd.prog 49 (.agg #[.int .i64 0, .int .i64 0, .int .u32 0]) := ⟨by kernel_rfl⟩
instance : TyA Tryd.prog 49 3 := ⟨by kernel_rfl, by kernel_rfl⟩
instance : TyP Tryd.prog 49 [(0, 1), (1, 1), (2, 1)] [.int .i64 0, .int .i64 0, .int .u32 0] := ⟨by kernel_rfl⟩
instance : Fld Tryd.prog 49 0 0 3 := ⟨by kernel_rfl⟩
instance : Fld Tryd.prog 49 1 1 3 := ⟨by kernel_rfl⟩
instance : Fld Tryd.prog 49 2 2 22 := ⟨by kernel_rfl⟩
instance : TyD Tryd.prog 50 (.array 16 5) := ⟨by kernel_rfl⟩
instance : TyS Tryd.prog 50 16 16 := ⟨by kernel_rfl⟩
instance : TyZ Tryd.prog 50 (.agg #[.int .u8 0, .int .u8 0, .int .u8 0, .int .u8 0, .int .u8 0, .int .u8 0, .int .u8 0, .int .u8 0, .int .u8 0, .int .u8 0, .int .u8 0, .int .u8 0, .int .u8 0, .int .u8 0, .int .u8 0, .int .u8 0]) := ⟨by kernel_rfl⟩
instance : TyA Tryd.prog 50 16 := ⟨by kernel_rfl, by kernel_rfl⟩
instance : TyD Tryd.prog 51 (.array 16 22) := ⟨by kernel_rfl⟩
instance : TyS Tryd.prog 51 16 64 := ⟨by kernel_rfl⟩
instance : TyZ Tryd.prog 51 (.agg #[.int .u32 0, .int .u32 0, .int .u32 0, .int .u32 0, .int .u32 0, .int .u32 0, .int .u32 0, .int .u32 0, .int .u32 0, .int .u32 0, .int .u32 0, .int .u32 0, .int .u32 0, .int .u32 0, .int .u32 0, .int .u32 0]) := ⟨by kernel_rfl⟩
instance : TyA Tryd.prog 51 16 := ⟨by kernel_rfl, by kernel_rfl⟩
instance : TyD Tryd.prog 52 (.int .u64) := ⟨by kernel_rfl⟩
instance : TyS Tryd.prog 52 1 8 := ⟨by kernel_rfl⟩
instance : TyZ Tryd.prog 52 (.int .u64 0) := ⟨by kernel_rfl⟩
instance : TyC Tryd.prog 52 := ⟨by kernel_rfl, by kernel_rfl, by kernel_rfl⟩
instance : TyS Tryd.prog 53 43 136 := ⟨by kernel_rfl⟩
instance : TyZ Tryd.prog 53 (.agg #[.int .i64 0, .int .u32 0, .int .u32 0, .int .u32 0, .int .u32 0, .int .u32 0, .int .u32 0, .int .u32 0, .int .u32 0, .int .u8 0, .int .u8 0, .int .u8 0, .int .u8 0, .int .u8 0, .int .u8 0, .int .u8 0, .int .u8 0, .int .u8 0, .int .u8 0, .int .u8 0, .int .u8 0, .int .u8 0, .int .u8 0, .int .u8 0, .int .u8 0, .int .u32 0, .int .u32 0, .int .u32 0, .int .u32 0, .int .u32 0, .int .u32 0, .int .u32 0, .int .u32 0, .int .u32 0, .int .u32 0, .int .u32 0, .int .u32 0, .int .u32 0, .int .u32 0, .int .u32 0, .int .u32 0, .int .u64 0, .int .u64 0]) := ⟨by kernel_rfl⟩
instance : TyA Tryd.prog 53 43 := ⟨by kernel_rfl, by kernel_rfl⟩
instance : TyP Tryd.prog 53 [(0, 1), (1, 1), (2, 1), (3, 1), (4, 1), (5, 1), (6, 1), (7, 1), (8, 1), (9, 16), (25, 16), (41, 1), (42, 1)] [.int .i64 0, .int .u32 0, .int .u32 0, .int .u32 0, .int .u32 0, .int .u32 0, .int .u32 0, .int .u32 0, .int .u32 0, .int .u8 0, .int .u8 0, .int .u8 0, .int .u8 0, .int .u8 0, .int .u8 0, .int .u8 0, .int .u8 0, .int .u8 0, .int .u8 0, .int .u8 0, .int .u8 0, .int .u8 0, .int .u8 0, .int .u8 0, .int .u8 0, .int .u32 0, .int .u32 0, .int .u32 0, .int .u32 0, .int .u32 0, .int .u32 0, .int .u32 0, .int .u32 0, .int .u32 0, .int .u32 0, .int .u32 0, .int .u32 0, .int .u32 0, .int .u32 0, .int .u32 0, .int .u32 0, .int .u64 0, .int .u64 0] := ⟨by kernel_rfl⟩
instance : Fld Tryd.prog 53 0 0 3 := ⟨by kernel_rfl⟩
instance : Fld Tryd.prog 53 1 1 22 := ⟨by kernel_rfl⟩
instance : Fld Tryd.prog 53 2 2 22 := ⟨by kernel_rfl⟩
instance : Fld Tryd.prog 53 3 3 22 := ⟨by kernel_rfl⟩
instance : Fld Tryd.prog 53 4 4 22 := ⟨by kernel_rfl⟩
instance : Fld Tryd.prog 53 5 5 22 := ⟨by kernel_rfl⟩
instance : Fld Tryd.prog 53 6 6 22 := ⟨by kernel_rfl⟩
instance : Fld Tryd.prog 53 7 7 22 := ⟨by kernel_rfl⟩
instance : Fld Tryd.prog 53 8 8 22 := ⟨by kernel_rfl⟩
instance : Fld Tryd.prog 53 9 9 50 := ⟨by kernel_rfl⟩
instance : Fld Tryd.prog 53 10 25 51 := ⟨by kernel_rfl⟩
instance : Fld Tryd.prog 53 11 41 52 := ⟨by kernel_rfl⟩
instance : Fld Tryd.prog 53 12 42 52 := ⟨by kernel_rfl⟩
instance : TyS Tryd.prog 54 43 136 := ⟨by kernel_rfl⟩
instance : TyZ Tryd.prog 54 (.agg #[.int .i64 0, .int .u32 0, .int .u32 0, .int .u32 0, .int .u32 0, .int .u32 0, .int .u32 0, .int .u32 0, .int .u32 0, .int .u8 0, .int .u8 0, .int .u8 0, .int .u8 0, .int .u8 0, .int .u8 0, .int .u8 0, .int .u8 0, .int .u8 0, .int .u8 0, .int .u8 0, .int .u8 0, .int .u8 0, .int .u8 0, .int .u8 0, .int .u8 0, .int .u32 0, .int .u32 0, .int .u32 0, .int .u32 0, .int .u32 0, .int .u32 0, .int .u32 0, .int .u32 0, .int .u32 0, .int .u32 0, .int .u32 0, .int .u32 0, .int .u32 0, .int .u32 0, .int .u32 0, .int .u32 0, .int .u64 0, .int .u64 0]) := ⟨by kernel_rfl⟩
instance : TyA Tryd.prog 54 43 := ⟨by kernel_rfl, by kernel_rfl⟩
instance : TyP Tryd.prog 54 [(0, 1), (1, 1), (2, 1), (3, 1), (4, 1), (5, 1), (6, 1), (7, 1), (8, 1), (9, 16), (25, 16), (41, 1), (42, 1)] [.int .i64 0, .int .u32 0, .int .u32 0, .int .u32 0, .int .u32 0, .int .u32 0, .int .u32 0, .int .u32 0, .int .u32 0, .int .u8 0, .int .u8 0, .int .u8 0, .int .u8 0, .int .u8 0, .int .u8 0, .int .u8 0, .int .u8 0, .int .u8 0, .int .u8 0, .int .u8 0, .int .u8 0, .int .u8 0, .int .u8 0, .int .u8 0, .int .u8 0, .int .u32 0, .int .u32 0, .int .u32 0, .int .u32 0, .int .u32 0, .int .u32 0, .int .u32 0, .int .u32 0, .int .u32 0, .int .u32 0, .int .u32 0, .int .u32 0, .int .u32 0, .int .u32 0, .int .u32 0, .int .u32 0, .int .u64 0, .int .u64 0] := ⟨by kernel_rfl⟩
instance : Fld Tryd.prog 54 0 0 3 := ⟨by kernel_rfl⟩
instance : Fld Tryd.prog 54 1 1 22 := ⟨by kernel_rfl⟩
instance : Fld Tryd.prog 54 2 2 22 := ⟨by kernel_rfl⟩
instance : Fld Tryd.prog 54 3 3 22 := ⟨by kernel_rfl⟩
instance : Fld Tryd.prog 54 4 4 22 := ⟨by kernel_rfl⟩
instance : Fld Tryd.prog 54 5 5 22 := ⟨by kernel_rfl⟩
instance : Fld Tryd.prog 54 6 6 22 := ⟨by kernel_rfl⟩
instance : Fld Tryd.prog 54 7 7 22 := ⟨by kernel_rfl⟩
instance : Fld Tryd.prog 54 8 8 22 := ⟨by kernel_rfl⟩
instance : Fld Tryd.prog 54 9 9 50 := ⟨by kernel_rfl⟩
instance : Fld Tryd.prog 54 10 25 51 := ⟨by kernel_rfl⟩
instance : Fld Tryd.prog 54 11 41 52 := ⟨by kernel_rfl⟩
instance : Fld Tryd.prog 54 12 42 52 := ⟨by kernel_rfl⟩
instance : TyD Tryd.prog 56 (.array 2 22) := ⟨by kernel_rfl⟩
instance : TyS Tryd.prog 56 2 8 := ⟨by kernel_rfl⟩
instance : TyZ Tryd.prog 56 (.agg #[.int .u32 0, .int .u32 0]) := ⟨by kernel_rfl⟩
instance : TyA Tryd.prog 56 2 := ⟨by kernel_rfl, by kernel_rfl⟩
instance : TyD Tryd.prog 60 (.slice 5) := ⟨by kernel_rfl⟩
instance : TyS Tryd.prog 60 1 24 := ⟨by kernel_rfl⟩
instance : TyZ Tryd.prog 60 (.slice none 0 0) := ⟨by kernel_rfl⟩
instance : TyC Tryd.prog 60 := ⟨by kernel_rfl, by kernel_rfl, by kernel_rfl⟩
instance : TyD Tryd.prog 61 (.int .i64) := ⟨by kernel_rfl⟩
instance : TyS Tryd.prog 61 1 8 := ⟨by kernel_rfl⟩
instance : TyZ Tryd.prog 61 (.int .i64 0) := ⟨by kernel_rfl⟩
instance : TyC Tryd.prog 61 := ⟨by kernel_rfl, by kernel_rfl, by kernel_rfl⟩
instance : TyS Tryd.prog 72 5 40 := ⟨by kernel_rfl⟩
instance : TyZ Tryd.prog 72 (.agg #[.int .i64 0, .int .i64 0, .int .i64 0, .int .i64 0, .int .u32 0]) := ⟨by kernel_rfl⟩
instance : TyA Tryd.prog 72 5 := ⟨by kernel_rfl, by kernel_rfl⟩
instance : TyP Tryd.prog 72 [(0, 1), (1, 1), (2, 1), (3, 1), (4, 1)] [.int .i64 0, .int .i64 0, .int .i64 0, .int .i64 0, .int .u32 0] := ⟨by kernel_rfl⟩
instance : Fld Tryd.prog 72 0 0 3 := ⟨by kernel_rfl⟩
instance : Fld Tryd.prog 72 1 1 3 := ⟨by kernel_rfl⟩
instance : Fld Tryd.prog 72 2 2 3 := ⟨by kernel_rfl⟩
instance : Fld Tryd.prog 72 3 3 3 := ⟨by kernel_rfl⟩
instance : Fld Tryd.prog 72 4 4 22 := ⟨by kernel_rfl⟩
instance : TyS Tryd.prog 73 5 40 := ⟨by kernel_rfl⟩
instance : TyZ Tryd.prog 73 (.agg #[.int .i64 0, .int .i64 0, .int .i64 0, .int .i64 0, .int .u32 0]) := ⟨by kernel_rfl⟩
instance : TyA Tryd.prog 73 5 := ⟨by kernel_rfl, by kernel_rfl⟩
instance : TyP Tryd.prog 73 [(0, 1), (1, 1), (2, 1), (3, 1), (4, 1)] [.int .i64 0, .int .i64 0, .int .i64 0, .int .i64 0, .int .u32 0] := ⟨by kernel_rfl⟩
instance : Fld Tryd.prog 73 0 0 3 := ⟨by kernel_rfl⟩
instance : Fld Tryd.prog 73 1 1 3 := ⟨by kernel_rfl⟩
instance : Fld Tryd.prog 73 2 2 3 := ⟨by kernel_rfl⟩
instance : Fld Tryd.prog 73 3 3 3 := ⟨by kernel_rfl⟩
instance : Fld Tryd.prog 73 4 4 22 := ⟨by kernel_rfl⟩
instance : TyD Tryd.prog 75 (.pointer 116) := ⟨by kernel_rfl⟩
instance : TyS Tryd.prog 75 1 8 := ⟨by kernel_rfl⟩
instance : TyZ Tryd.prog 75 (.pointer none) := ⟨by kernel_rfl⟩
instance : TyC Tryd.prog 75 := ⟨by kernel_rfl, by kernel_rfl, by kernel_rfl⟩
instance : TyD Tryd.prog 78 (.pointer 89) := ⟨by kernel_rfl⟩
instance : TyS Tryd.prog 78 1 8 := ⟨by kernel_rfl⟩
instance : TyZ Tryd.prog 78 (.pointer none) := ⟨by kernel_rfl⟩
instance : TyC Tryd.prog 78 := ⟨by kernel_rfl, by kernel_rfl, by kernel_rfl⟩
instance : TyD Tryd.prog 80 (.array 32 3) := ⟨by kernel_rfl⟩
instance : TyS Tryd.prog 80 32 256 := ⟨by kernel_rfl⟩
instance : TyZ Tryd.prog 80 (.agg #[.int .i64 0, .int .i64 0, .int .i64 0, .int .i64 0, .int .i64 0, .int .i64 0, .int .i64 0, .int .i64 0, .int .i64 0, .int .i64 0, .int .i64 0, .int .i64 0, .int .i64 0, .int .i64 0, .int .i64 0, .int .i64 0, .int .i64 0, .int .i64 0, .int .i64 0, .int .i64 0, .int .i64 0, .int .i64 0, .int .i64 0, .int .i64 0, .int .i64 0, .int .i64 0, .int .i64 0, .int .i64 0, .int .i64 0, .int .i64 0, .int .i64 0, .int .i64 0]) := ⟨by kernel_rfl⟩
instance : TyA Tryd.prog 80 32 := ⟨by kernel_rfl, by kernel_rfl⟩
instance : TyS Tryd.prog 81 35 280 := ⟨by kernel_rfl⟩
instance : TyZ Tryd.prog 81 (.agg #[.int .i64 0, .int .i64 0, .int .i64 0, .int .i64 0, .int .i64 0, .int .i64 0, .int .i64 0, .int .i64 0, .int .i64 0, .int .i64 0, .int .i64 0, .int .i64 0, .int .i64 0, .int .i64 0, .int .i64 0, .int .i64 0, .int .i64 0, .int .i64 0, .int .i64 0, .int .i64 0, .int .i64 0, .int .i64 0, .int .i64 0, .int .i64 0, .int .i64 0, .int .i64 0, .int .i64 0, .int .i64 0, .int .i64 0, .int .i64 0, .int .i64 0, .int .i64 0, .int .i64 0, .pointer none, .pointer none]) := ⟨by kernel_rfl⟩
instance : TyA Tryd.prog 81 35 := ⟨by kernel_rfl, by kernel_rfl⟩
instance : TyP Tryd.prog 81 [(0, 32), (32, 1), (33, 1), (34, 1)] [.int .i64 0, .int .i64 0, .int .i64 0, .int .i64 0, .int .i64 0, .int .i64 0, .int .i64 0, .int .i64 0, .int .i64 0, .int .i64 0, .int .i64 0, .int .i64 0, .int .i64 0, .int .i64 0, .int .i64 0, .int .i64 0, .int .i64 0, .int .i64 0, .int .i64 0, .int .i64 0, .int .i64 0, .int .i64 0, .int .i64 0, .int .i64 0, .int .i64 0, .int .i64 0, .int .i64 0, .int .i64 0, .int .i64 0, .int .i64 0, .int .i64 0, .int .i64 0, .int .i64 0, .pointer none, .pointer none] := ⟨by kernel_rfl⟩
instance : Fld Tryd.prog 81 0 0 80 := ⟨by kernel_rfl⟩
instance : Fld Tryd.prog 81 1 32 3 := ⟨by kernel_rfl⟩
instance : Fld Tryd.prog 81 2 33 78 := ⟨by kernel_rfl⟩
instance : Fld Tryd.prog 81 3 34 75 := ⟨by kernel_rfl⟩
instance : TyS Tryd.prog 82 35 280 := ⟨by kernel_rfl⟩
instance : TyZ Tryd.prog 82 (.agg #[.int .i64 0, .int .i64 0, .int .i64 0, .int .i64 0, .int .i64 0, .int .i64 0, .int .i64 0, .int .i64 0, .int .i64 0, .int .i64 0, .int .i64 0, .int .i64 0, .int .i64 0, .int .i64 0, .int .i64 0, .int .i64 0, .int .i64 0, .int .i64 0, .int .i64 0, .int .i64 0, .int .i64 0, .int .i64 0, .int .i64 0, .int .i64 0, .int .i64 0, .int .i64 0, .int .i64 0, .int .i64 0, .int .i64 0, .int .i64 0, .int .i64 0, .int .i64 0, .int .i64 0, .pointer none, .pointer none]) := ⟨by kernel_rfl⟩
instance : TyA Tryd.prog 82 35 := ⟨by kernel_rfl, by kernel_rfl⟩
instance : TyP Tryd.prog 82 [(0, 32), (32, 1), (33, 1), (34, 1)] [.int .i64 0, .int .i64 0, .int .i64 0, .int .i64 0, .int .i64 0, .int .i64 0, .int .i64 0, .int .i64 0, .int .i64 0, .int .i64 0, .int .i64 0, .int .i64 0, .int .i64 0, .int .i64 0, .int .i64 0, .int .i64 0, .int .i64 0, .int .i64 0, .int .i64 0, .int .i64 0, .int .i64 0, .int .i64 0, .int .i64 0, .int .i64 0, .int .i64 0, .int .i64 0, .int .i64 0, .int .i64 0, .int .i64 0, .int .i64 0, .int .i64 0, .int .i64 0, .int .i64 0, .pointer none, .pointer none] := ⟨by kernel_rfl⟩
instance : Fld Tryd.prog 82 0 0 80 := ⟨by kernel_rfl⟩
instance : Fld Tryd.prog 82 1 32 3 := ⟨by kernel_rfl⟩
instance : Fld Tryd.prog 82 2 33 78 := ⟨by kernel_rfl⟩
instance : Fld Tryd.prog 82 3 34 75 := ⟨by kernel_rfl⟩
instance : TyD Tryd.prog 86 (.map 3 3) := ⟨by kernel_rfl⟩
instance : TyS Tryd.prog 86 1 8 := ⟨by kernel_rfl⟩
instance : TyZ Tryd.prog 86 (.map none) := ⟨by kernel_rfl⟩
instance : TyC Tryd.prog 86 := ⟨by kernel_rfl, by kernel_rfl, by kernel_rfl⟩
instance : TyD Tryd.prog 87 (.array 16 3) := ⟨by kernel_rfl⟩
instance : TyS Tryd.prog 87 16 128 := ⟨by kernel_rfl⟩
instance : TyZ Tryd.prog 87 (.agg #[.int .i64 0, .int .i64 0, .int .i64 0, .int .i64 0, .int .i64 0, .int .i64 0, .int .i64 0, .int .i64 0, .int .i64 0, .int .i64 0, .int .i64 0, .int .i64 0, .int .i64 0, .int .i64 0, .int .i64 0, .int .i64 0]) := ⟨by kernel_rfl⟩
instance : TyA Tryd.prog 87 16 := ⟨by kernel_rfl, by kernel_rfl⟩
instance : TyS Tryd.prog 88 20 160 := ⟨by kernel_rfl⟩
instance : TyZ Tryd.prog 88 (.agg #[.int .i64 0, .map none, .int .i64 0, .int .i64 0, .int .i64 0, .int .i64 0, .int .i64 0, .int .i64 0, .int .i64 0, .int .i64 0, .int .i64 0, .int .i64 0, .int .i64 0, .int .i64 0, .int .i64 0, .int .i64 0, .int .i64 0, .int .i64 0, .int .u64 0, .int .u64 0]) := ⟨by kernel_rfl⟩
instance : TyA Tryd.prog 88 20 := ⟨by kernel_rfl, by kernel_rfl⟩
instance : TyP Tryd.prog 88 [(0, 1), (1, 1), (2, 16), (18, 1), (19, 1)] [.int .i64 0, .map none, .int .i64 0, .int .i64 0, .int .i64 0, .int .i64 0, .int .i64 0, .int .i64 0, .int .i64 0, .int .i64 0, .int .i64 0, .int .i64 0, .int .i64 0, .int .i64 0, .int .i64 0, .int .i64 0, .int .i64 0, .int .i64 0, .int .u64 0, .int .u64 0] := ⟨by kernel_rfl⟩
instance : Fld Tryd.prog 88 0 0 3 := ⟨by kernel_rfl⟩
instance : Fld Tryd.prog 88 1 1 86 := ⟨by kernel_rfl⟩
instance : Fld Tryd.prog 88 2 2 87 := ⟨by kernel_rfl⟩
instance : Fld Tryd.prog 88 3 18 52 := ⟨by kernel_rfl⟩
instance : Fld Tryd.prog 88 4 19 52 := ⟨by kernel_rfl⟩
instance : TyS Tryd.prog 89 20 160 := ⟨by kernel_rfl⟩
instance : TyZ Tryd.prog 89 (.agg #[.int .i64 0, .map none, .int .i64 0, .int .i64 0, .int .i64 0, .int .i64 0, .int .i64 0, .int .i64 0, .int .i64 0, .int .i64 0, .int .i64 0, .int .i64 0, .int .i64 0, .int .i64 0, .int .i64 0, .int .i64 0, .int .i64 0, .int .i64 0, .int .u64 0, .int .u64 0]) := ⟨by kernel_rfl⟩
instance : TyA Tryd.prog 89 20 := ⟨by kernel_rfl, by kernel_rfl⟩
instance : TyP Tryd.prog 89 [(0, 1), (1, 1), (2, 16), (18, 1), (19, 1)] [.int .i64 0, .map none, .int .i64 0, .int .i64 0, .int .i64 0, .int .i64 0, .int .i64 0, .int .i64 0, .int .i64 0, .int .i64 0, .int .i64 0, .int .i64 0, .int .i64 0, .int .i64 0, .int .i64 0, .int .i64 0, .int .i64 0, .int .i64 0, .int .u64 0, .int .u64 0] := ⟨by kernel_rfl⟩
instance : Fld Tryd.prog 89 0 0 3 := ⟨by kernel_rfl⟩
instance : Fld Tryd.prog 89 1 1 86 := ⟨by kernel_rfl⟩
instance : Fld Tryd.prog 89 2 2 87 := ⟨by kernel_rfl⟩
instance : Fld Tryd.prog 89 3 18 52 := ⟨by kernel_rfl⟩
instance : Fld Tryd.prog 89 4 19 52 := ⟨by kernel_rfl⟩
instance : TyD Tryd.prog 91 (.int .u64) := ⟨by kernel_rfl⟩
instance : TyS Tryd.prog 91 1 8 := ⟨by kernel_rfl⟩
instance : TyZ Tryd.prog 91 (.int .u64 0) := ⟨by kernel_rfl⟩
instance : TyC Tryd.prog 91 := ⟨by kernel_rfl, by kernel_rfl, by kernel_rfl⟩
instance : TyD Tryd.prog 92 (.array 65536 5) := ⟨by kernel_rfl⟩
instance : TyS Tryd.prog 92 65536 65536 := ⟨by kernel_rfl⟩
instance : TyA Tryd.prog 92 65536 := ⟨by kernel_rfl, by kernel_rfl⟩
instance : TyS Tryd.prog 93 65536 65536 := ⟨by kernel_rfl⟩
instance : TyA Tryd.prog 93 65536 := ⟨by kernel_rfl, by kernel_rfl⟩
instance : Fld Tryd.prog 93 0 0 92 := ⟨by kernel_rfl⟩
instance : TyS Tryd.prog 94 65536 65536 := ⟨by kernel_rfl⟩
instance : TyA Tryd.prog 94 65536 := ⟨by kernel_rfl, by kernel_rfl⟩
instance : Fld Tryd.prog 94 0 0 92 := ⟨by kernel_rfl⟩
instance : TyD Tryd.prog 114 (.map 3 5) := ⟨by kernel_rfl⟩
instance : TyS Tryd.prog 114 1 8 := ⟨by kernel_rfl⟩
instance : TyZ Tryd.prog 114 (.map none) := ⟨by kernel_rfl⟩
instance : TyC Tryd.prog 114 := ⟨by kernel_rfl, by kernel_rfl, by kernel_rfl⟩
instance : TyS Tryd.prog 115 1 8 := ⟨by kernel_rfl⟩
instance : TyZ Tryd.prog 115 (.agg #[.map none]) := ⟨by kernel_rfl⟩
instance : TyA Tryd.prog 115 1 := ⟨by kernel_rfl, by kernel_rfl⟩
instance : TyP Tryd.prog 115 [(0, 1)] [.map none] := ⟨by kernel_rfl⟩
instance : Fld Tryd.prog 115 0 0 114 := ⟨by kernel_rfl⟩
instance : TyS Tryd.prog 116 1 8 := ⟨by kernel_rfl⟩
instance : TyZ Tryd.prog 116 (.agg #[.map none]) := ⟨by kernel_rfl⟩
instance : TyA Tryd.prog 116 1 := ⟨by kernel_rfl, by kernel_rfl⟩
instance : TyP Tryd.prog 116 [(0, 1)] [.map none] := ⟨by kernel_rfl⟩
instance : Fld Tryd.prog 116 0 0 114 := ⟨by kernel_rfl⟩
instance : TyD Tryd.prog 118 (.slice 3) := ⟨by kernel_rfl⟩
instance : TyS Tryd.prog 118 1 24 := ⟨by kernel_rfl⟩
instance : TyZ Tryd.prog 118 (.slice none 0 0) := ⟨by kernel_rfl⟩
instance : TyC Tryd.prog 118 := ⟨by kernel_rfl, by kernel_rfl, by kernel_rfl⟩
instance : TyD Tryd.prog 129 (.array 32 5) := ⟨by kernel_rfl⟩
instance : TyS Tryd.prog 129 32 32 := ⟨by kernel_rfl⟩
instance : TyZ Tryd.prog 129 (.agg #[.int .u8 0, .int .u8 0, .int .u8 0, .int .u8 0, .int .u8 0, .int .u8 0, .int .u8 0, .int .u8 0, .int .u8 0, .int .u8 0, .int .u8 0, .int .u8 0, .int .u8 0, .int .u8 0, .int .u8 0, .int .u8 0, .int .u8 0, .int .u8 0, .int .u8 0, .int .u8 0, .int .u8 0, .int .u8 0, .int .u8 0, .int .u8 0, .int .u8 0, .int .u8 0, .int .u8 0, .int .u8 0, .int .u8 0, .int .u8 0, .int .u8 0, .int .u8 0]) := ⟨by kernel_rfl⟩
instance : TyA Tryd.prog 129 32 := ⟨by kernel_rfl, by kernel_rfl⟩
instance : TyD Tryd.prog 130 (.int .i8) := ⟨by kernel_rfl⟩
instance : TyS Tryd.prog 130 1 1 := ⟨by kernel_rfl⟩
instance : TyZ Tryd.prog 130 (.int .i8 0) := ⟨by kernel_rfl⟩
instance : TyC Tryd.prog 130 := ⟨by kernel_rfl, by kernel_rfl, by kernel_rfl⟩
instance : TyD Tryd.prog 131 (.int .i16) := ⟨by kernel_rfl⟩
instance : TyS Tryd.prog 131 1 2 := ⟨by kernel_rfl⟩
instance : TyZ Tryd.prog 131 (.int .i16 0) := ⟨by kernel_rfl⟩
instance : TyC Tryd.prog 131 := ⟨by kernel_rfl, by kernel_rfl, by kernel_rfl⟩
instance : TyS Tryd.prog 133 4 40 := ⟨by kernel_rfl⟩
instance : TyZ Tryd.prog 133 (.agg #[.pointer none, .pointer none, .pointer none, .string ⟨#[]⟩]) := ⟨by kernel_rfl⟩
instance : TyA Tryd.prog 133 4 := ⟨by kernel_rfl, by kernel_rfl⟩
instance : TyP Tryd.prog 133 [(0, 1), (1, 1), (2, 1), (3, 1)] [.pointer none, .pointer none, .pointer none, .string ⟨#[]⟩] := ⟨by kernel_rfl⟩
instance : Fld Tryd.prog 133 0 0 17 := ⟨by kernel_rfl⟩
instance : Fld Tryd.prog 133 1 1 17 := ⟨by kernel_rfl⟩
instance : Fld Tryd.prog 133 2 2 17 := ⟨by kernel_rfl⟩
instance : Fld Tryd.prog 133 3 3 9 := ⟨by kernel_rfl⟩
instance : TyS Tryd.prog 134 4 40 := ⟨by kernel_rfl⟩
instance : TyZ Tryd.prog 134 (.agg #[.pointer none, .pointer none, .pointer none, .string ⟨#[]⟩]) := ⟨by kernel_rfl⟩
instance : TyA Tryd.prog 134 4 := ⟨by kernel_rfl, by kernel_rfl⟩
instance : TyP Tryd.prog 134 [(0, 1), (1, 1), (2, 1), (3, 1)] [.pointer none, .pointer none, .pointer none, .string ⟨#[]⟩] := ⟨by kernel_rfl⟩
instance : Fld Tryd.prog 134 0 0 17 := ⟨by kernel_rfl⟩
instance : Fld Tryd.prog 134 1 1 17 := ⟨by kernel_rfl⟩
instance : Fld Tryd.prog 134 2 2 17 := ⟨by kernel_rfl⟩
instance : Fld Tryd.prog 134 3 3 9 := ⟨by kernel_rfl⟩
instance : TyD Tryd.prog 135 (.array 0 16) := ⟨by kernel_rfl⟩
instance : TyS Tryd.prog 135 0 0 := ⟨by kernel_rfl⟩
instance : TyZ Tryd.prog 135 (.agg #[]) := ⟨by kernel_rfl⟩
instance : TyA Tryd.prog 135 0 := ⟨by kernel_rfl, by kernel_rfl⟩
instance : TyS Tryd.prog 136 0 0 := ⟨by kernel_rfl⟩
instance : TyZ Tryd.prog 136 (.agg #[]) := ⟨by kernel_rfl⟩
instance : TyA Tryd.prog 136 0 := ⟨by kernel_rfl, by kernel_rfl⟩
instance : TyP Tryd.prog 136 [(0, 0)] [] := ⟨by kernel_rfl⟩
instance : TyS Tryd.prog 137 0 0 := ⟨by kernel_rfl⟩
instance : TyZ Tryd.prog 137 (.agg #[]) := ⟨by kernel_rfl⟩
instance : TyA Tryd.prog 137 0 := ⟨by kernel_rfl, by kernel_rfl⟩
instance : TyP Tryd.prog 137 [(0, 0)] [] := ⟨by kernel_rfl⟩
instance : TyD Tryd.prog 139 (.int .u8) := ⟨by kernel_rfl⟩
instance : TyS Tryd.prog 139 1 1 := ⟨by kernel_rfl⟩
instance : TyZ Tryd.prog 139 (.int .u8 0) := ⟨by kernel_rfl⟩
instance : TyC Tryd.prog 139 := ⟨by kernel_rfl, by kernel_rfl, by kernel_rfl⟩
instance : TyD Tryd.prog 140 (.int .u8) := ⟨by kernel_rfl⟩
instance : TyS Tryd.prog 140 1 1 := ⟨by kernel_rfl⟩
instance : TyZ Tryd.prog 140 (.int .u8 0) := ⟨by kernel_rfl⟩
instance : TyC Tryd.prog 140 := ⟨by kernel_rfl, by kernel_rfl, by kernel_rfl⟩
instance : TyD Tryd.prog 142 (.pointer 5) := ⟨by kernel_rfl⟩
instance : TyS Tryd.prog 142 1 8 := ⟨by kernel_rfl⟩
instance : TyZ Tryd.prog 142 (.pointer none) := ⟨by kernel_rfl⟩
instance : TyC Tryd.prog 142 := ⟨by kernel_rfl, by kernel_rfl, by kernel_rfl⟩
instance : TyD Tryd.prog 143 (.int .i32) := ⟨by kernel_rfl⟩
instance : TyS Tryd.prog 143 1 4 := ⟨by kernel_rfl⟩
instance : TyZ Tryd.prog 143 (.int .i32 0) := ⟨by kernel_rfl⟩
instance : TyC Tryd.prog 143 := ⟨by kernel_rfl, by kernel_rfl, by kernel_rfl⟩
instance : TyD Tryd.prog 144 (.int .i32) := ⟨by kernel_rfl⟩
instance : TyS Tryd.prog 144 1 4 := ⟨by kernel_rfl⟩
instance : TyZ Tryd.prog 144 (.int .i32 0) := ⟨by kernel_rfl⟩
instance : TyC Tryd.prog 144 := ⟨by kernel_rfl, by kernel_rfl, by kernel_rfl⟩
instance : TyS Tryd.prog 145 11 48 := ⟨by kernel_rfl⟩
instance : TyZ Tryd.prog 145 (.agg #[.int .u64 0, .int .u64 0, .int .u32 0, .int .u8 0, .int .u8 0, .int .u8 0, .int .u8 0, .nilFunc, .pointer none, .int .i32 0, .int .i32 0]) := ⟨by kernel_rfl⟩
instance : TyA Tryd.prog 145 11 := ⟨by kernel_rfl, by kernel_rfl⟩
instance : Fld Tryd.prog 145 0 0 12 := ⟨by kernel_rfl⟩
instance : Fld Tryd.prog 145 1 1 12 := ⟨by kernel_rfl⟩
instance : Fld Tryd.prog 145 2 2 22 := ⟨by kernel_rfl⟩
instance : Fld Tryd.prog 145 3 3 139 := ⟨by kernel_rfl⟩
instance : Fld Tryd.prog 145 4 4 5 := ⟨by kernel_rfl⟩
instance : Fld Tryd.prog 145 5 5 5 := ⟨by kernel_rfl⟩
instance : Fld Tryd.prog 145 6 6 140 := ⟨by kernel_rfl⟩
instance : Fld Tryd.prog 145 8 8 142 := ⟨by kernel_rfl⟩
instance : Fld Tryd.prog 145 9 9 143 := ⟨by kernel_rfl⟩
instance : Fld Tryd.prog 145 10 10 144 := ⟨by kernel_rfl⟩
instance : TyS Tryd.prog 146 11 48 := ⟨by kernel_rfl⟩
instance : TyZ Tryd.prog 146 (.agg #[.int .u64 0, .int .u64 0, .int .u32 0, .int .u8 0, .int .u8 0, .int .u8 0, .int .u8 0, .nilFunc, .pointer none, .int .i32 0, .int .i32 0]) := ⟨by kernel_rfl⟩
instance : TyA Tryd.prog 146 11 := ⟨by kernel_rfl, by kernel_rfl⟩
instance : Fld Tryd.prog 146 0 0 12 := ⟨by kernel_rfl⟩
instance : Fld Tryd.prog 146 1 1 12 := ⟨by kernel_rfl⟩
instance : Fld Tryd.prog 146 2 2 22 := ⟨by kernel_rfl⟩
instance : Fld Tryd.prog 146 3 3 139 := ⟨by kernel_rfl⟩
instance : Fld Tryd.prog 146 4 4 5 := ⟨by kernel_rfl⟩
instance : Fld Tryd.prog 146 5 5 5 := ⟨by kernel_rfl⟩
instance : Fld Tryd.prog 146 6 6 140 := ⟨by kernel_rfl⟩
instance : Fld Tryd.prog 146 8 8 142 := ⟨by kernel_rfl⟩
instance : Fld Tryd.prog 146 9 9 143 := ⟨by kernel_rfl⟩
instance : Fld Tryd.prog 146 10 10 144 := ⟨by kernel_rfl⟩
instance : TyS Tryd.prog 149 1 8 := ⟨by kernel_rfl⟩
instance : TyZ Tryd.prog 149 (.pointer none) := ⟨by kernel_rfl⟩
instance : TyC Tryd.prog 149 := ⟨by kernel_rfl, by kernel_rfl, by kernel_rfl⟩
instance : TyS Tryd.prog 150 7 48 := ⟨by kernel_rfl⟩
instance : TyZ Tryd.prog 150 (.agg #[.int .i64 0, .int .i64 0, .int .i64 0, .int .i64 0, .int .i64 0, .bool false, .bool false]) := ⟨by kernel_rfl⟩
instance : TyA Tryd.prog 150 7 := ⟨by kernel_rfl, by kernel_rfl⟩
instance : TyP Tryd.prog 150 [(0, 1), (1, 1), (2, 1), (3, 1), (4, 1), (5, 1), (6, 1)] [.int .i64 0, .int .i64 0, .int .i64 0, .int .i64 0, .int .i64 0, .bool false, .bool false] := ⟨by kernel_rfl⟩
instance : Fld Tryd.prog 150 0 0 3 := ⟨by kernel_rfl⟩
instance : Fld Tryd.prog 150 1 1 3 := ⟨by kernel_rfl⟩
instance : Fld Tryd.prog 150 2 2 3 := ⟨by kernel_rfl⟩
instance : Fld Tryd.prog 150 3 3 3 := ⟨by kernel_rfl⟩
instance : Fld Tryd.prog 150 4 4 3 := ⟨by kernel_rfl⟩
instance : Fld Tryd.prog 150 5 5 4 := ⟨by kernel_rfl⟩
instance : Fld Tryd.prog 150 6 6 4 := ⟨by kernel_rfl⟩
instance : TyS Tryd.prog 151 7 48 := ⟨by kernel_rfl⟩
instance : TyZ Tryd.prog 151 (.agg #[.int .i64 0, .int .i64 0, .int .i64 0, .int .i64 0, .int .i64 0, .bool false, .bool false]) := ⟨by kernel_rfl⟩
instance : TyA Tryd.prog 151 7 := ⟨by kernel_rfl, by kernel_rfl⟩
instance : TyP Tryd.prog 151 [(0, 1), (1, 1), (2, 1), (3, 1), (4, 1), (5, 1), (6, 1)] [.int .i64 0, .int .i64 0, .int .i64 0, .int .i64 0, .int .i64 0, .bool false, .bool false] := ⟨by kernel_rfl⟩
instance : Fld Tryd.prog 151 0 0 3 := ⟨by kernel_rfl⟩
instance : Fld Tryd.prog 151 1 1 3 := ⟨by kernel_rfl⟩
instance : Fld Tryd.prog 151 2 2 3 := ⟨by kernel_rfl⟩
instance : Fld Tryd.prog 151 3 3 3 := ⟨by kernel_rfl⟩
instance : Fld Tryd.prog 151 4 4 3 := ⟨by kernel_rfl⟩
instance : Fld Tryd.prog 151 5 5 4 := ⟨by kernel_rfl⟩
instance : Fld Tryd.prog 151 6 6 4 := ⟨by kernel_rfl⟩
instance : Ent Tryd.prog 3 := ent_of Tryd.func3 (by kernel_rfl) (by kernel_rfl)
instance : FnE Tryd.prog 3 Tryd.f3 46 := ⟨Tryd.func3, Tryd.ntmps3⟩
instance : Ent Tryd.prog 4 := ent_of Tryd.func4 (by kernel_rfl) (by kernel_rfl)
instance : FnE Tryd.prog 4 Tryd.f4 191 := ⟨Tryd.func4, Tryd.ntmps4⟩
instance : Ent Tryd.prog 5 := ent_of Tryd.func5 (by kernel_rfl) (by kernel_rfl)
instance : FnE Tryd.prog 5 Tryd.f5 164 := ⟨Tryd.func5, Tryd.ntmps5⟩
instance : Ent Tryd.prog 6 := ent_of Tryd.func6 (by kernel_rfl) (by kernel_rfl)
instance : FnE Tryd.prog 6 Tryd.f6 181 := ⟨Tryd.func6, Tryd.ntmps6⟩
instance : Ent Tryd.prog 7 := ent_of Tryd.func7 (by kernel_rfl) (by kernel_rfl)
instance : FnE Tryd.prog 7 Tryd.f7 52 := ⟨Tryd.func7, Tryd.ntmps7⟩
instance : Ent Tryd.prog 8 := ent_of Tryd.func8 (by kernel_rfl) (by kernel_rfl)
instance : FnE Tryd.prog 8 Tryd.f8 7 := ⟨Tryd.func8, Tryd.ntmps8⟩
instance : Ent Tryd.prog 9 := ent_of Tryd.func9 (by kernel_rfl) (by kernel_rfl)
instance : FnE Tryd.prog 9 Tryd.f9 68 := ⟨Tryd.func9, Tryd.ntmps9⟩
instance : Ent Tryd.prog 10 := ent_of Tryd.func10 (by kernel_rfl) (by kernel_rfl)
instance : FnE Tryd.prog 10 Tryd.f10 25 := ⟨Tryd.func10, Tryd.ntmps10⟩
instance : Ent Tryd.prog 11 := ent_of Tryd.func11 (by kernel_rfl) (by kernel_rfl)
instance : FnE Tryd.prog 11 Tryd.f11 176 := ⟨Tryd.func11, Tryd.ntmps11⟩
instance : Ent Tryd.prog 12 := ent_of Tryd.func12 (by kernel_rfl) (by kernel_rfl)
instance : FnE Tryd.prog 12 Tryd.f12 28 := ⟨Tryd.func12, Tryd.ntmps12⟩
instance : Ent Tryd.prog 13 := ent_of Tryd.func13 (by kernel_rfl) (by kernel_rfl)
instance : FnE Tryd.prog 13 Tryd.f13 142 := ⟨Tryd.func13, Tryd.ntmps13⟩
instance : Ent Tryd.prog 14 := ent_of Tryd.func14 (by kernel_rfl) (by kernel_rfl)
instance : FnE Tryd.prog 14 Tryd.f14 21 := ⟨Tryd.func14, Tryd.ntmps14⟩
instance : Ent Tryd.prog 15 := ent_of Tryd.func15 (by kernel_rfl) (by kernel_rfl)
instance : FnE Tryd.prog 15 Tryd.f15 9 := ⟨Tryd.func15, Tryd.ntmps15⟩
instance : Ent Tryd.prog 16 := ent_of Tryd.func16 (by kernel_rfl) (by kernel_rfl)
instance : FnE Tryd.prog 16 Tryd.f16 24 := ⟨Tryd.func16, Tryd.ntmps16⟩
instance : Ent Tryd.prog 17 := ent_of Tryd.func17 (by kernel_rfl) (by kernel_rfl)
instance : FnE Tryd.prog 17 Tryd.f17 92 := ⟨Tryd.func17, Tryd.ntmps17⟩
instance : Ent Tryd.prog 18 := ent_of Tryd.func18 (by kernel_rfl) (by kernel_rfl)
instance : FnE Tryd.prog 18 Tryd.f18 14 := ⟨Tryd.func18, Tryd.ntmps18⟩
instance : Ent Tryd.prog 19 := ent_of Tryd.func19 (by kernel_rfl) (by kernel_rfl)
instance : FnE Tryd.prog 19 Tryd.f19 3 := ⟨Tryd.func19, Tryd.ntmps19⟩
instance : Ent Tryd.prog 20 := ent_of Tryd.func20 (by kernel_rfl) (by kernel_rfl)
instance : FnE Tryd.prog 20 Tryd.f20 47 := ⟨Tryd.func20, Tryd.ntmps20⟩
instance : Ent Tryd.prog 21 := ent_of Tryd.func21 (by kernel_rfl) (by kernel_rfl)
instance : FnE Tryd.prog 21 Tryd.f21 3 := ⟨Tryd.func21, Tryd.ntmps21⟩
instance : Ent Tryd.prog 22 := ent_of Tryd.func22 (by kernel_rfl) (by kernel_rfl)
instance : FnE Tryd.prog 22 Tryd.f22 33 := ⟨Tryd.func22, Tryd.ntmps22⟩
instance : Ent Tryd.prog 23 := ent_of Tryd.func23 (by kernel_rfl) (by kernel_rfl)
instance : FnE Tryd.prog 23 Tryd.f23 34 := ⟨Tryd.func23, Tryd.ntmps23⟩
instance : Ent Tryd.prog 24 := ent_of Tryd.func24 (by kernel_rfl) (by kernel_rfl)
instance : FnE Tryd.prog 24 Tryd.f24 50 := ⟨Tryd.func24, Tryd.ntmps24⟩
instance : Ent Tryd.prog 25 := ent_of Tryd.func25 (by kernel_rfl) (by kernel_rfl)
instance : FnE Tryd.prog 25 Tryd.f25 200 := ⟨Tryd.func25, Tryd.ntmps25⟩
instance : Ent Tryd.prog 26 := ent_of Tryd.func26 (by kernel_rfl) (by kernel_rfl)
instance : FnE Tryd.prog 26 Tryd.f26 74 := ⟨Tryd.func26, Tryd.ntmps26⟩
instance : Ent Tryd.prog 27 := ent_of Tryd.func27 (by kernel_rfl) (by kernel_rfl)
instance : FnE Tryd.prog 27 Tryd.f27 4 := ⟨Tryd.func27, Tryd.ntmps27⟩
instance : Ent Tryd.prog 28 := ent_of Tryd.func28 (by kernel_rfl) (by kernel_rfl)
instance : FnE Tryd.prog 28 Tryd.f28 38 := ⟨Tryd.func28, Tryd.ntmps28⟩
instance : Ent Tryd.prog 29 := ent_of Tryd.func29 (by kernel_rfl) (by kernel_rfl)
instance : FnE Tryd.prog 29 Tryd.f29 34 := ⟨Tryd.func29, Tryd.ntmps29⟩
instance : Ent Tryd.prog 30 := ent_of Tryd.func30 (by kernel_rfl) (by kernel_rfl)
instance : FnE Tryd.prog 30 Tryd.f30 51 := ⟨Tryd.func30, Tryd.ntmps30⟩
instance : Ent Tryd.prog 31 := ent_of Tryd.func31 (by kernel_rfl) (by kernel_rfl)
instance : FnE Tryd.prog 31 Tryd.f31 55 := ⟨Tryd.func31, Tryd.ntmps31⟩
instance : Ent Tryd.prog 32 := ent_of Tryd.func32 (by kernel_rfl) (by kernel_rfl)
instance : FnE Tryd.prog 32 Tryd.f32 181 := ⟨Tryd.func32, Tryd.ntmps32⟩
instance : Ent Tryd.prog 33 := ent_of Tryd.func33 (by kernel_rfl) (by kernel_rfl)
instance : FnE Tryd.prog 33 Tryd.f33 212 := ⟨Tryd.func33, Tryd.ntmps33⟩
instance : Ent Tryd.prog 34 := ent_of Tryd.func34 (by kernel_rfl) (by kernel_rfl)
instance : FnE Tryd.prog 34 Tryd.f34 14 := ⟨Tryd.func34, Tryd.ntmps34⟩
instance : Ent Tryd.prog 35 := ent_of Tryd.func35 (by kernel_rfl) (by kernel_rfl)
instance : FnE Tryd.prog 35 Tryd.f35 67 := ⟨Tryd.func35, Tryd.ntmps35⟩
instance : Ent Tryd.prog 36 := ent_of Tryd.func36 (by kernel_rfl) (by kernel_rfl)
instance : FnE Tryd.prog 36 Tryd.f36 76 := ⟨Tryd.func36, Tryd.ntmps36⟩
instance : Ent Tryd.prog 37 := ent_of Tryd.func37 (by kernel_rfl) (by kernel_rfl)
instance : FnE Tryd.prog 37 Tryd.f37 25 := ⟨Tryd.func37, Tryd.ntmps37⟩
instance : Ent Tryd.prog 38 := ent_of Tryd.func38 (by kernel_rfl) (by kernel_rfl)
instance : FnE Tryd.prog 38 Tryd.f38 57 := ⟨Tryd.func38, Tryd.ntmps38⟩
instance : Ent Tryd.prog 39 := ent_of Tryd.func39 (by kernel_rfl) (by kernel_rfl)
instance : FnE Tryd.prog 39 Tryd.f39 21 := ⟨Tryd.func39, Tryd.ntmps39⟩
instance : Ent Tryd.prog 40 := ent_of Tryd.func40 (by kernel_rfl) (by kernel_rfl)
instance : FnE Tryd.prog 40 Tryd.f40 81 := ⟨Tryd.func40, Tryd.ntmps40⟩
instance : Ent Tryd.prog 41 := ent_of Tryd.func41 (by kernel_rfl) (by kernel_rfl)
instance : FnE Tryd.prog 41 Tryd.f41 14 := ⟨Tryd.func41, Tryd.ntmps41⟩
instance : Ent Tryd.prog 42 := ent_of Tryd.func42 (by kernel_rfl) (by kernel_rfl)
instance : FnE Tryd.prog 42 Tryd.f42 43 := ⟨Tryd.func42, Tryd.ntmps42⟩
instance : Ent Tryd.prog 43 := ent_of Tryd.func43 (by kernel_rfl) (by kernel_rfl)
instance : FnE Tryd.prog 43 Tryd.f43 15 := ⟨Tryd.func43, Tryd.ntmps43⟩
instance : Ent Tryd.prog 44 := ent_of Tryd.func44 (by kernel_rfl) (by kernel_rfl)
instance : FnE Tryd.prog 44 Tryd.f44 105 := ⟨Tryd.func44, Tryd.ntmps44⟩
instance : Ent Tryd.prog 45 := ent_of Tryd.func45 (by kernel_rfl) (by kernel_rfl)
instance : FnE Tryd.prog 45 Tryd.f45 83 := ⟨Tryd.func45, Tryd.ntmps45⟩
instance : Ent Tryd.prog 46 := ent_of Tryd.func46 (by kernel_rfl) (by kernel_rfl)
instance : FnE Tryd.prog 46 Tryd.f46 92 := ⟨Tryd.func46, Tryd.ntmps46⟩
instance : Ent Tryd.prog 47 := ent_of Tryd.func47 (by kernel_rfl) (by kernel_rfl)
instance : FnE Tryd.prog 47 Tryd.f47 80 := ⟨Tryd.func47, Tryd.ntmps47⟩
instance : Ent Tryd.prog 48 := ent_of Tryd.func48 (by kernel_rfl) (by kernel_rfl)
instance : FnE Tryd.prog 48 Tryd.f48 17 := ⟨Tryd.func48, Tryd.ntmps48⟩
instance : Ent Tryd.prog 49 := ent_of Tryd.func49 (by kernel_rfl) (by kernel_rfl)
instance : FnE Tryd.prog 49 Tryd.f49 13 := ⟨Tryd.func49, Tryd.ntmps49⟩
instance : Ent Tryd.prog 50 := ent_of Tryd.func50 (by kernel_rfl) (by kernel_rfl)
instance : FnE Tryd.prog 50 Tryd.f50 22 := ⟨Tryd.func50, Tryd.ntmps50⟩
instance : Ent Tryd.prog 51 := ent_of Tryd.func51 (by kernel_rfl) (by kernel_rfl)
instance : FnE Tryd.prog 51 Tryd.f51 6 := ⟨Tryd.func51, Tryd.ntmps51⟩
instance : Ent Tryd.prog 52 := ent_of Tryd.func52 (by kernel_rfl) (by kernel_rfl)
instance : FnE Tryd.prog 52 Tryd.f52 11 := ⟨Tryd.func52, Tryd.ntmps52⟩
instance : Ent Tryd.prog 53 := ent_of Tryd.func53 (by kernel_rfl) (by kernel_rfl)
instance : FnE Tryd.prog 53 Tryd.f53 13 := ⟨Tryd.func53, Tryd.ntmps53⟩
instance : Ent Tryd.prog 54 := ent_of Tryd.func54 (by kernel_rfl) (by kernel_rfl)
instance : FnE Tryd.prog 54 Tryd.f54 22 := ⟨Tryd.func54, Tryd.ntmps54⟩
instance : Ent Tryd.prog 55 := ent_of Tryd.func55 (by kernel_rfl) (by kernel_rfl)
instance : FnE Tryd.prog 55 Tryd.f55 118 := ⟨Tryd.func55, Tryd.ntmps55⟩
instance : Ent Tryd.prog 56 := ent_of Tryd.func56 (by kernel_rfl) (by kernel_rfl)
instance : FnE Tryd.prog 56 Tryd.f56 30 := ⟨Tryd.func56, Tryd.ntmps56⟩
instance : Ent Tryd.prog 57 := ent_of Tryd.func57 (by kernel_rfl) (by kernel_rfl)
instance : FnE Tryd.prog 57 Tryd.f57 12 := ⟨Tryd.func57, Tryd.ntmps57⟩
instance : Ent Tryd.prog 58 := ent_of Tryd.func58 (by kernel_rfl) (by kernel_rfl)
instance : FnE Tryd.prog 58 Tryd.f58 41 := ⟨Tryd.func58, Tryd.ntmps58⟩
instance : Ent Tryd.prog 59 := ent_of Tryd.func59 (by kernel_rfl) (by kernel_rfl)
instance : FnE Tryd.prog 59 Tryd.f59 19 := ⟨Tryd.func59, Tryd.ntmps59⟩
instance : Ent Tryd.prog 61 := ent_of Tryd.func61 (by kernel_rfl) (by kernel_rfl)
instance : FnE Tryd.prog 61 Tryd.f61 27 := ⟨Tryd.func61, Tryd.ntmps61⟩
instance : Ent Tryd.prog 62 := ent_of Tryd.func62 (by kernel_rfl) (by kernel_rfl)
instance : FnE Tryd.prog 62 Tryd.f62 4 := ⟨Tryd.func62, Tryd.ntmps62⟩
instance : Ent Tryd.prog 63 := ent_of Tryd.func63 (by kernel_rfl) (by kernel_rfl)
instance : FnE Tryd.prog 63 Tryd.f63 78 := ⟨Tryd.func63, Tryd.ntmps63⟩
instance : Ent Tryd.prog 64 := ent_of Tryd.func64 (by kernel_rfl) (by kernel_rfl)
instance : FnE Tryd.prog 64 Tryd.f64 20 := ⟨Tryd.func64, Tryd.ntmps64⟩
instance : Ent Tryd.prog 65 := ent_of Tryd.func65 (by kernel_rfl) (by kernel_rfl)
instance : FnE Tryd.prog 65 Tryd.f65 38 := ⟨Tryd.func65, Tryd.ntmps65⟩
instance : Ent Tryd.prog 66 := ent_of Tryd.func66 (by kernel_rfl) (by kernel_rfl)
instance : FnE Tryd.prog 66 Tryd.f66 5 := ⟨Tryd.func66, Tryd.ntmps66⟩
instance : Ent Tryd.prog 67 := ent_of Tryd.func67 (by kernel_rfl) (by kernel_rfl)
instance : FnE Tryd.prog 67 Tryd.f67 14 := ⟨Tryd.func67, Tryd.ntmps67⟩
instance : Ent Tryd.prog 68 := ent_of Tryd.func68 (by kernel_rfl) (by kernel_rfl)
instance : FnE Tryd.prog 68 Tryd.f68 11 := ⟨Tryd.func68, Tryd.ntmps68⟩
instance : Ent Tryd.prog 69 := ent_of Tryd.func69 (by kernel_rfl) (by kernel_rfl)
instance : FnE Tryd.prog 69 Tryd.f69 31 := ⟨Tryd.func69, Tryd.ntmps69⟩
instance : Ent Tryd.prog 70 := ent_of Tryd.func70 (by kernel_rfl) (by kernel_rfl)
instance : FnE Tryd.prog 70 Tryd.f70 13 := ⟨Tryd.func70, Tryd.ntmps70⟩
theorem mixed : Tryd.prog.follows .mixedOrders = true := by kernel_rfl
end Go.Proofs.YtcefkbnachnciaaDoor
end
section
namespace Go.Pt

section
variable {P : Program} {ops : Array Oper} {N n : Nat} {Γ : Env} {C D : World → Prop} {Q : Act → World → Prop}
def Mt (P : Program) (ops : Array Oper) (N n : Nat) (listed : Array Bool) (Γ : Env) (D C : World → Prop) (Q : Act → World → Prop) : Prop :=
  ∀ a w, Fr N a Γ → D w → C w → wpAnyC P ops C Q n listed a w
def MtQ (P : Program) (ops : Array Oper) (C : World → Prop) (Q : Act → World → Prop) (n : Nat) (listed : Array Bool) : Exit → Act → World → Prop := fun _ a w => C w → wpAnyC P ops C Q n listed a w
def MtE (P : Program) (ops : Array Oper) (C : World → Prop) (Q : Act → World → Prop) (n : Nat) (listed : Array Bool) : Exit → Act → World → Prop := fun e a w => e = .normal ∧ C w ∧ wpAnyC P ops C Q n listed a w
theorem Mt.back {listed : Array Bool} (h : Mt P ops N n listed Γ D C Q) : Gt N .normal Γ D (MtQ P ops C Q n listed) := Gt.intro fun a w ha hD hC => h a w ha hD hC
theorem Mt.backE {listed : Array Bool} (hc : ∀ w, D w → C w) (h : Mt P ops N n listed Γ D C Q) : Gt N .normal Γ D (MtE P ops C Q n listed) := Gt.intro fun a w ha hD => ⟨rfl, hc w hD, h a w ha hD (hc w hD)⟩
theorem Mt.done {listed : Array Bool} (hr : (Region.ready .any ops listed).isEmpty = true) (h : ∀ a w, Fr N a Γ → D w → Q a w) : Mt P ops N n listed Γ D C Q := fun a w ha hD hC => by
  have hr' : Region.ready .any ops listed = [] := by simpa using hr
  cases n with
  | zero => exact ⟨hC, hr', h a w ha hD⟩
  | succ n => exact ⟨hC, fun _ => h a w ha hD, fun i hi => by rw [hr'] at hi; cases hi⟩
theorem Mt.pure {listed : Array Bool} (i : Nat) {o : Oper} (hs : Region.noSelect ops = true) (hi : ops[i]? = some o) (he : effB o = false) (hr : (Region.ready .any ops listed).contains i = true) (hf : Region.free .any ops listed i = true)
    (h : Wl [o] P (.mix D) ops N Γ C (MtQ P ops C Q n (listed.setIfInBounds i true))) : Mt P ops N (n + 1) listed Γ D C Q := fun a w ha hD hC => by
  have h := h.elimM a w ha hD hC
  simp only [wpE, he] at h
  by_cases hw : Region.wanted o (yielded ops a.tmps) = true
  · rw [if_pos hw] at h
    obtain ⟨v, hv, h⟩ := h
    exact firstC hi hs n listed a w (Region.free_spec hi hf) (by simpa using hr) (.inl ⟨hw, hv⟩) (h hC)
  · rw [if_neg hw] at h
    exact firstC hi hs n listed a w (Region.free_spec hi hf) (by simpa using hr) (.inr ⟨by simpa using hw, rfl⟩) (h hC)
theorem Mt.op {listed : Array Bool} {i : Nat} {o : Oper} (hi : ops[i]? = some o) (h : Wl [o] P .seq ops N Γ D (MtE P ops C Q n (listed.setIfInBounds i true))) (a : Act) (w : World) (ha : Fr N a Γ) (hD : D w) :
    wpOp P ops (onlyN Q) i (wpAnyC P ops C Q n (listed.setIfInBounds i true)) a w := by
  have h := h.elim a w ha hD
  unfold wpOp
  simp only [hi]
  simp only [wpList] at h
  split
  · rename_i hw
    rw [if_pos hw] at h
    rcases h with h | ⟨_, x, y, h⟩
    · refine .inl ?_
      have h1 := wp_only (fun _ _ _ h => h.1) h
      have h2 := Oper.wp_mono (fun a' w' hh => hh.2.2) h1
      unfold Oper.wp at *
      generalize (execOp a.eval o).run P w = r at *
      cases r with
      | ok n w' =>
        cases n <;> simp only [Oper.upon] at h2 ⊢
        case value u => exact h2
        case skip => exact h2
        case defer d => exact h2
        case enter f args => exact Calls.mono h2 (fun e w'' he => by cases e <;> first | exact he | exact he.elim | (obtain ⟨_, _, hf⟩ := he; exact hf.elim))
        case row row args => exact h2
      | halt x w' => cases x <;> simp only [Oper.upon] at h2
    · cases h.1
  · rename_i hw
    rw [if_neg hw] at h
    exact h.2.2
theorem Mt.eff1 {listed : Array Bool} {i : Nat} {o : Oper} (hr : Region.ready .any ops listed = [i]) (hi : ops[i]? = some o) (h : Wl [o] P .seq ops N Γ D (MtE P ops C Q n (listed.setIfInBounds i true))) : Mt P ops N (n + 1) listed Γ D C Q := fun a w ha hD hC => by
  refine ⟨hC, fun e => (by rw [hr] at e; cases e), fun j hj => ?_⟩
  rw [hr, List.mem_singleton] at hj
  subst hj
  exact Mt.op hi h a w ha hD
theorem Mt.eff2 {listed : Array Bool} {i j : Nat} {o o' : Oper} (hr : Region.ready .any ops listed = [i, j]) (hi : ops[i]? = some o) (hj : ops[j]? = some o') (h : Wl [o] P .seq ops N Γ D (MtE P ops C Q n (listed.setIfInBounds i true)))
    (h' : Wl [o'] P .seq ops N Γ D (MtE P ops C Q n (listed.setIfInBounds j true))) : Mt P ops N (n + 1) listed Γ D C Q := fun a w ha hD hC => by
  refine ⟨hC, fun e => (by rw [hr] at e; cases e), fun k hk => ?_⟩
  rw [hr] at hk
  simp only [List.mem_cons, List.not_mem_nil, or_false] at hk
  rcases hk with rfl | rfl
  · exact Mt.op hi h a w ha hD
  · exact Mt.op hj h' a w ha hD
end
section
variable {P : Program} {N : Nat} {Γ : Env} {C B : World → Prop} {Q : Exit → Act → World → Prop}
theorem St.tree {i : Nat} {l : List Oper} (B : World → Prop) (hm : P.follows .mixedOrders = true) (hC : ∀ w, C w → C w.drew ∧ B w.drew) (h : Mt P l.toArray N l.length (Array.replicate l.length false) Γ C B (fun a w => Q .normal a w)) :
    St (.region i l.toArray true) P N Γ C Q := St.intro fun a w ha hw => by
  refine wp_mono (wp_region_any (Q := onlyN fun a' w' => Q .normal a' w') hm ?_) ?_
  · have := wpAny_of_C _ _ _ _ (h a w.drew ha (hC w hw).1 (hC w hw).2)
    simpa using this
  · intro e a w h
    cases e <;> first | exact h | exact h.elim
theorem Mt.toGt {ops : Array Oper} {n : Nat} {listed : Array Bool} {D : World → Prop} (hr : (Region.ready .any ops listed).isEmpty = true) (h : Gt N .normal Γ D Q) : Mt P ops N n listed Γ D C (fun a w => Q .normal a w) := Mt.done hr fun a w ha hD => h.elim a w ha hD
end
end Go.Pt
end
section
namespace Go.Proofs.YtcefkbnachnciaaDoor
open Go.RowKit Go.Pt
def ent0 : List Value := [.int .i64 0, .int .i64 0, .int .u32 0]
def ents0 (n : Nat) : List Value := (List.replicate n ent0).flatten
theorem ents0_succ (n : Nat) : ents0 (n + 1) = ents0 n ++ ent0 := by
  unfold ents0
  rw [List.replicate_succ', List.flatten_append]
  simp
theorem Hp.pop {w0 w : World} {x : Blk} {H : List Blk} (h : Hp w0 (x :: H) w) (hx : w0.heap.size ≤ x.b) : Hp w0 H w :=
  ⟨h.upd.mono fun k hk hs ho => hs ⟨fun e => by omega, ho⟩, h.own.2, h.apart.2⟩
theorem Hp.under {wB w0 w : World} {H : List Blk} (h : Hp w0 H w) (hu : Upd (fun k => wB.heap.size ≤ k) wB w0) : Hp wB H w :=
  ⟨hu.comp h.upd fun k hk hs => hs.elim (fun y => by omega) id, h.own, h.apart⟩
theorem of0 (w : World) : Calls Tryd.prog 34 #[.int .u8 0, .int .u32 0] w fun e w' => e = .returned (.agg #[.int .i64 0, .int .i64 0, .int .u32 0]) ∧ Hp w [] w' := by
  refine enter (args := [_, _]) (Γ := [(0, _), (1, _)]) Tryd.func34 Tryd.ntmps34 rfl (of_decide_eq_true rfl) (.cons rfl (.cons rfl .nil)) ?_
  repeat' (first | (apply Wl.move; exact rfl; exact rfl) | (apply Wl.and; exact rfl; exact rfl; exact rfl) | (apply Wl.shr; exact rfl; exact rfl; exact rfl; (omega)) | (apply Wl.convI; exact rfl; exact rfl) | (apply Wl.storeA; exact rfl; exact rfl; exact rfl; exact rfl; (repeat (first | apply HSet.here | apply HSet.there)); (repeat (first | apply LPut.s | apply LPut.z | apply LOver.nil | apply LOver.cons))) | (apply Wl.buildS; exact rfl; (repeat (first | exact Parts.nil | apply Parts.cons rfl)); (repeat (first | apply Fills.nil | (apply Fills.one; exact rfl; exact rfl; (repeat (first | apply LSet.z | apply LSet.s))) | (apply Fills.agg; exact rfl; exact rfl; (repeat (first | apply LPut.s | apply LPut.z | apply LOver.nil | apply LOver.cons)))))) | (apply Wl.alloc; exact rfl; intro c hc ho) | (apply Wl.nil) | (apply St.seq) | (apply St.region) | (apply St.ret) | (apply Gt.next) | (apply Wl.splitP; exact rfl; exact rfl; all_goals (intros; try (exfalso; omega))) | (apply Wl.splitB; exact rfl; exact rfl; all_goals intros) | (apply St.condP; exact rfl; all_goals (intros; try (exfalso; omega))) | (apply St.condB; exact rfl; all_goals intros))
  apply Gt.outC (ty := 49) (t := 4) rfl
  · exact rfl
  · (repeat (first | exact List.Mem.head _ | apply List.Mem.tail))
  · exact LSub.t (LSub.t (LSub.t LSub.z))
  intro w' hp
  exact ⟨by kernel_rfl, hp.drop (by simp; omega)⟩
set_option maxHeartbeats 2000000 in
theorem entries0 (b : Nat) (w : World) (hb : b < w.heap.size) (hcfg : ∀ j : Nat, j < 16 → w.cell? ⟨b, 9 + j, none⟩ = some (.int .u8 0)) (haddr : ∀ j : Nat, j < 16 → w.cell? ⟨b, 25 + j, none⟩ = some (.int .u32 0)) :
    Calls Tryd.prog 12 #[.pointer (some ⟨b, 0, none⟩)] w fun e w' => ∃ v, e = .returned v ∧ w'.ownsRow w.heap.size 49 3 v 16 (ents0 16) ∧ Upd (fun k => w.heap.size ≤ k) w w' := by
  refine enter (args := [_]) (Γ := [(0, _)]) Tryd.func12 Tryd.ntmps12 rfl (of_decide_eq_true rfl) (.cons rfl .nil) ?_
  repeat' (first | (apply Wl.move; exact rfl; exact rfl) | (apply Wl.assign; exact rfl; exact rfl) | (apply Wl.eqlPN; exact rfl; exact rfl; exact rfl) | (apply Wl.nil) | (apply St.seq) | (apply St.block) | (apply St.region) | (apply St.condF; exact rfl; (first | with_reducible rfl | with_reducible assumption | decide)) | (apply St.skip) | (apply Gt.next) | (apply Wl.splitP; exact rfl; exact rfl; all_goals (intros; try (exfalso; omega))) | (apply Wl.splitB; exact rfl; exact rfl; all_goals intros) | (apply St.condP; exact rfl; all_goals (intros; try (exfalso; omega))) | (apply St.condB; exact rfl; all_goals intros))
  refine St.loop (σ := Nat × World × Value) (fun τ => τ.1 ≤ 16 ∧ Upd (fun k => w.heap.size ≤ k) w τ.2.1 ∧ τ.2.1.ownsRow w.heap.size 49 3 τ.2.2 τ.1 (ents0 τ.1))
    (fun τ => [(7, .int .i64 τ.1), (3, τ.2.2), (0, .pointer (some ⟨b, 0, none⟩))]) (fun τ => Hp τ.2.1 []) (fun τ => 16 - τ.1) (0, w, .slice none 0 0) ⟨by simp, Upd.refl _ _, World.ownsRow_nil _ _ _ _⟩ (by (repeat (first | exact Sub.nil | apply Sub.cons rfl))) (fun _ h => h) ?_
  rintro ⟨i, w0, v⟩ ⟨hi, hu, hol⟩
  simp only at hi hu hol ⊢
  by_cases hlt : i < 16
  · have hc0 : w0.cell? ⟨b, 9 + i, none⟩ = some (.int .u8 0) := hu.cell (hcfg i hlt) (by simp only; omega)
    have ha0 : w0.cell? ⟨b, 25 + i, none⟩ = some (.int .u32 0) := hu.cell (haddr i hlt) (by simp only; omega)
    repeat' (first | (apply Wl.move; exact rfl; exact rfl) | (apply Wl.assign; exact rfl; exact rfl) | (apply Wl.lss; exact rfl; exact rfl; exact rfl) | (apply Wl.nil) | (apply St.seq) | (apply St.block) | (apply St.region) | (apply St.skip) | (apply Gt.next) | (apply Wl.splitP; exact rfl; exact rfl; all_goals (intros; try (exfalso; omega))) | (apply Wl.splitB; exact rfl; exact rfl; all_goals intros) | (apply St.condP; exact rfl; all_goals (intros; try (exfalso; omega))) | (apply St.condB; exact rfl; all_goals intros))
    have hc1 : w.cell? ⟨b, 9 + (i : Int).toNat * 1, none⟩ = some (.int .u8 0) := by rw [Int.toNat_natCast, Nat.mul_one]; exact hcfg i hlt
    have ha1 : w.cell? ⟨b, 25 + (i : Int).toNat * 1, none⟩ = some (.int .u32 0) := by rw [Int.toNat_natCast, Nat.mul_one]; exact haddr i hlt
    refine St.tree (Hp w []) mixed (fun _ h => ⟨Hp.drew h, Hp.under (Hp.drew h) hu⟩) ?_
    refine Mt.pure 0 (by decide +kernel) (by exact rfl) (by exact rfl) (by decide +kernel) (by decide +kernel) ?_
    repeat' (first | (apply Wl.move; exact rfl; exact rfl) | (apply Wl.nilM) | (apply Wl.splitP; exact rfl; exact rfl; all_goals (intros; try (exfalso; omega))) | (apply Wl.splitB; exact rfl; exact rfl; all_goals intros) | (apply St.condP; exact rfl; all_goals (intros; try (exfalso; omega))) | (apply St.condB; exact rfl; all_goals intros))
    apply Mt.back
    refine Mt.pure 1 (by decide +kernel) (by exact rfl) (by exact rfl) (by decide +kernel) (by decide +kernel) ?_
    repeat' (first | (apply Wl.move; exact rfl; exact rfl) | (apply Wl.nilM) | (apply Wl.splitP; exact rfl; exact rfl; all_goals (intros; try (exfalso; omega))) | (apply Wl.splitB; exact rfl; exact rfl; all_goals intros) | (apply St.condP; exact rfl; all_goals (intros; try (exfalso; omega))) | (apply St.condB; exact rfl; all_goals intros))
    apply Mt.back
    refine Mt.pure 2 (by decide +kernel) (by exact rfl) (by exact rfl) (by decide +kernel) (by decide +kernel) ?_
    repeat' (first | (apply Wl.move; exact rfl; exact rfl) | (apply Wl.nilM) | (apply Wl.splitP; exact rfl; exact rfl; all_goals (intros; try (exfalso; omega))) | (apply Wl.splitB; exact rfl; exact rfl; all_goals intros) | (apply St.condP; exact rfl; all_goals (intros; try (exfalso; omega))) | (apply St.condB; exact rfl; all_goals intros))
    apply Mt.back
    refine Mt.pure 3 (by decide +kernel) (by exact rfl) (by exact rfl) (by decide +kernel) (by decide +kernel) ?_
    repeat' (first | (apply Wl.nilCheck; exact rfl; exact rfl) | (apply Wl.nilM) | (apply Wl.splitP; exact rfl; exact rfl; all_goals (intros; try (exfalso; omega))) | (apply Wl.splitB; exact rfl; exact rfl; all_goals intros) | (apply St.condP; exact rfl; all_goals (intros; try (exfalso; omega))) | (apply St.condB; exact rfl; all_goals intros))
    apply Mt.back
    refine Mt.pure 4 (by decide +kernel) (by exact rfl) (by exact rfl) (by decide +kernel) (by decide +kernel) ?_
    repeat' (first | (apply Wl.fieldAddrZ; exact rfl; exact rfl) | (apply Wl.nilM) | (apply Wl.splitP; exact rfl; exact rfl; all_goals (intros; try (exfalso; omega))) | (apply Wl.splitB; exact rfl; exact rfl; all_goals intros) | (apply St.condP; exact rfl; all_goals (intros; try (exfalso; omega))) | (apply St.condB; exact rfl; all_goals intros))
    apply Mt.back
    refine Mt.pure 5 (by decide +kernel) (by exact rfl) (by exact rfl) (by decide +kernel) (by decide +kernel) ?_
    repeat' (first | (apply Wl.indexArr; exact rfl; exact rfl; exact rfl; (constructor <;> omega)) | (apply Wl.nilM) | (apply Wl.splitP; exact rfl; exact rfl; all_goals (intros; try (exfalso; omega))) | (apply Wl.splitB; exact rfl; exact rfl; all_goals intros) | (apply St.condP; exact rfl; all_goals (intros; try (exfalso; omega))) | (apply St.condB; exact rfl; all_goals intros))
    apply Mt.back
    refine Mt.pure 6 (by decide +kernel) (by exact rfl) (by exact rfl) (by decide +kernel) (by decide +kernel) ?_
    repeat' (first | (apply Wl.loadO; exact rfl; exact rfl; (assumption); (repeat (first | exact trivial | refine ⟨by first | assumption | omega, ?_⟩))) | (apply Wl.nilM) | (apply Wl.splitP; exact rfl; exact rfl; all_goals (intros; try (exfalso; omega))) | (apply Wl.splitB; exact rfl; exact rfl; all_goals intros) | (apply St.condP; exact rfl; all_goals (intros; try (exfalso; omega))) | (apply St.condB; exact rfl; all_goals intros))
    apply Mt.back
    refine Mt.pure 7 (by decide +kernel) (by exact rfl) (by exact rfl) (by decide +kernel) (by decide +kernel) ?_
    repeat' (first | (apply Wl.move; exact rfl; exact rfl) | (apply Wl.nilM) | (apply Wl.splitP; exact rfl; exact rfl; all_goals (intros; try (exfalso; omega))) | (apply Wl.splitB; exact rfl; exact rfl; all_goals intros) | (apply St.condP; exact rfl; all_goals (intros; try (exfalso; omega))) | (apply St.condB; exact rfl; all_goals intros))
    apply Mt.back
    refine Mt.pure 8 (by decide +kernel) (by exact rfl) (by exact rfl) (by decide +kernel) (by decide +kernel) ?_
    repeat' (first | (apply Wl.move; exact rfl; exact rfl) | (apply Wl.nilM) | (apply Wl.splitP; exact rfl; exact rfl; all_goals (intros; try (exfalso; omega))) | (apply Wl.splitB; exact rfl; exact rfl; all_goals intros) | (apply St.condP; exact rfl; all_goals (intros; try (exfalso; omega))) | (apply St.condB; exact rfl; all_goals intros))
    apply Mt.back
    refine Mt.pure 9 (by decide +kernel) (by exact rfl) (by exact rfl) (by decide +kernel) (by decide +kernel) ?_
    repeat' (first | (apply Wl.nilCheck; exact rfl; exact rfl) | (apply Wl.nilM) | (apply Wl.splitP; exact rfl; exact rfl; all_goals (intros; try (exfalso; omega))) | (apply Wl.splitB; exact rfl; exact rfl; all_goals intros) | (apply St.condP; exact rfl; all_goals (intros; try (exfalso; omega))) | (apply St.condB; exact rfl; all_goals intros))
    apply Mt.back
    refine Mt.pure 10 (by decide +kernel) (by exact rfl) (by exact rfl) (by decide +kernel) (by decide +kernel) ?_
    repeat' (first | (apply Wl.fieldAddrZ; exact rfl; exact rfl) | (apply Wl.nilM) | (apply Wl.splitP; exact rfl; exact rfl; all_goals (intros; try (exfalso; omega))) | (apply Wl.splitB; exact rfl; exact rfl; all_goals intros) | (apply St.condP; exact rfl; all_goals (intros; try (exfalso; omega))) | (apply St.condB; exact rfl; all_goals intros))
    apply Mt.back
    refine Mt.pure 11 (by decide +kernel) (by exact rfl) (by exact rfl) (by decide +kernel) (by decide +kernel) ?_
    repeat' (first | (apply Wl.indexArr; exact rfl; exact rfl; exact rfl; (constructor <;> omega)) | (apply Wl.nilM) | (apply Wl.splitP; exact rfl; exact rfl; all_goals (intros; try (exfalso; omega))) | (apply Wl.splitB; exact rfl; exact rfl; all_goals intros) | (apply St.condP; exact rfl; all_goals (intros; try (exfalso; omega))) | (apply St.condB; exact rfl; all_goals intros))
    apply Mt.back
    refine Mt.pure 12 (by decide +kernel) (by exact rfl) (by exact rfl) (by decide +kernel) (by decide +kernel) ?_
    repeat' (first | (apply Wl.loadO; exact rfl; exact rfl; (assumption); (repeat (first | exact trivial | refine ⟨by first | assumption | omega, ?_⟩))) | (apply Wl.nilM) | (apply Wl.splitP; exact rfl; exact rfl; all_goals (intros; try (exfalso; omega))) | (apply Wl.splitB; exact rfl; exact rfl; all_goals intros) | (apply St.condP; exact rfl; all_goals (intros; try (exfalso; omega))) | (apply St.condB; exact rfl; all_goals intros))
    apply Mt.back
    refine Mt.eff1 (i := 13) (by decide +kernel) (by exact rfl) ?_
    apply Wl.callQ
    exact rfl
    (repeat (first | exact Evs.nil | apply Evs.cons rfl))
    · intro wq hq
      refine (of0 wq).mono ?_
      rintro e wr ⟨rfl, hr⟩
      exact ⟨rfl, hq.keep hr⟩
    repeat' (first | (apply Wl.nil) | (apply Wl.splitP; exact rfl; exact rfl; all_goals (intros; try (exfalso; omega))) | (apply Wl.splitB; exact rfl; exact rfl; all_goals intros) | (apply St.condP; exact rfl; all_goals (intros; try (exfalso; omega))) | (apply St.condB; exact rfl; all_goals intros))
    refine Mt.backE (fun u h => Hp.under h hu) ?_
    refine Mt.eff1 (i := 14) (by decide +kernel) (by exact rfl) ?_
    apply Wl.lit
    · exact rfl
    · (repeat (first | exact Parts.nil | apply Parts.cons rfl))
    · exact rfl
    · exact rfl
    · (repeat (first | apply CatP.nil | (apply CatP.one; exact rfl; exact rfl) | (apply CatP.agg; exact rfl) | apply LApp.nil | apply LApp.cons))
    intro d hd hod
    repeat' (first | (apply Wl.nil) | (apply Wl.splitP; exact rfl; exact rfl; all_goals (intros; try (exfalso; omega))) | (apply Wl.splitB; exact rfl; exact rfl; all_goals intros) | (apply St.condP; exact rfl; all_goals (intros; try (exfalso; omega))) | (apply St.condB; exact rfl; all_goals intros))
    refine Mt.backE (fun u h => Hp.under (Hp.pop h hd) hu) ?_
    refine Mt.eff1 (i := 15) (by decide +kernel) (by exact rfl) ?_
    apply Wl.appendT
    · exact rfl
    · exact rfl
    · exact rfl
    · exact hd
    · exact rfl
    · exact hol
    · exact fun k hk => trivial
    · exact rfl
    · exact rfl
    · decide
    · unfold maxLen; omega
    · omega
    · exact hu.size
    intro v' w1 ho1 u1 _ hoff1
    have hu1 : Upd (fun k => w.heap.size ≤ k) w w1 := hu.comp u1 fun k hk hs => hs.elim id fun hs => hs.elim (fun e => (hol.lt k e).1) fun y => (y trivial).elim
    repeat' (first | (apply Wl.nil) | (apply Wl.splitP; exact rfl; exact rfl; all_goals (intros; try (exfalso; omega))) | (apply Wl.splitB; exact rfl; exact rfl; all_goals intros) | (apply St.condP; exact rfl; all_goals (intros; try (exfalso; omega))) | (apply St.condB; exact rfl; all_goals intros))
    refine Mt.backE (fun u h => Hp.under h hu1) ?_
    refine Mt.pure 16 (by decide +kernel) (by exact rfl) (by exact rfl) (by decide +kernel) (by decide +kernel) ?_
    repeat' (first | (apply Wl.assign; exact rfl; exact rfl) | (apply Wl.nilM) | (apply Wl.splitP; exact rfl; exact rfl; all_goals (intros; try (exfalso; omega))) | (apply Wl.splitB; exact rfl; exact rfl; all_goals intros) | (apply St.condP; exact rfl; all_goals (intros; try (exfalso; omega))) | (apply St.condB; exact rfl; all_goals intros))
    apply Mt.back
    refine Mt.toGt (by decide +kernel) ?_
    repeat' (first | (apply Wl.move; exact rfl; exact rfl) | (apply Wl.addI; exact rfl; exact rfl; exact rfl; (constructor <;> omega)) | (apply Wl.nil) | (apply St.region) | (apply Gt.next) | (apply Gt.inNormal) | (apply Wl.splitP; exact rfl; exact rfl; all_goals (intros; try (exfalso; omega))) | (apply Wl.splitB; exact rfl; exact rfl; all_goals intros) | (apply St.condP; exact rfl; all_goals (intros; try (exfalso; omega))) | (apply St.condB; exact rfl; all_goals intros))
    apply Gt.round (i + 1, w1, v')
    rotate_left
    · simp only; omega
    · (repeat (first | exact Sub.nil | apply Sub.cons rfl))
    · exact fun _ h => h
    · exact ⟨by simp only; omega, hu1, by simp only; rw [ents0_succ]; exact ho1⟩
  · have hie : i = 16 := by omega
    subst hie
    repeat' (first | (apply Wl.move; exact rfl; exact rfl) | (apply Wl.assign; exact rfl; exact rfl) | (apply Wl.lss; exact rfl; exact rfl; exact rfl) | (apply Wl.nil) | (apply St.seq) | (apply St.region) | (apply St.condF; exact rfl; (first | with_reducible rfl | with_reducible assumption | decide)) | (apply St.ret) | (apply St.exit) | (apply Gt.next) | (apply Gt.thenExit) | (apply Gt.inExit) | (apply Gt.out1; exact rfl; exact rfl; intro w' hp) | (apply Wl.splitP; exact rfl; exact rfl; all_goals (intros; try (exfalso; omega))) | (apply Wl.splitB; exact rfl; exact rfl; all_goals intros) | (apply St.condP; exact rfl; all_goals (intros; try (exfalso; omega))) | (apply St.condB; exact rfl; all_goals intros))
    exact ⟨v, rfl, ownsRow_upd hol hp.upd (fun k _ y => y trivial), hu.comp hp.upd fun k _ hs => hs.elim id fun y => (y trivial).elim⟩
end Go.Proofs.YtcefkbnachnciaaDoor
end
section
namespace Go.Proofs.YtcefkbnachnciaaDoor
open Go.RowKit Go.Pt
theorem Wl.max2 {P : Program} {md : Md} {ops : Array Oper} {N : Nat} {rest : List Oper} {Γ : Env} {C : World → Prop} {Q : Exit → Act → World → Prop} {d : Nat} {ty : TypeId} {pos : String} {af : Array Edge} {x y : Operand} {t u : TypeId} {k : IntKind} {m n : Int}
    (hd : Nat.blt d N = true) (hx : ev Γ x = some (.int k m)) (hy : ev Γ y = some (.int k n)) (h : Wl rest P md ops N ((d, .int k (if m < n then n else m)) :: Γ) C Q) :
    Wl (⟨some d, .call { callee := .builtin .max, args := #[x, y], argTypes := #[t, u] }, ty, pos, af, none⟩ :: rest) P md ops N Γ C Q :=
  Wl.val hd (fun a w ha _ => by simp [execOp, resolve, invoke, builtin, Builtin.max_, Builtin.max2, ha.ev hx, ha.ev hy]; try (split <;> simp_all)) h
theorem range0 (k o cap i : Nat) (w : World) (hi : i < 16) (hW : w.cell? ⟨k, o + (i : Int).toNat * 3, none⟩ = some (.int .i64 0)) (hA : w.cell? ⟨k, o + (i : Int).toNat * 3 + 2, none⟩ = some (.int .u32 0)) :
    Calls Tryd.prog 36 #[.slice (some ⟨k, o, none⟩) 16 cap, .int .i64 i] w fun e w' => e = .returned (.tuple #[.int .u64 0, .int .u64 0]) ∧ Hp w [] w' := by
  refine enter (args := [_, _]) (Γ := [(0, _), (1, _)]) Tryd.func36 Tryd.ntmps36 rfl (of_decide_eq_true rfl) (.cons rfl (.cons rfl .nil)) ?_
  repeat' (first | (apply Wl.move; exact rfl; exact rfl) | (apply Wl.assign; exact rfl; exact rfl) | (apply Wl.on; exact rfl; exact rfl; (first | with_reducible rfl | with_reducible assumption | decide)) | (apply Wl.pickF; exact rfl; exact rfl; (first | with_reducible rfl | with_reducible assumption | decide); exact rfl) | (apply Wl.fieldAddr0; exact rfl; exact rfl) | (apply Wl.fieldAddr; exact rfl; exact rfl) | (apply Wl.loadO; exact rfl; exact rfl; (assumption); (repeat (first | exact trivial | refine ⟨by first | assumption | omega, ?_⟩))) | (apply Wl.eql; exact rfl; exact rfl; exact rfl) | (apply Wl.lss; exact rfl; exact rfl; exact rfl) | (apply Wl.geq; exact rfl; exact rfl; exact rfl) | (apply Wl.convU64; exact rfl; exact rfl; (constructor <;> omega)) | (apply Wl.len; exact rfl; exact rfl) | (apply Wl.indexAddr; exact rfl; exact rfl; exact rfl; (constructor <;> omega)) | (apply Wl.nil) | (apply St.seq) | (apply St.block) | (apply St.region) | (apply St.condF; exact rfl; (first | with_reducible rfl | with_reducible assumption | decide)) | (apply St.ret) | (apply St.skip) | (apply Gt.next) | (apply Gt.inNormal) | (apply Gt.out2; exact rfl; exact rfl; exact rfl; intro w' hp) | (apply Wl.splitP; exact rfl; exact rfl; all_goals (intros; try (exfalso; omega))) | (apply Wl.splitB; exact rfl; exact rfl; all_goals intros) | (apply St.condP; exact rfl; all_goals (intros; try (exfalso; omega))) | (apply St.condB; exact rfl; all_goals intros))
  exact ⟨rfl, hp⟩
theorem ents0_at (i : Nat) (hi : i < 16) : (ents0 16)[i * 3]? = some (.int .i64 0) ∧ (ents0 16)[i * 3 + 2]? = some (.int .u32 0) := by
  have : i = 0 ∨ i = 1 ∨ i = 2 ∨ i = 3 ∨ i = 4 ∨ i = 5 ∨ i = 6 ∨ i = 7 ∨ i = 8 ∨ i = 9 ∨ i = 10 ∨ i = 11 ∨ i = 12 ∨ i = 13 ∨ i = 14 ∨ i = 15 := by omega
  rcases this with rfl | rfl | rfl | rfl | rfl | rfl | rfl | rfl | rfl | rfl | rfl | rfl | rfl | rfl | rfl | rfl <;> exact ⟨rfl, rfl⟩
theorem ents0_cells {w : World} {base : Nat} {v : Value} (h : w.ownsRow base 49 3 v 16 (ents0 16)) :
    ∃ k o cap, v = .slice (some ⟨k, o, none⟩) 16 cap ∧ ∀ i : Nat, i < 16 → w.cell? ⟨k, o + (i : Int).toNat * 3, none⟩ = some (.int .i64 0) ∧ w.cell? ⟨k, o + (i : Int).toNat * 3 + 2, none⟩ = some (.int .u32 0) := by
  obtain ⟨_, a, cap, rfl, _, _, _, hc⟩ := Sv.ofOwn h
  obtain ⟨k, o, rfl, hx⟩ := hc (fun e => by cases e)
  refine ⟨k, o, cap, rfl, fun i hi => ?_⟩
  obtain ⟨e1, e2⟩ := ents0_at i hi
  obtain ⟨l1, e1⟩ := List.getElem?_eq_some_iff.1 e1
  obtain ⟨l2, e2⟩ := List.getElem?_eq_some_iff.1 e2
  rw [Int.toNat_natCast]
  exact ⟨by rw [hx _ l1, e1], by rw [Nat.add_assoc, hx _ l2, e2]⟩
end Go.Proofs.YtcefkbnachnciaaDoor
end
section
namespace Go.Proofs.YtcefkbnachnciaaDoor
open Go.RowKit Go.Pt
theorem lt16 {j : Nat} (h : j < 16) : j = 0 ∨ j = 1 ∨ j = 2 ∨ j = 3 ∨ j = 4 ∨ j = 5 ∨ j = 6 ∨ j = 7 ∨ j = 8 ∨ j = 9 ∨ j = 10 ∨ j = 11 ∨ j = 12 ∨ j = 13 ∨ j = 14 ∨ j = 15 := by omega
end Go.Proofs.YtcefkbnachnciaaDoor
end
section
namespace Go.Pt
open Go.RowKit

def MapI (P : Program) (k e : TypeId) (w : World) (b n : Nat) (lk : Int → Option Int) : Prop :=
  ∃ D : DataW Unit, w.ownsMap P k (plainElem P e) b n D ∧ ∀ t : Int, Maps.has D (.int .i64 t) = (lk t).isSome ∧ D.atKey (.int .i64 t) (.lit (.int .i64 0)) = .lit (.int .i64 ((lk t).getD 0))
theorem MapI.upd {P : Program} {k e : TypeId} {w w' : World} {b n : Nat} {lk : Int → Option Int} {S : Nat → Prop} (h : MapI P k e w b n lk) (u : Upd S w w') (hs : ¬ S b) : MapI P k e w' b n lk := by
  obtain ⟨D, ⟨es, clock, hb, r⟩, h2⟩ := h
  exact ⟨D, ⟨es, clock, u.heap hb hs, r⟩, h2⟩
theorem MapI.lt {P : Program} {k e : TypeId} {w : World} {b n : Nat} {lk : Int → Option Int} (h : MapI P k e w b n lk) : b < w.heap.size := by
  obtain ⟨D, h1, _⟩ := h
  exact h1.lt
theorem MapI.made (P : Program) (k e : TypeId) (w : World) : MapI P k e (w.alloc (.map #[] 0)) w.heap.size 0 (fun _ => none) :=
  ⟨.map [], World.ownsMap_made w P k _, fun _ => ⟨rfl, rfl⟩⟩
theorem keyLit64 (x : Int) : WideAt.IsKeyLit (.int .i64 x) := by simp [WideAt.IsKeyLit]
def I64 (x : Int) : Prop := -9223372036854775808 ≤ x ∧ x ≤ 9223372036854775807
theorem wf64 {t : Int} (h : I64 t) : (Lit.int .i64 t).wf = true := by
  simp only [Lit.wf, Bool.and_eq_true, decide_eq_true_eq]
  exact h
theorem keyOf64 {P : Program} {k : TypeId} [hk : TyD P k (.int .i64)] {t : Int} (h : I64 t) : keyOf P k (.int .i64 t) = some (.int .i64 t) := by
  simp [keyOf, mapKey, hk.out, wf64 h]
theorem plain64 {P : Program} {e : TypeId} [he : TyD P e (.int .i64)] {v : Int} (h : I64 v) : plainElem (H := Unit) P e (.int .i64 v) = some (.lit (.int .i64 v), []) := plainElem_int he.out (wf64 h)
section
variable {P : Program} {md : Md} {ops : Array Oper} {N : Nat} {rest : List Oper} {Γ : Env} {Q : Exit → Act → World → Prop} {d : Nat} {ty : TypeId} {pos : String} {af : Array Edge} {w0 : World} {H : List Blk} {mt k e : TypeId}
theorem run_lookI {w : World} {b n : Nat} {lk : Int → Option Int} [ht : TyD P mt (.map k e)] [hk : TyD P k (.int .i64)] [he : TyD P e (.int .i64)] [hz : TyZ P e (.int .i64 0)] (h : MapI P k e w b n lk) {t : Int} (hlt : I64 t) :
    (Instr.lookup mt (.map (some b)) (.int .i64 t) true).run P w = .ok (.tuple #[.int .i64 ((lk t).getD 0), .bool (lk t).isSome]) w := by
  obtain ⟨D, h1, h2⟩ := h
  obtain ⟨h3, h4⟩ := h2 t
  obtain ⟨v, ps, hr, hv⟩ := h1.look_ok (Maps.int_keyed hk.out) ht.out (run_zero (P := P) (t := e)) (plainElem_int he.out (by decide)) (keyOf64 hlt)
  obtain ⟨c, rfl, hc, _⟩ := plainElem_int_inv he.out hv
  rw [h4] at hc
  simp only [Prod.mk.injEq, DataW.lit.injEq, Lit.int.injEq, true_and, and_true] at hc
  rw [hr, h3, ← hc.1]
theorem Wl.lookI {m x : Operand} {b n : Nat} {lk : Int → Option Int} {t : Int} [TyD P mt (.map k e)] [TyD P k (.int .i64)] [TyD P e (.int .i64)] [TyZ P e (.int .i64 0)] (hd : Nat.blt d N = true)
    (hm : ev Γ m = some (.map (some b))) (hx : ev Γ x = some (.int .i64 t)) (hlt : I64 t) (hown : MapI P k e w0 b n lk) (ho : Off H b)
    (h : Wl rest P md ops N ((d, .tuple #[.int .i64 ((lk t).getD 0), .bool (lk t).isSome]) :: Γ) (Hp w0 H) Q) : Wl (⟨some d, .lookup mt m x true, ty, pos, af, none⟩ :: rest) P md ops N Γ (Hp w0 H) Q :=
  Wl.val hd (fun a w ha hw => by simp [execOp, ha.ev hm, ha.ev hx, run_lookI (P := P) (mt := mt) (hown.upd hw.upd fun y => y ho) hlt]) h
theorem Wl.lookIB {m x : Operand} {b n : Nat} {lk : Int → Option Int} {t v : Int} {z : Bool} [TyD P mt (.map k e)] [TyD P k (.int .i64)] [TyD P e (.int .i64)] [TyZ P e (.int .i64 0)] (hd : Nat.blt d N = true)
    (hm : ev Γ m = some (.map (some b))) (hx : ev Γ x = some (.int .i64 t)) (hlt : I64 t) (hown : MapI P k e w0 b n lk) (ho : Off H b) (hs : (lk t).getD 0 = v) (hz : (lk t).isSome = z)
    (h : Wl rest P md ops N ((d, .tuple #[.int .i64 v, .bool z]) :: Γ) (Hp w0 H) Q) : Wl (⟨some d, .lookup mt m x true, ty, pos, af, none⟩ :: rest) P md ops N Γ (Hp w0 H) Q := by
  refine Wl.lookI (k := k) (e := e) hd hm hx hlt hown ho ?_
  rw [hs, hz]; exact h
theorem Wl.makeMapI (hd : Nat.blt d N = true)
    (h : ∀ b w1, w0.heap.size ≤ b → MapI P k e w1 b 0 (fun _ => none) → Upd (fun j => ¬ Off H j) w0 w1 → Off H b → Wl rest P .seq ops N ((d, .map (some b)) :: Γ) (Hp w1 H) Q) :
    Wl (⟨some d, .makeMap mt none, ty, pos, af, none⟩ :: rest) P .seq ops N Γ (Hp w0 H) Q :=
  Wl.eff fun a w ha hw => by
    have u : Upd (fun _ => False) w (w.alloc (.map #[] 0)) := Upd.alloc _ _ _
    refine ⟨.map (some w.heap.size), w.alloc (.map #[] 0), .inl ?_, (h w.heap.size _ hw.upd.size (MapI.made P k e w) (hw.upd.trans (Upd.alloc _ _ _)) (Off.lt hw.own)).elim _ _ (ha.put hd _) ⟨Upd.refl _ _, hw.own.upd u fun _ _ h => h, hw.apart⟩⟩
    simp [execOp, run_makeMap, Option.map]
theorem Wl.storeI {m x y : Operand} {b n : Nat} {lk : Int → Option Int} {t v : Int} [ht : TyD P mt (.map k e)] [hk : TyD P k (.int .i64)] [he : TyD P e (.int .i64)]
    (hm : ev Γ m = some (.map (some b))) (hx : ev Γ x = some (.int .i64 t)) (hy : ev Γ y = some (.int .i64 v)) (hlt : I64 t) (hvt : I64 v) (hn : n < maxLen) (hown : MapI P k e w0 b n lk) (ho : Off H b)
    (h : ∀ w1, MapI P k e w1 b (n + 1) (fun j => if j = t then some v else lk j) → Upd (fun j => j = b ∨ ¬ Off H j) w0 w1 → Wl rest P .seq ops N Γ (Hp w1 H) Q) :
    Wl (⟨none, .mapUpdate mt m x y, ty, pos, af, none⟩ :: rest) P .seq ops N Γ (Hp w0 H) Q :=
  Wl.eff fun a w ha hw => by
    obtain ⟨D, h1, h2⟩ := hown.upd hw.upd fun y => y ho
    obtain ⟨w', hr, h3, hg⟩ := h1.update (Maps.int_keyed hk.out) ht.out hn (keyOf64 hlt) (plain64 hvt)
    have u : Upd (fun j => j = b) w w' := Upd.grown hg fun k hk => by cases hk; rfl
    have hM : MapI P k e w' b (n + 1) (fun j => if j = t then some v else lk j) := by
      refine ⟨_, h3, fun j => ?_⟩
      show Maps.has _ _ = (if j = t then some v else lk j).isSome ∧ _ = DataW.lit (.int .i64 ((if j = t then some v else lk j).getD 0))
      by_cases hj : j = t
      · subst hj
        rw [if_pos rfl]
        exact ⟨Maps.has_put_same h1.isMap (keyLit64 _) _, Maps.atKey_put_same h1.isMap (keyLit64 _) _ _⟩
      · rw [if_neg hj]
        have hne : (Lit.int .i64 j) ≠ .int .i64 t := fun e => by simp only [Lit.int.injEq, true_and] at e; omega
        rw [Maps.has_put_other hne, Maps.atKey_put_other hne]
        exact h2 j
    refine ⟨undef, w', .inr ⟨?_, rfl⟩, (h w' hM ((hw.upd.mono fun _ _ y => .inr y).trans (u.mono fun _ _ y => .inl y))).elim _ _ (ha.put0 _) ⟨Upd.refl _ _, hw.own.upd u fun y hy e => ?_, hw.apart⟩⟩
    · simp [execOp, ha.ev hm, ha.ev hx, ha.ev hy, hr]
    · exact ho.at hy e
end
end Go.Pt
end
section
namespace Go.Pt
open Go.RowKit

def Kd (kd : Nat → IntKind) (n : Nat) (cs : List Value) : Prop := cs.length = n ∧ ∀ i, i < n → ∃ x : Int, cs[i]? = some (.int (kd i) x)
theorem Kd.set {kd : Nat → IntKind} {n i : Nat} {cs : List Value} {x : Int} {k : IntKind} (h : Kd kd n cs) (hk : kd i = k) : Kd kd n (cs.set i (.int k x)) := by
  refine ⟨by rw [List.length_set]; exact h.1, fun j hj => ?_⟩
  rw [List.getElem?_set]
  split
  · rename_i e
    subst e
    rw [if_pos (h.1 ▸ hj), hk]
    exact ⟨x, rfl⟩
  · exact h.2 j hj
theorem Kd.mk' {kd : Nat → IntKind} {n : Nat} {g : Nat → Int} : Kd kd n ((List.range n).map fun i => Value.int (kd i) (g i)) :=
  ⟨by simp, fun i hi => ⟨g i, by simp [hi]⟩⟩
theorem LSet.of {l : List Value} {i : Nat} {v : Value} (h : i < l.length) : LSet l i v (l.set i v) := by
  induction l generalizing i with
  | nil => simp at h
  | cons x r ih =>
    cases i with
    | zero => exact .z
    | succ i => exact .s (ih (by simpa using h))
section
variable {P : Program} {md : Md} {ops : Array Oper} {N : Nat} {rest : List Oper} {Γ : Env} {Q : Exit → Act → World → Prop} {d : Nat} {ty : TypeId} {pos : String} {af : Array Edge} {w0 : World} {H : List Blk} {t bt : TypeId} {x y : Operand}
theorem Wl.load9 [TyC P t] {c i n : Nat} {k : IntKind} {kd : Nat → IntKind} {v0 v1 v2 v3 v4 v5 v6 v7 v8 : Value} {cs : List Value} (hd : Nat.blt d N = true) (hx : ev Γ x = some (.pointer (some ⟨c, i, none⟩)))
    (hm : (⟨c, v0 :: v1 :: v2 :: v3 :: v4 :: v5 :: v6 :: v7 :: v8 :: cs, bt⟩ : Blk) ∈ H) (hk : Kd kd n cs) (h9 : 9 ≤ i) (hi : i - 9 < n) (hkd : kd (i - 9) = k) (h : ∀ z : Int, Wl rest P md ops N ((d, .int k z) :: Γ) (Hp w0 H) Q) :
    Wl (⟨some d, .load t x, ty, pos, af, none⟩ :: rest) P md ops N Γ (Hp w0 H) Q := by
  obtain ⟨z, hz⟩ := hk.2 _ hi
  rw [hkd] at hz
  refine Wl.loadH hd hx hm ?_ (h z)
  obtain ⟨j, rfl⟩ := Nat.exists_eq_add_of_le h9
  rw [show 9 + j - 9 = j by omega] at hz
  rw [show 9 + j = j + 9 by omega]
  simpa using hz
theorem Wl.store9 {b1 : Nat} [TyS P t 1 b1] {H' : List Value → List Blk} {c i n : Nat} {k : IntKind} {z : Int} {kd : Nat → IntKind} {v0 v1 v2 v3 v4 v5 v6 v7 v8 : Value} {cs : List Value} (hx : ev Γ x = some (.pointer (some ⟨c, i, none⟩))) (hy : ev Γ y = some (.int k z))
    (hs : ∀ cs', HSet c (v0 :: v1 :: v2 :: v3 :: v4 :: v5 :: v6 :: v7 :: v8 :: cs) (v0 :: v1 :: v2 :: v3 :: v4 :: v5 :: v6 :: v7 :: v8 :: cs') bt H (H' cs')) (hk : Kd kd n cs) (h9 : 9 ≤ i) (hi : i - 9 < n) (hkd : kd (i - 9) = k)
    (h : ∀ cs', Kd kd n cs' → Wl rest P .seq ops N Γ (Hp w0 (H' cs')) Q) : Wl (⟨none, .store t x y, ty, pos, af, none⟩ :: rest) P .seq ops N Γ (Hp w0 H) Q := by
  obtain ⟨j, rfl⟩ := Nat.exists_eq_add_of_le h9
  rw [show 9 + j - 9 = j by omega] at hi hkd
  have hl := hk.1
  have e : LSet (v0 :: v1 :: v2 :: v3 :: v4 :: v5 :: v6 :: v7 :: v8 :: cs) (9 + j) (.int k z) (v0 :: v1 :: v2 :: v3 :: v4 :: v5 :: v6 :: v7 :: v8 :: cs.set j (.int k z)) := by
    rw [show 9 + j = j + 9 by omega]
    exact .s (.s (.s (.s (.s (.s (.s (.s (.s (LSet.of (by omega))))))))))
  exact Wl.store hx hy rfl (hs _) e (h _ (hk.set hkd))
theorem Wl.load2 [TyC P t] {c i n : Nat} {k : IntKind} {kd : Nat → IntKind} {v0 v1 : Value} {cs : List Value} (hd : Nat.blt d N = true) (hx : ev Γ x = some (.pointer (some ⟨c, i, none⟩)))
    (hm : (⟨c, v0 :: v1 :: cs, bt⟩ : Blk) ∈ H) (hk : Kd kd n cs) (h9 : 2 ≤ i) (hi : i - 2 < n) (hkd : kd (i - 2) = k) (h : ∀ z : Int, Wl rest P md ops N ((d, .int k z) :: Γ) (Hp w0 H) Q) :
    Wl (⟨some d, .load t x, ty, pos, af, none⟩ :: rest) P md ops N Γ (Hp w0 H) Q := by
  obtain ⟨z, hz⟩ := hk.2 _ hi
  rw [hkd] at hz
  refine Wl.loadH hd hx hm ?_ (h z)
  obtain ⟨j, rfl⟩ := Nat.exists_eq_add_of_le h9
  rw [show 2 + j - 2 = j by omega] at hz
  rw [show 2 + j = j + 2 by omega]
  simpa using hz
theorem Wl.store2 {b1 : Nat} [TyS P t 1 b1] {H' : List Value → List Blk} {c i n : Nat} {k : IntKind} {z : Int} {kd : Nat → IntKind} {v0 v1 : Value} {cs : List Value} (hx : ev Γ x = some (.pointer (some ⟨c, i, none⟩))) (hy : ev Γ y = some (.int k z))
    (hs : ∀ cs', HSet c (v0 :: v1 :: cs) (v0 :: v1 :: cs') bt H (H' cs')) (hk : Kd kd n cs) (h9 : 2 ≤ i) (hi : i - 2 < n) (hkd : kd (i - 2) = k)
    (h : ∀ cs', Kd kd n cs' → Wl rest P .seq ops N Γ (Hp w0 (H' cs')) Q) : Wl (⟨none, .store t x y, ty, pos, af, none⟩ :: rest) P .seq ops N Γ (Hp w0 H) Q := by
  obtain ⟨j, rfl⟩ := Nat.exists_eq_add_of_le h9
  rw [show 2 + j - 2 = j by omega] at hi hkd
  have hl := hk.1
  have e : LSet (v0 :: v1 :: cs) (2 + j) (.int k z) (v0 :: v1 :: cs.set j (.int k z)) := by
    rw [show 2 + j = j + 2 by omega]
    exact .s (.s (LSet.of (by omega)))
  exact Wl.store hx hy rfl (hs _) e (h _ (hk.set hkd))
end
def fkd (i : Nat) : IntKind := if i < 16 then .u8 else if i < 32 then .u32 else .u64
theorem fkd8 {i : Nat} (h : i < 16) : fkd i = .u8 := if_pos h
theorem fkd32 {i : Nat} (h : 16 ≤ i) (h2 : i < 32) : fkd i = .u32 := by unfold fkd; rw [if_neg (by omega), if_pos h2]
theorem fkd64 {i : Nat} (h : 32 ≤ i) : fkd i = .u64 := by unfold fkd; rw [if_neg (by omega), if_neg (by omega)]
def mkd (i : Nat) : IntKind := if i < 16 then .i64 else .u64
theorem mkdI {i : Nat} (h : i < 16) : mkd i = .i64 := if_pos h
theorem mkdU {i : Nat} (h : 16 ≤ i) : mkd i = .u64 := if_neg (by omega)
end Go.Pt
end
section
namespace Go.Pt
open Go.RowKit
section bin32
variable {P : Program} {md : Md} {ops : Array Oper} {N : Nat} {rest : List Oper} {Γ : Env} {C : World → Prop} {Q : Exit → Act → World → Prop} {d : Nat} {ty : TypeId} {pos : String} {af : Array Edge} {t u : TypeId} {x y : Operand} {m n : Int}
theorem Wl.add32 (hd : Nat.blt d N = true) (hx : ev Γ x = some (.int .u32 m)) (hy : ev Γ y = some (.int .u32 n)) (hb : 0 ≤ m + n ∧ m + n ≤ 4294967295) (h : Wl rest P md ops N ((d, .int .u32 (m + n)) :: Γ) C Q) : Wl (⟨some d, .binOp .add t x y u, ty, pos, af, none⟩ :: rest) P md ops N Γ C Q :=
  Wl.add hd hx hy (by rw [IntWalk.u32_in _ hb]; exact h)
theorem Wl.sub32 (hd : Nat.blt d N = true) (hx : ev Γ x = some (.int .u32 m)) (hy : ev Γ y = some (.int .u32 n)) (hb : 0 ≤ m - n ∧ m - n ≤ 4294967295) (h : Wl rest P md ops N ((d, .int .u32 (m - n)) :: Γ) C Q) : Wl (⟨some d, .binOp .sub t x y u, ty, pos, af, none⟩ :: rest) P md ops N Γ C Q :=
  Wl.sub' hd hx hy (by rw [IntWalk.u32_in _ hb]; exact h)
theorem Wl.mul32 (hd : Nat.blt d N = true) (hx : ev Γ x = some (.int .u32 m)) (hy : ev Γ y = some (.int .u32 n)) (hb : 0 ≤ m * n ∧ m * n ≤ 4294967295) (h : Wl rest P md ops N ((d, .int .u32 (m * n)) :: Γ) C Q) : Wl (⟨some d, .binOp .mul t x y u, ty, pos, af, none⟩ :: rest) P md ops N Γ C Q :=
  Wl.mul hd hx hy (by rw [IntWalk.u32_in _ hb]; exact h)
end bin32
end Go.Pt
namespace Go.Proofs.YtcefkbnachnciaaDoor
open Go.RowKit Go.Pt
theorem Hp.same {w w' : World} {c t : Nat} {cs : List Value} (h : Hp w [⟨c, cs, t⟩] w') (hc : w.heap[c]? = some (.cells cs.toArray t (0, 0))) : Hp w [] w' :=
  ⟨⟨h.upd.os, h.upd.tape, h.upd.output, h.upd.size, fun k hk _ => by
    by_cases e : k = c
    · subst e; rw [hc]; exact h.own.1
    · exact h.upd.block k hk fun y => y ⟨fun e' => e e'.symm, trivial⟩⟩, trivial, trivial⟩
theorem Hp.turned {w w' : World} {c t : Nat} {cs : List Value} (h : Hp w [⟨c, cs, t⟩] w') : Upd (fun k => k = c) w w' :=
  h.upd.mono fun k _ hs => Classical.byContradiction fun y => hs ⟨fun e => y e.symm, trivial⟩
def IsReg (n : Int) : Prop := (928 ≤ n ∧ n < 932) ∨ (944 ≤ n ∧ n < 960) ∨ (3857 ≤ n ∧ n < 3861) ∨ n = 768 ∨ n = 769 ∨ n = 772 ∨ n = 773 ∨ (832 ≤ n ∧ n < 837) ∨ n = 2816 ∨ n = 2818 ∨ n = 2944 ∨ n = 2946
instance (n : Int) : Decidable (IsReg n) := by unfold IsReg; infer_instance
def FF (w : World) (c : Nat) (md tv : Int) : Prop := ∃ st mie mip sc ep ca tl : Int, ∃ cs : List Value, Kd fkd 34 cs ∧
  w.heap[c]? = some (.cells (.int .i64 md :: .int .u32 st :: .int .u32 mie :: .int .u32 mip :: .int .u32 tv :: .int .u32 sc :: .int .u32 ep :: .int .u32 ca :: .int .u32 tl :: cs).toArray 54 (0, 0))
theorem FF.leaf {w w' : World} {c : Nat} {md st mie mip tv sc ep ca tl : Int} {cs : List Value} (hk : Kd fkd 34 cs)
    (h : Hp w [⟨c, .int .i64 md :: .int .u32 st :: .int .u32 mie :: .int .u32 mip :: .int .u32 tv :: .int .u32 sc :: .int .u32 ep :: .int .u32 ca :: .int .u32 tl :: cs, 54⟩] w') : FF w' c md tv ∧ Upd (fun k => k = c) w w' :=
  ⟨⟨st, mie, mip, sc, ep, ca, tl, cs, hk, h.own.1⟩, Hp.turned h⟩
theorem FF.upd {w w' : World} {c : Nat} {md tv : Int} {S : Nat → Prop} (h : FF w c md tv) (u : Upd S w w') (hs : ¬ S c) : FF w' c md tv := by
  obtain ⟨st, mie, mip, sc, ep, ca, tl, cs, hk, hc⟩ := h
  exact ⟨st, mie, mip, sc, ep, ca, tl, cs, hk, u.heap hc hs⟩
set_option maxHeartbeats 4000000 in
theorem fread_any (c : Nat) (n : Int) (md st mie mip tv sc ep ca tl : Int) (cs : List Value) (w : World) (hn : 0 ≤ n ∧ n < 4294967296) (hk : Kd fkd 34 cs)
    (hc : w.heap[c]? = some (.cells (.int .i64 md :: .int .u32 st :: .int .u32 mie :: .int .u32 mip :: .int .u32 tv :: .int .u32 sc :: .int .u32 ep :: .int .u32 ca :: .int .u32 tl :: cs).toArray 54 (0, 0))) :
    Calls Tryd.prog 13 #[.pointer (some ⟨c, 0, none⟩), .int .u32 n] w fun e w' => (∃ v, e = .returned (.tuple #[.int .u32 v, .bool (decide (IsReg n))])) ∧ Hp w [] w' := by
  refine enter (args := [_, _]) (Γ := [(0, _), (1, _)]) Tryd.func13 Tryd.ntmps13 rfl (of_decide_eq_true rfl) (.cons rfl (.cons rfl .nil)) ?_
  refine St.cls (C' := Hp w [⟨c, .int .i64 md :: .int .u32 st :: .int .u32 mie :: .int .u32 mip :: .int .u32 tv :: .int .u32 sc :: .int .u32 ep :: .int .u32 ca :: .int .u32 tl :: cs, 54⟩]) (fun _ h' => Hp.open h' hc) ?_
  repeat' (first | (apply Wl.load9; exact rfl; exact rfl; (repeat (first | exact List.Mem.head _ | apply List.Mem.tail)); exact hk; omega; omega; (first | exact fkd8 (by omega) | exact fkd32 (by omega) (by omega) | exact fkd64 (by omega)); intro z) | (apply Wl.sub32; exact rfl; exact rfl; exact rfl; (constructor <;> omega)) | (apply Wl.move; exact rfl; exact rfl) | (apply Wl.assign; exact rfl; exact rfl) | (apply Wl.on; exact rfl; exact rfl; (first | with_reducible rfl | with_reducible assumption | decide)) | (apply Wl.off; exact rfl; exact rfl; exact rfl; (first | with_reducible rfl | (show _ = false; with_reducible assumption) | (show _ = true; with_reducible assumption) | decide)) | (apply Wl.nilCheck; exact rfl; exact rfl) | (apply Wl.pickT; exact rfl; exact rfl; (first | with_reducible rfl | with_reducible assumption | decide); exact rfl) | (apply Wl.pickF; exact rfl; exact rfl; (first | with_reducible rfl | with_reducible assumption | decide); exact rfl) | (apply Wl.fieldAddrZ; exact rfl; exact rfl) | (apply Wl.loadH; exact rfl; exact rfl; (repeat (first | exact List.Mem.head _ | apply List.Mem.tail)); exact rfl) | (apply Wl.eqlPN; exact rfl; exact rfl; exact rfl) | (apply Wl.eql; exact rfl; exact rfl; exact rfl) | (apply Wl.lss; exact rfl; exact rfl; exact rfl) | (apply Wl.geq; exact rfl; exact rfl; exact rfl) | (apply Wl.shr; exact rfl; exact rfl; exact rfl; (omega)) | (apply Wl.convI; exact rfl; exact rfl) | (apply Wl.indexArr; exact rfl; exact rfl; exact rfl; (constructor <;> omega)) | (apply Wl.nil) | (apply St.seq) | (apply St.block) | (apply St.region) | (apply St.condF; exact rfl; (first | with_reducible rfl | with_reducible assumption | decide)) | (apply St.ret) | (apply St.skip) | (apply Gt.next) | (apply Gt.thenRet) | (apply Gt.inNormal) | (apply Gt.inRet) | (apply Gt.out2; exact rfl; exact rfl; exact rfl; intro w' hp) | (apply Wl.splitP; exact rfl; exact rfl; all_goals (intros; try (exfalso; omega))) | (apply Wl.splitB; exact rfl; exact rfl; all_goals intros) | (apply St.condP; exact rfl; all_goals (intros; try (exfalso; omega))) | (apply St.condB; exact rfl; all_goals intros))
  · refine St.loop (σ := Int × Int) (fun τ => 0 ≤ τ.1 ∧ τ.1 ≤ 4) (fun τ => [(18, .int .i64 τ.1), (6, .int .u32 τ.2), (0, .pointer (some ⟨c, 0, none⟩)), (1, .int .u32 n)])
      (fun _ => Hp w [⟨c, .int .i64 md :: .int .u32 st :: .int .u32 mie :: .int .u32 mip :: .int .u32 tv :: .int .u32 sc :: .int .u32 ep :: .int .u32 ca :: .int .u32 tl :: cs, 54⟩]) (fun τ => (4 - τ.1).toNat) (0, 0) (by simp) (by (repeat (first | exact Sub.nil | apply Sub.cons rfl))) (fun _ h => h) ?_
    rintro ⟨i, x⟩ ⟨hi0, hi⟩
    simp only at hi0 hi ⊢
    repeat' (first | (apply Wl.load9; exact rfl; exact rfl; (repeat (first | exact List.Mem.head _ | apply List.Mem.tail)); exact hk; omega; omega; exact fkd8 (by omega); intro z) | (apply Wl.sub32; exact rfl; exact rfl; exact rfl; (constructor <;> omega)) | (apply Wl.mul32; exact rfl; exact rfl; exact rfl; (constructor <;> omega)) | (apply Wl.add32; exact rfl; exact rfl; exact rfl; (constructor <;> omega)) | (apply Wl.move; exact rfl; exact rfl) | (apply Wl.assign; exact rfl; exact rfl) | (apply Wl.nilCheck; exact rfl; exact rfl) | (apply Wl.fieldAddrZ; exact rfl; exact rfl) | (apply Wl.lss; exact rfl; exact rfl; exact rfl) | (apply Wl.addI; exact rfl; exact rfl; exact rfl; (constructor <;> omega)) | (apply Wl.mulI; exact rfl; exact rfl; exact rfl; (constructor <;> omega)) | (apply Wl.or; exact rfl; exact rfl; exact rfl) | (apply Wl.shl; exact rfl; exact rfl; exact rfl; (omega)) | (apply Wl.convU32; exact rfl; exact rfl; (constructor <;> omega)) | (apply Wl.convI; exact rfl; exact rfl) | (apply Wl.indexArr; exact rfl; exact rfl; exact rfl; (constructor <;> omega)) | (apply Wl.nil) | (apply St.seq) | (apply St.block) | (apply St.region) | (apply St.ret) | (apply St.skip) | (apply St.exit) | (apply Gt.next) | (apply Gt.thenRet) | (apply Gt.thenExit) | (apply Gt.inNormal) | (apply Gt.inRet) | (apply Gt.inExit) | (apply Gt.out2; exact rfl; exact rfl; exact rfl; intro w' hp) | (apply Wl.splitP; exact rfl; exact rfl; all_goals (intros; try (exfalso; omega))) | (apply Wl.splitB; exact rfl; exact rfl; all_goals intros) | (apply St.condP; exact rfl; all_goals (intros; try (exfalso; omega))) | (apply St.condB; exact rfl; all_goals intros))
    · apply Gt.round (i + 1, _)
      rotate_left
      · simp only; omega
      · (repeat (first | exact Sub.nil | apply Sub.cons rfl))
      · exact fun _ h => h
      · simp only; omega
    · exact ⟨⟨_, by rw [decide_eq_true (show IsReg n by unfold IsReg; omega)]⟩, Hp.same hp hc⟩
  all_goals first
    | exact ⟨⟨_, by rw [decide_eq_true (show IsReg n by unfold IsReg; omega)]⟩, Hp.same hp hc⟩
    | exact ⟨⟨_, by rw [decide_eq_false (show ¬ IsReg n by unfold IsReg; omega)]⟩, Hp.same hp hc⟩
end Go.Proofs.YtcefkbnachnciaaDoor
end
section
namespace Go.Proofs.YtcefkbnachnciaaDoor
open Go.RowKit Go.Pt
theorem low2 (x : Int) (h : 0 ≤ x ∧ x < 4294967296) : bits .andNot .u32 x 3 = x - x % 4 := by
  obtain ⟨n, rfl⟩ := Int.eq_ofNat_of_zero_le h.1
  have hn : n < 4294967296 := by omega
  have := u32_andNot_nat n 3 hn (by decide)
  rw [show ((3 : Nat) : Int) = 3 from rfl] at this
  have e : n &&& (4294967295 - 3) = n - n % 4 := by
    have h1 : n - n % 4 = 4 * (n / 4) := by omega
    rw [h1]
    apply Nat.eq_of_testBit_eq
    intro j
    rw [Nat.testBit_and, show 4 * (n / 4) = (n >>> 2) <<< 2 by rw [Nat.shiftRight_eq_div_pow, Nat.shiftLeft_eq]; omega, Nat.testBit_shiftLeft, Nat.testBit_shiftRight]
    by_cases hj : j < 2
    · have : j = 0 ∨ j = 1 := by omega
      rcases this with rfl | rfl <;> simp <;> (intro _; decide)
    · by_cases h32 : j < 32
      · have hb : ∀ k : Fin 32, 2 ≤ k.val → Nat.testBit (4294967295 - 3) k.val = true := by decide
        rw [hb ⟨j, h32⟩ (by simp only; omega)]
        simp only [Bool.and_true]
        rw [show 2 + (j - 2) = j by omega]
        simp; omega
      · have : n.testBit j = false := Nat.testBit_lt_two_pow (by calc n < 2 ^ 32 := hn
                                                                      _ ≤ 2 ^ j := Nat.pow_le_pow_right (by decide) (by omega))
        rw [show 2 + (j - 2) = j by omega, this]
        simp
  rw [e] at this
  rw [this]; omega
end Go.Proofs.YtcefkbnachnciaaDoor
end
section
namespace Go.Proofs.YtcefkbnachnciaaDoor
open Go.RowKit Go.Pt
set_option maxHeartbeats 4000000 in
theorem ftick (c : Nat) (on : Bool) (md tv : Int) (w : World) (hF : FF w c md tv) :
    Calls Tryd.prog 39 #[.pointer (some ⟨c, 0, none⟩), .bool on] w fun e w' => e = .returned (.tuple #[]) ∧ FF w' c md tv ∧ Upd (fun k => k = c) w w' := by
  obtain ⟨st, mie, mip, sc, ep, ca, tl, cs, hk, hc⟩ := hF
  refine enter (args := [_, _]) (Γ := [(0, _), (1, _)]) Tryd.func39 Tryd.ntmps39 rfl (of_decide_eq_true rfl) (.cons rfl (.cons rfl .nil)) ?_
  refine St.cls (C' := Hp w [⟨c, .int .i64 md :: .int .u32 st :: .int .u32 mie :: .int .u32 mip :: .int .u32 tv :: .int .u32 sc :: .int .u32 ep :: .int .u32 ca :: .int .u32 tl :: cs, 54⟩]) (fun _ h' => Hp.open h' hc) ?_
  repeat' (first | (apply Wl.store9; exact rfl; exact rfl; (intro cs'; (repeat (first | apply HSet.here | apply HSet.there))); assumption; omega; omega; exact fkd64 (by omega); intro cs' hk') | (apply Wl.load9; exact rfl; exact rfl; (repeat (first | exact List.Mem.head _ | apply List.Mem.tail)); assumption; omega; omega; exact fkd64 (by omega); intro z) | (apply Wl.move; exact rfl; exact rfl) | (apply Wl.nilCheck; exact rfl; exact rfl) | (apply Wl.fieldAddrZ; exact rfl; exact rfl) | (apply Wl.eqlPN; exact rfl; exact rfl; exact rfl) | (apply Wl.add; exact rfl; exact rfl; exact rfl) | (apply Wl.nil) | (apply St.seq) | (apply St.region) | (apply St.condF; exact rfl; (first | with_reducible rfl | with_reducible assumption | decide)) | (apply St.skip) | (apply Gt.next) | (apply Gt.out0n; exact rfl; intro w' hp) | (apply Wl.splitP; exact rfl; exact rfl; all_goals (intros; try (exfalso; omega))) | (apply Wl.splitB; exact rfl; exact rfl; all_goals intros) | (apply St.condP; exact rfl; all_goals (intros; try (exfalso; omega))) | (apply St.condB; exact rfl; all_goals intros))
  all_goals exact ⟨rfl, FF.leaf (by assumption) hp⟩
set_option maxHeartbeats 4000000 in
theorem ftrap (c : Nat) (pc ca1 tl1 md tv : Int) (w : World) (hF : FF w c md tv) :
    Calls Tryd.prog 38 #[.pointer (some ⟨c, 0, none⟩), .int .u32 pc, .int .u32 ca1, .int .u32 tl1] w fun e w' => e = .returned (.int .u32 tv) ∧ FF w' c 3 tv ∧ Upd (fun k => k = c) w w' := by
  obtain ⟨st, mie, mip, sc, ep, ca, tl, cs, hk, hc⟩ := hF
  refine enter (args := [_, _, _, _]) (Γ := [(0, _), (1, _), (2, _), (3, _)]) Tryd.func38 Tryd.ntmps38 rfl (of_decide_eq_true rfl) (.cons rfl (.cons rfl (.cons rfl (.cons rfl .nil)))) ?_
  refine St.cls (C' := Hp w [⟨c, .int .i64 md :: .int .u32 st :: .int .u32 mie :: .int .u32 mip :: .int .u32 tv :: .int .u32 sc :: .int .u32 ep :: .int .u32 ca :: .int .u32 tl :: cs, 54⟩]) (fun _ h' => Hp.open h' hc) ?_
  repeat' (first | (apply Wl.move; exact rfl; exact rfl) | (apply Wl.assign; exact rfl; exact rfl) | (apply Wl.nilCheck; exact rfl; exact rfl) | (apply Wl.fieldAddr0; exact rfl; exact rfl) | (apply Wl.fieldAddrZ; exact rfl; exact rfl) | (apply Wl.loadH; exact rfl; exact rfl; (repeat (first | exact List.Mem.head _ | apply List.Mem.tail)); exact rfl) | (apply Wl.eqlPN; exact rfl; exact rfl; exact rfl) | (apply Wl.neq; exact rfl; exact rfl; exact rfl) | (apply Wl.and; exact rfl; exact rfl; exact rfl) | (apply Wl.or; exact rfl; exact rfl; exact rfl) | (apply Wl.andNot; exact rfl; exact rfl; exact rfl) | (apply Wl.shl; exact rfl; exact rfl; exact rfl; (omega)) | (apply Wl.convI; exact rfl; exact rfl) | (apply Wl.store; exact rfl; exact rfl; exact rfl; (repeat (first | apply HSet.here | apply HSet.there)); (repeat (first | apply LSet.z | apply LSet.s))) | (apply Wl.nil) | (apply St.seq) | (apply St.region) | (apply St.condF; exact rfl; (first | with_reducible rfl | with_reducible assumption | decide)) | (apply St.ret) | (apply St.skip) | (apply Gt.next) | (apply Gt.out1; exact rfl; exact rfl; intro w' hp) | (apply Wl.splitP; exact rfl; exact rfl; all_goals (intros; try (exfalso; omega))) | (apply Wl.splitB; exact rfl; exact rfl; all_goals intros) | (apply St.condP; exact rfl; all_goals (intros; try (exfalso; omega))) | (apply St.condB; exact rfl; all_goals intros))
  all_goals exact ⟨rfl, FF.leaf (by assumption) hp⟩
theorem fbyte (x y z : Int) (w : World) : Calls Tryd.prog 57 #[.agg #[.int .i64 x, .int .i64 y, .int .u32 z]] w fun e w' => (∃ v, e = .returned (.int .u8 v)) ∧ Hp w [] w' := by
  refine enter (args := [_]) (Γ := [(0, _)]) Tryd.func57 Tryd.ntmps57 rfl (of_decide_eq_true rfl) (.cons rfl .nil) ?_
  repeat' (first | (apply Wl.assign; exact rfl; exact rfl) | (apply Wl.fieldAddr0; exact rfl; exact rfl) | (apply Wl.fieldAddrZ; exact rfl; exact rfl) | (apply Wl.loadH; exact rfl; exact rfl; (repeat (first | exact List.Mem.head _ | apply List.Mem.tail)); exact rfl) | (apply Wl.and; exact rfl; exact rfl; exact rfl) | (apply Wl.or; exact rfl; exact rfl; exact rfl) | (apply Wl.shl; exact rfl; exact rfl; exact rfl; (omega)) | (apply Wl.convI; exact rfl; exact rfl) | (apply Wl.boxA; exact rfl; exact rfl; intro c hc ho) | (apply Wl.nil) | (apply St.seq) | (apply St.region) | (apply St.ret) | (apply Gt.next) | (apply Gt.out1; exact rfl; exact rfl; intro w' hp) | (apply Wl.splitP; exact rfl; exact rfl; all_goals (intros; try (exfalso; omega))) | (apply Wl.splitB; exact rfl; exact rfl; all_goals intros) | (apply St.condP; exact rfl; all_goals (intros; try (exfalso; omega))) | (apply St.condB; exact rfl; all_goals intros))
  exact ⟨⟨_, rfl⟩, hp.drop (by simp; omega)⟩
def EntS (w : World) (a : Option Addr) (n : Nat) : Prop := ∀ i : Nat, i < n → ∃ b o, a = some ⟨b, o, none⟩ ∧ ∃ x y z : Int, w.cell? ⟨b, o + i * 3, none⟩ = some (.int .i64 x) ∧ w.cell? ⟨b, o + i * 3 + 1, none⟩ = some (.int .i64 y) ∧ w.cell? ⟨b, o + i * 3 + 2, none⟩ = some (.int .u32 z)
theorem cell_old {w : World} {a : Addr} {v : Value} (h : w.cell? a = some v) : a.block < w.heap.size := World.block_lt_of_cell? w _ h
end Go.Proofs.YtcefkbnachnciaaDoor
end
