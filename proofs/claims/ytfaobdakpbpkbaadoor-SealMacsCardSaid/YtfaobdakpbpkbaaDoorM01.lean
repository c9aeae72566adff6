/-
  10 texts, one behind the other; each says what it proves. Conditions: as each text says.
-/
import Derived.WalkKit
import Derived.WalkSpells
import Derived.WalkLawsBesides
import Derived.ProofKit
import Derived.Lib.SmallJoins
import Derived.Lib.Hide
import Derived.Deep.Quiet
import Derived.Laws.Slices
import Derived.LoopN
import Derived.Laws.ResultCell
import Derived.DeepKeys
import Derived.Laws.BitsLemmas
import Derived.Laws.Bits64
import Derived.Test.YtfaobdakpbpkbaaDoorProg
import Derived.KernelRfl
section
/-
  Words and small lemmas of my own on worlds, slices that are read, and frames; they speak of no program.
-/
namespace Go.Pt
open Go.RowKit
/-- Outside the blocks of S what was there is as it was; nothing has gone; the streams are as they were. -/
structure Upd (S : Nat → Prop) (w w' : World) : Prop where
  os : w'.os = w.os
  tape : w'.tape = w.tape
  output : w'.output = w.output
  size : w.heap.size ≤ w'.heap.size
  block : ∀ k, k < w.heap.size → ¬ S k → w'.heap[k]? = w.heap[k]?

theorem Upd.refl (S : Nat → Prop) (w : World) : Upd S w w := ⟨rfl, rfl, rfl, Nat.le_refl _, fun _ _ _ => rfl⟩
theorem Upd.trans {S : Nat → Prop} {a b c : World} (h : Upd S a b) (k : Upd S b c) : Upd S a c :=
  ⟨k.os.trans h.os, k.tape.trans h.tape, k.output.trans h.output, Nat.le_trans h.size k.size,
   fun i hi hs => (k.block i (Nat.lt_of_lt_of_le hi h.size) hs).trans (h.block i hi hs)⟩
theorem Upd.mono {S S' : Nat → Prop} {a b : World} (h : Upd S a b) (hs : ∀ k, k < a.heap.size → S k → S' k) : Upd S' a b :=
  ⟨h.os, h.tape, h.output, h.size, fun k hk hn => h.block k hk fun x => hn (hs k hk x)⟩
theorem Upd.comp {S S' T : Nat → Prop} {a b c : World} (h : Upd S a b) (k : Upd S' b c) (ht : ∀ k, k < a.heap.size → S k ∨ S' k → T k) : Upd T a c :=
  ⟨k.os.trans h.os, k.tape.trans h.tape, k.output.trans h.output, Nat.le_trans h.size k.size,
   fun i hi hs => (k.block i (Nat.lt_of_lt_of_le hi h.size) fun x => hs (ht i hi (.inr x))).trans (h.block i hi fun x => hs (ht i hi (.inl x)))⟩
theorem Upd.drew (S : Nat → Prop) (w : World) : Upd S w w.drew := ⟨rfl, rfl, rfl, Nat.le_refl _, fun _ _ _ => rfl⟩
theorem Upd.alloc (S : Nat → Prop) (w : World) (o : Obj) : Upd S w (w.alloc o) :=
  ⟨rfl, rfl, rfl, by simp, fun k hk _ => Below.heap_alloc _ _ _ hk⟩
theorem Upd.setCell {S : Nat → Prop} (w : World) (p : Addr) (u : Value) (hp : S p.block) : Upd S w (w.setCell p u) :=
  ⟨rfl, rfl, rfl, by simp [World.setCell], fun k _ hs => Below.heap_setCell _ _ _ _ fun e => hs (e ▸ hp)⟩
theorem Upd.grown {S : Nat → Prop} {w w' : World} {row : Option Nat} (hg : w.grownBy w' row) (hr : ∀ k, row = some k → S k) : Upd S w w' :=
  ⟨hg.os, hg.tape, hg.output, hg.size, fun k hk hs => hg.block k hk fun e => hs (hr k e.symm)⟩
theorem Upd.toBelow {S : Nat → Prop} {B : Nat} {w w' : World} (h : Upd S w w') (hB : B ≤ w.heap.size) (hs : ∀ k, k < B → ¬ S k) : Below B w w' :=
  ⟨h.os, h.tape, h.output, h.size, fun k hk => h.block k (Nat.lt_of_lt_of_le hk hB) (hs k hk)⟩
theorem Upd.cell {S : Nat → Prop} {w w' : World} (h : Upd S w w') {p : Addr} {v : Value} (hc : w.cell? p = some v) (hs : ¬ S p.block) : w'.cell? p = some v :=
  (World.cell?_of_block (w := w) (h.block p.block (World.block_lt_of_cell? w p hc) hs)).trans hc
theorem Upd.heap {S : Nat → Prop} {w w' : World} (h : Upd S w w') {k : Nat} {o : Obj} (hc : w.heap[k]? = some o) (hs : ¬ S k) : w'.heap[k]? = some o :=
  (h.block k (lt_of_block hc) hs).trans hc
theorem cellAt {w : World} {g : Nat} {cs : Array Value} {t : TypeId} {fr : Nat × Nat} (h : w.heap[g]? = some (.cells cs t fr)) (i : Nat) : w.cell? ⟨g, i, none⟩ = cs[i]? := by simp [World.cell?, h]
theorem freeAt {w : World} {g : Nat} {cs : Array Value} {t : TypeId} (h : w.heap[g]? = some (.cells cs t (0, 0))) (i : Nat) : w.frozen? ⟨g, i, none⟩ = false := by simp [World.frozen?, h]
theorem blockSet {w : World} {g i : Nat} {cs : Array Value} {t : TypeId} {fr : Nat × Nat} (h : w.heap[g]? = some (.cells cs t fr)) (v : Value) : (w.setCell ⟨g, i, none⟩ v).heap[g]? = some (.cells (cs.setIfInBounds i v) t fr) := by
  have hlt := lt_of_block h
  have h' : w.heap[g] = .cells cs t fr := by simpa [Array.getElem?_eq_getElem hlt] using h
  show (w.heap.modify g _)[g]? = _
  rw [Array.getElem?_eq_getElem (by simpa using hlt), Array.getElem_modify_self, h']
  rfl
/-- v is a slice of n elements of sz cells each, which read as cs. -/
def Sv (w : World) (sz n : Nat) (v : Value) (cs : List Value) : Prop :=
  cs.length = n * sz ∧ ∃ a cap, v = .slice a n cap ∧ n ≤ cap ∧ cap ≤ maxLen ∧ (a = none → cap = 0) ∧
    (cs ≠ [] → ∃ b off, a = some ⟨b, off, none⟩ ∧ ∀ i (h : i < cs.length), w.cell? ⟨b, off + i, none⟩ = some cs[i])

theorem Sv.nil (w : World) (sz : Nat) : Sv w sz 0 (.slice none 0 0) [] := ⟨by simp, none, 0, rfl, Nat.le_refl _, by simp [maxLen], fun _ => rfl, fun h => (h rfl).elim⟩
theorem Sv.upd {S : Nat → Prop} {w w' : World} {sz n : Nat} {v : Value} {cs : List Value} (h : Sv w sz n v cs) (u : Upd S w w')
    (hs : ∀ k, v.ownBlock = some k → k < w.heap.size → cs ≠ [] → ¬ S k) : Sv w' sz n v cs := by
  obtain ⟨hl, a, cap, rfl, h1, h2, h0, h3⟩ := h
  refine ⟨hl, a, cap, rfl, h1, h2, h0, fun hne => ?_⟩
  obtain ⟨b, off, rfl, hc⟩ := h3 hne
  refine ⟨b, off, rfl, fun i hi => u.cell (hc i hi) ?_⟩
  exact hs b rfl (World.block_lt_of_cell? w _ (hc i hi)) hne
theorem Sv.ofOwn {w : World} {base : Nat} {e : TypeId} {sz n : Nat} {v : Value} {cs : List Value} (h : w.ownsRow base e sz v n cs) : Sv w sz n v cs := by
  obtain ⟨hl, h⟩ := h
  rcases h with ⟨rfl, rfl⟩ | ⟨g, cap, cur, rfl, hb, hh, hn, hc, hs, ht⟩
  · have : cs = [] := by simpa using hl
    subst this; exact Sv.nil w sz
  · refine ⟨hl, _, cap, rfl, hn, hc, fun e => (by cases e), fun _ => ⟨g, 0, rfl, fun i hi => ?_⟩⟩
    rw [cellAt hh]
    subst ht
    simp only [List.length_take] at hi
    have hi' : i < cur.size := by simp at hi; omega
    simp [hi']

/-- bytes -/
def byteCells (l : List UInt8) : List Value := l.map fun c => .int .u8 (c.toNat : Int)
theorem byteCells_length (l : List UInt8) : (byteCells l).length = l.length := by simp [byteCells]
def Bs (w : World) (v : Value) (l : List UInt8) : Prop := Sv w 1 l.length v (byteCells l)

theorem byteCells_ne {l : List UInt8} : byteCells l ≠ [] ↔ l ≠ [] := by simp [byteCells]
theorem Bs.upd {S : Nat → Prop} {w w' : World} {v : Value} {l : List UInt8} (h : Bs w v l) (u : Upd S w w')
    (hs : ∀ k, v.ownBlock = some k → k < w.heap.size → l ≠ [] → ¬ S k) : Bs w' v l :=
  Sv.upd h u fun k h1 h2 h3 => hs k h1 h2 (byteCells_ne.1 h3)
theorem Bs.shape {w : World} {v : Value} {l : List UInt8} (h : Bs w v l) : ∃ a cap, v = .slice a l.length cap ∧ l.length ≤ cap ∧ cap ≤ maxLen := by
  obtain ⟨_, a, cap, h1, h2, h3, _, _⟩ := h; exact ⟨a, cap, h1, h2, h3⟩
theorem Bs.cells {w : World} {a : Option Addr} {n cap : Nat} {l : List UInt8} (h : Bs w (.slice a n cap) l) (hne : l ≠ []) :
    ∃ b off, a = some ⟨b, off, none⟩ ∧ ∀ i (hi : i < l.length), w.cell? ⟨b, off + i, none⟩ = some (.int .u8 (l[i].toNat : Int)) := by
  obtain ⟨_, a', cap', h1, _, _, _, h3⟩ := h
  cases h1
  obtain ⟨b, off, rfl, hc⟩ := h3 (byteCells_ne.2 hne)
  refine ⟨b, off, rfl, fun i hi => ?_⟩
  have := hc i (by simpa [byteCells] using hi)
  simpa [byteCells] using this
theorem Bs.len {w : World} {a : Option Addr} {n cap : Nat} {l : List UInt8} (h : Bs w (.slice a n cap) l) : l.length = n ∧ n ≤ cap ∧ cap ≤ maxLen := by
  obtain ⟨a', cap', h1, h2, h3⟩ := h.shape
  cases h1; exact ⟨rfl, h2, h3⟩
theorem Bs.nilcap {w : World} {a : Option Addr} {n cap : Nat} {l : List UInt8} (h : Bs w (.slice a n cap) l) (ha : a = none) : cap = 0 := by
  obtain ⟨_, a', cap', h1, _, _, h2, _⟩ := h
  cases h1; exact h2 ha
theorem Bs.ofBlk {w : World} {b : Nat} {l : List UInt8} {t : TypeId} {fr : Nat × Nat} (h : w.heap[b]? = some (.cells (byteCells l).toArray t fr)) (hl : l.length ≤ maxLen) : Bs w (.slice (some ⟨b, 0, none⟩) l.length l.length) l := by
  refine ⟨by simp [byteCells], _, _, rfl, Nat.le_refl _, hl, fun e => (by cases e), fun _ => ⟨b, 0, rfl, fun i hi => ?_⟩⟩
  rw [cellAt h]
  simp [hi]
/-- a piece of a slice reads as the piece -/
theorem Bs.sub {w : World} {a : Option Addr} {n cap lo hi mx : Nat} {l : List UInt8} (h : Bs w (.slice a n cap) l) (h1 : lo ≤ hi) (h2 : hi ≤ l.length) (h3 : hi ≤ mx) (h4 : mx ≤ cap) :
    Bs w (.slice (if mx = lo then a else a.map (·.add (lo * 1))) (hi - lo) (mx - lo)) ((l.take hi).drop lo) := by
  rw [Nat.mul_one]
  obtain ⟨hn, hc, hm⟩ := h.len
  have hlen : ((l.take hi).drop lo).length = hi - lo := by simp; omega
  refine ⟨by simp [byteCells_length], _, mx - lo, by rw [hlen], by omega, by omega, fun e => ?_, fun hne => ?_⟩
  · split at e
    · omega
    · have := h.nilcap (by simpa using e); omega
  have hne' : (l.take hi).drop lo ≠ [] := byteCells_ne.1 hne
  have hlt : lo < hi := by
    rcases Nat.lt_or_ge lo hi with x | x
    · exact x
    · exact (hne' (by apply List.eq_nil_of_length_eq_zero; omega)).elim
  obtain ⟨b, off, rfl, hcell⟩ := h.cells (fun e => by subst e; simp at h2; omega)
  refine ⟨b, off + lo, ?_, fun i hi' => ?_⟩
  · rw [if_neg (by omega)]
    simp only [Option.map_some, Addr.add]
    split
    · subst lo; rfl
    · rfl
  · have hi2 : i < hi - lo := by rw [byteCells_length, hlen] at hi'; exact hi'
    have := hcell (lo + i) (by omega)
    rw [show off + lo + i = off + (lo + i) by omega, this]
    simp [byteCells]
end Go.Pt
end
section
/-
  A small engine of my own for walks: the frame is a list of the temporaries that are known, the world is known by a base world and by the blocks that the call has made or may write. Each operation has one rule; nothing of it speaks of a program.
-/
namespace Go.Pt
open Go.RowKit
abbrev Env := List (Nat × Value)
def look : Env → Nat → Option Value
  | [], _ => none
  | (d, v) :: r, t => bif Nat.beq t d then some v else look r t
def ev (Γ : Env) : Operand → Option Value
  | .tmp t => look Γ t
  | .const v => some v
  | .global g => some (.pointer (some ⟨g, 0, none⟩))
  | .func f => some (.func (.func f) #[] #[])

theorem beqFalse {a b : Nat} (h : ¬ a = b) : Nat.beq a b = false := by
  cases e : Nat.beq a b
  · rfl
  · exact (h (Nat.eq_of_beq_eq_true e)).elim

structure Fr (N : Nat) (a : Act) (Γ : Env) : Prop where
  defers : a.defers = []
  size : a.tmps.size = N
  get : ∀ t v, look Γ t = some v → a.tmps[t]? = some v

theorem Fr.ev {N : Nat} {a : Act} {Γ : Env} (h : Fr N a Γ) {x : Operand} {v : Value} (hx : ev Γ x = some v) : a.eval x = v := by
  cases x with
  | tmp t => simp only [Go.Pt.ev] at hx; simp [Act.eval, h.get t v hx]
  | const c => simp only [Go.Pt.ev] at hx; cases hx; rfl
  | global g => simp only [Go.Pt.ev] at hx; cases hx; rfl
  | func f => simp only [Go.Pt.ev] at hx; cases hx; rfl
theorem Fr.put {N : Nat} {a : Act} {Γ : Env} (h : Fr N a Γ) {d : Nat} (hd : Nat.blt d N = true) (v : Value) : Fr N (a.put (some d) v) ((d, v) :: Γ) := by
  have hlt : d < N := Nat.le_of_ble_eq_true hd
  refine ⟨h.defers, by simp [Act.put, h.size], fun t u hu => ?_⟩
  simp only [look] at hu
  by_cases e : t = d
  · subst e
    simp at hu
    subst hu
    simp [Act.put, h.size, hlt]
  · have : Nat.beq t d = false := beqFalse e
    rw [this] at hu
    simp at hu
    have := h.get t u hu
    simp [Act.put, Array.getElem?_setIfInBounds_ne (Ne.symm e), this]
/-- what is known of the frame is forgotten but for Γ' -/
inductive Sub (Γ : Env) : Env → Prop
  | nil : Sub Γ []
  | cons {t : Nat} {v : Value} {r : Env} (h : look Γ t = some v) (hs : Sub Γ r) : Sub Γ ((t, v) :: r)
theorem Sub.look {Γ Γ' : Env} (h : Sub Γ Γ') {t : Nat} {v : Value} (ht : look Γ' t = some v) : look Γ t = some v := by
  induction h with
  | nil => simp [Go.Pt.look] at ht
  | @cons d u r h hs ih =>
    simp only [Go.Pt.look] at ht
    by_cases e : t = d
    · subst e; simp at ht; subst ht; exact h
    · have : Nat.beq t d = false := beqFalse e
      rw [this] at ht; exact ih (by simpa using ht)
theorem Fr.sub {N : Nat} {a : Act} {Γ Γ' : Env} (h : Fr N a Γ) (hs : Sub Γ Γ') : Fr N a Γ' := ⟨h.defers, h.size, fun t v ht => h.get t v (hs.look ht)⟩
/-- the block's number, its cells, its type -/
structure Blk where
  b : Nat
  cs : List Value
  t : TypeId
/-- none of the blocks H is b -/
def Off : List Blk → Nat → Prop
  | [], _ => True
  | x :: r, b => x.b ≠ b ∧ Off r b
def Apart : List Blk → Prop
  | [] => True
  | x :: r => Off r x.b ∧ Apart r
def Own (w : World) : List Blk → Prop
  | [] => True
  | x :: r => w.heap[x.b]? = some (.cells x.cs.toArray x.t (0, 0)) ∧ Own w r

/-- The blocks H are as told; what else was in the world w0 is as it was. -/
structure Hp (w0 : World) (H : List Blk) (w : World) : Prop where
  upd : Upd (fun k => ¬ Off H k) w0 w
  own : Own w H
  apart : Apart H

theorem Hp.start (w : World) : Hp w [] w := ⟨Upd.refl _ _, trivial, trivial⟩
theorem Hp.rebase {w0 w : World} {H : List Blk} (h : Hp w0 H w) : Hp w H w := ⟨Upd.refl _ _, h.own, h.apart⟩
/-- an old block is taken among those that may be written -/
theorem Hp.open {w0 w : World} {H : List Blk} (h : Hp w0 H w) {c : Nat} {cs : List Value} {t : TypeId} (hc : w0.heap[c]? = some (.cells cs.toArray t (0, 0))) (ho : Off H c := by exact trivial) : Hp w0 (⟨c, cs, t⟩ :: H) w :=
  ⟨h.upd.mono fun _ _ hn ho => hn ho.2, ⟨h.upd.heap hc fun x => x ho, h.own⟩, ⟨ho, h.apart⟩⟩
theorem Hp.drew {w0 w : World} {H : List Blk} (h : Hp w0 H w) : Hp w0 H w.drew := ⟨h.upd.trans (Upd.drew _ _), by
  have := h.own
  clear h
  induction H with
  | nil => trivial
  | cons x r ih => exact ⟨this.1, ih this.2⟩, h.apart⟩
theorem Off.of {H : List Blk} {b : Nat} (h : ∀ x ∈ H, x.b ≠ b) : Off H b := by
  induction H with
  | nil => trivial
  | cons x r ih => exact ⟨h x (by simp), ih fun y hy => h y (by simp [hy])⟩
theorem Off.at {H : List Blk} {b : Nat} (h : Off H b) {x : Blk} (hx : x ∈ H) : x.b ≠ b := by
  induction H with
  | nil => cases hx
  | cons y r ih => cases hx with
    | head => exact h.1
    | tail _ hx => exact ih h.2 hx
theorem Own.at {w : World} {H : List Blk} (h : Own w H) {x : Blk} (hx : x ∈ H) : w.heap[x.b]? = some (.cells x.cs.toArray x.t (0, 0)) := by
  induction H with
  | nil => cases hx
  | cons y r ih => cases hx with
    | head => exact h.1
    | tail _ hx => exact ih h.2 hx
theorem Own.of {w : World} {H : List Blk} (h : ∀ x ∈ H, w.heap[x.b]? = some (.cells x.cs.toArray x.t (0, 0))) : Own w H := by
  induction H with
  | nil => trivial
  | cons x r ih => exact ⟨h x (by simp), ih fun y hy => h y (by simp [hy])⟩
theorem Own.lt {w : World} {H : List Blk} (h : Own w H) {x : Blk} (hx : x ∈ H) : x.b < w.heap.size := lt_of_block (h.at hx)
theorem Own.upd {S : Nat → Prop} {w w' : World} {H : List Blk} (h : Own w H) (u : Upd S w w') (hs : ∀ x ∈ H, ¬ S x.b) : Own w' H :=
  Own.of fun x hx => u.heap (h.at hx) (hs x hx)
/-- a step that turns nothing of H -/
theorem Hp.step {S : Nat → Prop} {w0 w w' : World} {H : List Blk} (h : Hp w0 H w) (u : Upd S w w') (hs : ∀ x ∈ H, ¬ S x.b) (ho : ∀ k, k < w0.heap.size → S k → ¬ Off H k) : Hp w0 H w' :=
  ⟨⟨u.os.trans h.upd.os, u.tape.trans h.upd.tape, u.output.trans h.upd.output, Nat.le_trans h.upd.size u.size, fun k hk hn =>
      (u.block k (Nat.lt_of_lt_of_le hk h.upd.size) fun s => hn (ho k hk s)).trans (h.upd.block k hk hn)⟩, h.own.upd u hs, h.apart⟩
theorem Off.lt {w : World} {H : List Blk} (h : Own w H) : Off H w.heap.size := Off.of fun x hx => by have := h.lt hx; omega
/-- a new block -/
theorem Hp.alloc {w0 w : World} {H : List Blk} (h : Hp w0 H w) (cs : List Value) (t : TypeId) : Hp w0 (⟨w.heap.size, cs, t⟩ :: H) (w.alloc (.cells cs.toArray t)) := by
  refine ⟨(h.upd.mono fun k _ hn => fun ho => hn ho.2).trans (Upd.alloc _ _ _), ⟨heap_alloc_new w _, h.own.upd (Upd.alloc (fun _ => False) w _) fun _ _ h => h⟩, ⟨Off.lt h.own, h.apart⟩⟩
/-- one block of H gets new cells -/
theorem Hp.set {w0 w : World} {A B : List Blk} {c : Nat} {cs cs' : List Value} {t : TypeId} (h : Hp w0 (A ++ ⟨c, cs, t⟩ :: B) w) {w' : World} (u : Upd (· = c) w w') (hc : w'.heap[c]? = some (.cells cs'.toArray t (0, 0))) :
    Hp w0 (A ++ ⟨c, cs', t⟩ :: B) w' := by
  have offs : ∀ (A : List Blk) k, Off (A ++ ⟨c, cs', t⟩ :: B) k ↔ Off (A ++ ⟨c, cs, t⟩ :: B) k := by
    intro A k
    induction A with
    | nil => exact Iff.rfl
    | cons x r ih => simp only [List.cons_append, Off, ih]
  have aparts : ∀ (A : List Blk), Apart (A ++ ⟨c, cs, t⟩ :: B) → Apart (A ++ ⟨c, cs', t⟩ :: B) := by
    intro A
    induction A with
    | nil => exact fun h => h
    | cons x r ih => exact fun h => ⟨(offs r x.b).2 h.1, ih h.2⟩
  have ne : ∀ x ∈ A ++ B, x.b ≠ c := by
    have hap := h.apart
    clear h offs aparts
    induction A with
    | nil => intro x hx; exact hap.1.at hx
    | cons y r ih =>
      intro x hx
      cases hx with
      | head => exact fun e => (hap.1.at (x := ⟨c, cs, t⟩) (by simp)) e.symm
      | tail _ hx => exact ih hap.2 x hx
  refine ⟨⟨u.os.trans h.upd.os, u.tape.trans h.upd.tape, u.output.trans h.upd.output, Nat.le_trans h.upd.size u.size, fun k hk hn => ?_⟩, Own.of fun x hx => ?_, aparts A h.apart⟩
  · have hoff : Off (A ++ ⟨c, cs, t⟩ :: B) k := by
      rcases Classical.em (Off (A ++ ⟨c, cs, t⟩ :: B) k) with e | e
      · exact e
      · exact (hn fun e' => e ((offs A k).1 e')).elim
    have hkc : k ≠ c := fun e => hoff.at (x := ⟨c, cs, t⟩) (by simp) e.symm
    exact (u.block k (Nat.lt_of_lt_of_le hk h.upd.size) hkc).trans (h.upd.block k hk fun x => x hoff)
  · simp only [List.mem_append, List.mem_cons] at hx
    rcases hx with hx | rfl | hx
    · exact u.heap (h.own.at (by simp [hx])) (ne x (by simp [hx]))
    · exact hc
    · exact u.heap (h.own.at (by simp [hx])) (ne x (by simp [hx]))

inductive HSet (c : Nat) (cs cs' : List Value) (t : TypeId) : List Blk → List Blk → Prop
  | here {r : List Blk} : HSet c cs cs' t (⟨c, cs, t⟩ :: r) (⟨c, cs', t⟩ :: r)
  | there {x : Blk} {r r' : List Blk} (h : HSet c cs cs' t r r') : HSet c cs cs' t (x :: r) (x :: r')
theorem HSet.split {c : Nat} {cs cs' : List Value} {t : TypeId} {H H' : List Blk} (h : HSet c cs cs' t H H') : ∃ A B, H = A ++ ⟨c, cs, t⟩ :: B ∧ H' = A ++ ⟨c, cs', t⟩ :: B := by
  induction h with
  | here => exact ⟨[], _, rfl, rfl⟩
  | @there x r r' h ih => obtain ⟨A, B, rfl, rfl⟩ := ih; exact ⟨x :: A, B, rfl, rfl⟩
theorem HSet.mem {c : Nat} {cs cs' : List Value} {t : TypeId} {H H' : List Blk} (h : HSet c cs cs' t H H') : (⟨c, cs, t⟩ : Blk) ∈ H := by
  obtain ⟨A, B, rfl, rfl⟩ := h.split; simp
theorem Hp.hset {w0 w w' : World} {H H' : List Blk} {c : Nat} {cs cs' : List Value} {t : TypeId} (h : Hp w0 H w) (hs : HSet c cs cs' t H H') (u : Upd (· = c) w w') (hc : w'.heap[c]? = some (.cells cs'.toArray t (0, 0))) : Hp w0 H' w' := by
  obtain ⟨A, B, rfl, rfl⟩ := hs.split
  exact h.set u hc
/-- behind a call that turns one block of H -/
theorem Hp.callSet {w0 w w' : World} {H H' : List Blk} {c : Nat} {cs cs' : List Value} {t : TypeId} (h : Hp w0 H w) (hs : HSet c cs cs' t H H') (k : Hp w [⟨c, cs', t⟩] w') : Hp w0 H' w' :=
  h.hset hs (k.upd.mono fun j _ hj => Classical.byContradiction fun e => hj ⟨fun x => e x.symm, trivial⟩) k.own.1
/-- new blocks are forgotten -/
theorem Hp.drop {w0 w : World} {H : List Blk} (h : Hp w0 H w) (hn : ∀ x ∈ H, w0.heap.size ≤ x.b) : Hp w0 [] w :=
  ⟨h.upd.mono fun _ hk hs => (hs (Off.of fun x hx e => by have := hn x hx; omega)).elim, trivial, trivial⟩
/-- behind a call that turns nothing that was there -/
theorem Hp.keep {w0 w w' : World} {H : List Blk} (h : Hp w0 H w) (k : Hp w [] w') : Hp w0 H w' := h.step k.upd (fun _ _ x => x trivial) (fun _ _ x => (x trivial).elim)
/-- a cell of a block of H -/
theorem Hp.cell {w0 w : World} {H : List Blk} (h : Hp w0 H w) {c i : Nat} {cs : List Value} {t : TypeId} {v : Value} (hm : (⟨c, cs, t⟩ : Blk) ∈ H) (hi : cs[i]? = some v) : w.cell? ⟨c, i, none⟩ = some v := by
  rw [cellAt (h.own.at hm)]; simpa using hi
theorem Hp.free {w0 w : World} {H : List Blk} (h : Hp w0 H w) {c i : Nat} {cs : List Value} {t : TypeId} (hm : (⟨c, cs, t⟩ : Blk) ∈ H) : w.frozen? ⟨c, i, none⟩ = false := freeAt (h.own.at hm) i
/-- a cell of the old memory -/
theorem Hp.old {w0 w : World} {H : List Blk} (h : Hp w0 H w) {a : Addr} {v : Value} (hc : w0.cell? a = some v) (ho : Off H a.block) : w.cell? a = some v := h.upd.cell hc fun x => x ho

end Go.Pt
end
section
/-
  A region that draws its order and holds operations that turn the world: if each of these comes up alone, and all others yield one value in a class of worlds that is kept, one walk in one order serves every order.
-/
namespace Go.Pt

/-- operations that turn the world -/
def effB (o : Oper) : Bool := match o.op with
  | .call { callee := .builtin .len, .. } => false
  | .call _ | .store .. | .alloc _ | .box .. | .buildSlice .. | .makeSlice .. | .makeMap .. | .mapUpdate .. | .insert .. | .mapEntry .. | .entryStore .. => true
  | _ => false

section
variable {P : Program} {ops : Array Oper} {C : World → Prop}

/-- the walk in the order of the list -/
def wpE (P : Program) (ops : Array Oper) (C : World → Prop) (Q : Act → World → Prop) : List Oper → Act → World → Prop
  | [], a, w => Q a w
  | o :: rest, a, w =>
    if Region.wanted o (yielded ops a.tmps) then
      if effB o then o.wp P a w (fun a' w' => C w' ∧ wpE P ops C Q rest a' w') (fun _ _ _ => False)
      else ∃ v, (∀ w', C w' → (execOp a.eval o).run P w' = .ok (.value v) w') ∧ wpE P ops C Q rest (a.put o.dst v) w
    else wpE P ops C Q rest (a.put o.dst undef) w

def onlyN (Q : Act → World → Prop) : Exit → Act → World → Prop
  | .normal, a, w => Q a w
  | _, _, _ => False

/-- every order, the class kept at each step -/
def wpAnyC (P : Program) (ops : Array Oper) (C : World → Prop) (Q : Act → World → Prop) : Nat → Array Bool → Act → World → Prop
  | 0, listed, a, w => C w ∧ Region.ready .any ops listed = [] ∧ Q a w
  | n + 1, listed, a, w => C w ∧ (Region.ready .any ops listed = [] → Q a w) ∧ ∀ i ∈ Region.ready .any ops listed, wpOp P ops (onlyN Q) i (wpAnyC P ops C Q n (listed.setIfInBounds i true)) a w

theorem wpAny_of_C {Q : Act → World → Prop} : ∀ (n : Nat) (listed : Array Bool) (a : Act) (w : World), wpAnyC P ops C Q n listed a w → wpAny P .any ops (onlyN Q) n listed a w
  | 0, _, _, _, h => ⟨h.2.1, h.2.2⟩
  | n + 1, _, _, _, h => ⟨h.2.1, fun i hi => wpOp_mono (fun a' w' hh => wpAny_of_C n _ a' w' hh) (h.2.2 i hi)⟩

def YC (P : Program) (ops : Array Oper) (C : World → Prop) (o : Oper) (v : Value) (a : Act) : Prop :=
  (Region.wanted o (yielded ops a.tmps) = true ∧ ∀ w, C w → (execOp a.eval o).run P w = .ok (.value v) w) ∨ (Region.wanted o (yielded ops a.tmps) = false ∧ v = undef)

theorem YC.same {o : Oper} {v : Value} {a a' : Act} (hy : YC P ops C o v a) (he : execOp a'.eval o = execOp a.eval o) (hw : Region.wanted o (yielded ops a'.tmps) = Region.wanted o (yielded ops a.tmps)) : YC P ops C o v a' := by
  unfold YC at *; rw [he, hw]; exact hy

theorem YC.now {i : Nat} {o : Oper} {v : Value} {a : Act} {w : World} (hi : ops[i]? = some o) (hy : YC P ops C o v a) (hC : C w) {Q : Exit → Act → World → Prop} {K : Act → World → Prop} (h : K (a.put o.dst v) w) : wpOp P ops Q i K a w := by
  unfold wpOp
  simp only [hi]
  rcases hy with ⟨hw, hv⟩ | ⟨hw, rfl⟩
  · rw [if_pos hw]; refine .inl ?_; simp only [Oper.wp, hv w hC, Oper.upon]; exact h
  · rw [hw]; exact h

/-- an operation oj that is apart from oi: done ahead of oi instead of behind it -/
theorem wpOp_swap {j : Nat} {oi oj : Oper} {v : Value} {Q : Act → World → Prop} (hj : ops[j]? = some oj) (hap : oi.apart ops oj = true) (hsi : ∀ cs b, oi.op ≠ .select cs b) (hsj : ∀ cs b, oj.op ≠ .select cs b)
    {K : Act → World → Prop} {a : Act} {w : World} (hy : YC P ops C oi v a) (h : wpOp P ops (onlyN Q) j K (a.put oi.dst v) w) :
    wpOp P ops (onlyN Q) j (fun a' w' => YC P ops C oi v a' ∧ K (a'.put oi.dst v) w') a w := by
  obtain ⟨h1, h2, h3⟩ := Oper.apart_spec hap
  have keep : ∀ (a : Act), YC P ops C oi v a → ∀ u, YC P ops C oi v (a.put oj.dst u) := fun a hy u => hy.same (execOp_put oi hsi a oj.dst u h3) (wanted_put oi a oj.dst u h3)
  have keepD : ∀ d, YC P ops C oi v { a with defers := d :: a.defers } := fun d => hy.same rfl rfl
  have noOut : ¬ LetsOut (onlyN Q) := fun ⟨_, _, h⟩ => h
  unfold wpOp at *
  simp only [hj] at *
  rw [wanted_put oj a oi.dst v h1] at h
  by_cases hw : Region.wanted oj (yielded ops a.tmps) = true
  · rw [if_pos hw] at h ⊢
    rcases h with h | ⟨_, hout⟩
    case inr => exact (noOut hout).elim
    refine .inl ?_
    unfold Oper.wp at *
    rw [execOp_put oj hsj a oi.dst v h1] at h
    generalize (execOp a.eval oj).run P w = r at *
    cases r with
    | halt x w' => cases x <;> simp only [Oper.upon, onlyN] at h
    | ok n w' =>
      cases n <;> simp only [Oper.upon] at h ⊢
      case value u => exact ⟨keep a hy u, by rw [← Act.put_comm a v u h2]; exact h⟩
      case skip => exact ⟨keep a hy _, by rw [← Act.put_comm a v undef h2]; exact h⟩
      case defer d => exact ⟨keep _ (keepD d) _, by rw [← Act.put_comm _ v undef h2, ← Act.put_defers]; exact h⟩
      case enter f args =>
        refine Calls.mono h fun e w'' he => ?_
        cases e with
        | returned u => exact ⟨keep a hy u, by rw [← Act.put_comm a v u h2]; exact he⟩
        | panicked c => exact he.elim
        | outgrown => exact (noOut he).elim
      case row row args => exact Rows.mono h fun u w'' he => ⟨keep a hy u, by rw [← Act.put_comm a v u h2]; exact he⟩
  · rw [if_neg hw] at h ⊢
    exact ⟨keep a hy _, by rw [← Act.put_comm a v undef h2]; exact h⟩

/-- what yields one value in every world of the class may be taken first -/
theorem firstC {Q : Act → World → Prop} {i : Nat} {oi : Oper} {v : Value} (hi : ops[i]? = some oi) (hsel : Region.noSelect ops = true) :
    ∀ (n : Nat) (listed : Array Bool) (a : Act) (w : World),
      (∀ j oj, ops[j]? = some oj → j ≠ i → listed.getD j true = false → (∀ e ∈ oj.after, Region.binds .any e = true → e.on ≠ i) → oi.apart ops oj = true) →
      i ∈ Region.ready .any ops listed → YC P ops C oi v a → wpAnyC P ops C Q n (listed.setIfInBounds i true) (a.put oi.dst v) w → wpAnyC P ops C Q (n + 1) listed a w := by
  have hs := fun j o cs b => Region.noSelect_spec hsel j o cs b
  intro n
  induction n with
  | zero =>
    intro listed a w _ hr hy H
    refine ⟨H.1, fun h => (by rw [h] at hr; cases hr), fun j hj => ?_⟩
    by_cases hji : j = i
    · subst hji; exact hy.now hi H.1 H
    · have := ready_mono hj hji
      rw [H.2.1] at this
      cases this
  | succ n ih =>
    intro listed a w hfree hr hy H
    refine ⟨H.1, fun h => (by rw [h] at hr; cases hr), fun j hj => ?_⟩
    by_cases hji : j = i
    · subst hji; exact hy.now hi H.1 H
    · have h1 := H.2.2 j (ready_mono hj hji)
      obtain ⟨hjun, oj, hoj, hall⟩ := mem_ready.1 hj
      have hnot : ∀ e ∈ oj.after, Region.binds .any e = true → e.on ≠ i := fun e he hb heq => by
        have h1 := hall e he hb
        have h0 := (mem_ready.1 hr).1
        rw [heq] at h1
        rcases Nat.lt_or_ge i listed.size with h' | h'
        · simp [h'] at h0 h1; rw [h0] at h1; cases h1
        · simp [Array.getElem?_eq_none h'] at h1
      have h2 := wpOp_swap hoj (hfree j oj hoj hji hjun hnot) (fun cs b => hs i oi cs b hi) (fun cs b => hs j oj cs b hoj) hy h1
      have hfree' : ∀ k ok, ops[k]? = some ok → k ≠ i → (listed.setIfInBounds j true).getD k true = false → (∀ e ∈ ok.after, Region.binds .any e = true → e.on ≠ i) → oi.apart ops ok = true := fun k ok hk hki hun hno => by
        refine hfree k ok hk hki ?_ hno
        by_cases hjk : j = k
        · subst hjk; exact hjun
        · rw [getD_set_ne true hjk] at hun; exact hun
      refine wpOp_mono (fun a' w' h3 => ih (listed.setIfInBounds j true) a' w' hfree' (ready_mono hr (Ne.symm hji)) h3.1 ?_) h2
      rw [Array.setIfInBounds_comm _ _ hji]
      exact h3.2

end
end Go.Pt
end
section
/-
  The rules of my engine: one for each operation.
-/
namespace Go.Pt
open Go.RowKit
inductive LSet : List Value → Nat → Value → List Value → Prop
  | z {x v : Value} {r : List Value} : LSet (x :: r) 0 v (v :: r)
  | s {x v : Value} {r r' : List Value} {n : Nat} (h : LSet r n v r') : LSet (x :: r) (n + 1) v (x :: r')
theorem LSet.out {l l' : List Value} {i : Nat} {v : Value} (h : LSet l i v l') : i < l.length ∧ l.set i v = l' := by
  induction h with
  | z => simp
  | s h ih => simpa using ih
inductive LOver : List Value → List Value → List Value → Prop
  | nil {l : List Value} : LOver l [] l
  | cons {x y : Value} {r r' xs : List Value} (h : LOver r xs r') : LOver (y :: r) (x :: xs) (x :: r')
inductive LPut : List Value → Nat → List Value → List Value → Prop
  | z {l l' xs : List Value} (h : LOver l xs l') : LPut l 0 xs l'
  | s {x : Value} {r r' xs : List Value} {n : Nat} (h : LPut r n xs r') : LPut (x :: r) (n + 1) xs (x :: r')
theorem LOver.out {l l' xs : List Value} (h : LOver l xs l') : xs.length ≤ l.length ∧ l' = xs ++ l.drop xs.length := by
  induction h with
  | nil => simp
  | cons h ih => obtain ⟨h1, h2⟩ := ih; exact ⟨by simpa using h1, by simpa using h2⟩
theorem LPut.out {l l' xs : List Value} {n : Nat} (h : LPut l n xs l') : n + xs.length ≤ l.length ∧ l.take n ++ xs ++ l.drop (n + xs.length) = l' := by
  induction h with
  | z h => obtain ⟨h1, h2⟩ := h.out; exact ⟨by simpa using h1, by simp [h2]⟩
  | @s x r r' xs n h ih =>
    obtain ⟨h1, h2⟩ := ih
    refine ⟨by simp; omega, ?_⟩
    rw [← h2, show n + 1 + xs.length = (n + xs.length) + 1 by omega]
    simp
inductive LSub : List Value → Nat → Nat → List Value → Prop
  | z {l : List Value} : LSub l 0 0 []
  | t {x : Value} {r xs : List Value} {n : Nat} (h : LSub r 0 n xs) : LSub (x :: r) 0 (n + 1) (x :: xs)
  | s {x : Value} {r xs : List Value} {i n : Nat} (h : LSub r i n xs) : LSub (x :: r) (i + 1) n xs
theorem LSub.out {l xs : List Value} {i n : Nat} (h : LSub l i n xs) : (l.drop i).take n = xs ∧ xs.length = n := by
  induction h with
  | z => simp
  | t h ih => simpa using ih
  | s h ih => simpa using ih
def aggB (P : Program) (t : Nat) : Bool := match P.underlying t with | some (.struct _) | some (.array _ _) => true | _ => false
def sizeB (P : Program) (t : Nat) : Nat := ((P.info? t).map (·.size)).getD 0
def fieldB (P : Program) (t i : Nat) : Option (Nat × Nat × Bool) := match P.underlying t with
  | some (.struct fs) => (fs[i]?).map fun f => (f.offset, f.type, !(Nat.beq (sizeB P f.type) 0))
  | _ => none
class TyD (P : Program) (t : Nat) (d : outParam TypeDesc) : Prop where
  out : P.underlying t = some d
class TyS (P : Program) (t : Nat) (size bytes : outParam Nat) : Prop where
  out : (P.info? t).map (fun i => (i.size, i.bytes)) = some (size, bytes)
class TyZ (P : Program) (t : Nat) (z : outParam Value) : Prop where
  out : (P.info? t).bind (fun i => i.zero) = some z
/-- a type of one cell, no struct and no array -/
class TyC (P : Program) (t : Nat) : Prop where
  out : (P.underlying t).isSome = true ∧ aggB P t = false ∧ (P.info? t).map (fun i => i.size) = some 1
/-- a struct or an array of n cells -/
class TyA (P : Program) (t : Nat) (n : outParam Nat) : Prop where
  out : aggB P t = true ∧ (P.info? t).map (fun i => i.size) = some n
/-- field number i of the struct t: where it begins, its type -/
class Fld (P : Program) (t i : Nat) (off ft : outParam Nat) : Prop where
  out : fieldB P t i = some (off, ft, true)
class Ent (P : Program) (f : Nat) : Prop where
  out : ∀ args w, (callFunc f args).run P w = .ok (.enter f args) w

section
variable {P : Program} {w : World}
theorem ent_of {P : Program} {f : Nat} {fn : Func} (h1 : P.funcs[f]? = some fn) (h2 : (fn.name == "runtime.NumGoroutine") = false) (h3 : fn.body.isNone = false) : Ent P f :=
  ⟨fun args w => by
    have h2' : ¬ fn.name = "runtime.NumGoroutine" := by simpa using h2
    have h3' : ¬ fn.body = none := by cases hb : fn.body <;> simp_all
    simp [callFunc, h1, h2', h3']⟩
theorem run_size {t s b : Nat} [h : TyS P t s b] : (sizeOf t).run P w = .ok s w := by
  have h := h.out
  cases e : P.info? t with
  | none => rw [e] at h; cases h
  | some i => rw [e] at h; simp at h; simp [sizeOf, typeInfo, e, h.1]
theorem run_sizeA {t n : Nat} [h : TyA P t n] : (sizeOf t).run P w = .ok n w := by
  have h := h.out.2
  cases e : P.info? t with
  | none => rw [e] at h; cases h
  | some i => rw [e] at h; simp at h; simp [sizeOf, typeInfo, e, h]
theorem run_zero {t : Nat} {z : Value} [h : TyZ P t z] : (zeroValue t).run P w = .ok z w := by
  have h := h.out
  cases e : P.info? t with
  | none => rw [e] at h; cases h
  | some i => rw [e] at h; simp at h; simp [zeroValue, typeInfo, e, h]
theorem run_aggC {t : Nat} [h : TyC P t] : (isAgg t).run P w = .ok false w := by
  obtain ⟨h1, h2, _⟩ := h.out
  unfold aggB at h2
  cases e : P.underlying t with
  | none => rw [e] at h1; cases h1
  | some d => rw [e] at h2; cases d <;> simp_all [isAgg, run_underlying e]
theorem run_aggA {t n : Nat} [h : TyA P t n] : (isAgg t).run P w = .ok true w := by
  obtain ⟨h2, _⟩ := h.out
  unfold aggB at h2
  cases e : P.underlying t with
  | none => rw [e] at h2; cases h2
  | some d => rw [e] at h2; cases d <;> simp_all [isAgg, run_underlying e]
theorem run_loadC {t : Nat} [TyC P t] {a : Addr} {v : Value} (h : w.cell? a = some v) : (loadVar t a).run P w = .ok v w := by
  simp [loadVar, run_aggC, h]
theorem run_loadA {t n : Nat} [TyA P t n] {a : Addr} {xs : List Value} (hn : xs.length = n) (h : ∀ i v, xs[i]? = some v → w.cell? (a.add i) = some v) : (loadVar t a).run P w = .ok (.agg xs.toArray) w := by
  have := run_loadCells_list (P := P) w a xs h
  subst hn
  simp [loadVar, run_aggA, run_sizeA, this]
end

inductive Parts (Γ : Env) : List (Nat × Operand) → List (Nat × Value) → Prop
  | nil : Parts Γ [] []
  | cons {i : Nat} {x : Operand} {v : Value} {r : List (Nat × Operand)} {r' : List (Nat × Value)} (h : ev Γ x = some v) (hs : Parts Γ r r') : Parts Γ ((i, x) :: r) ((i, v) :: r')
theorem Parts.map {N : Nat} {a : Act} {Γ : Env} {parts : Array (Nat × Operand)} {ps : List (Nat × Value)} (hp : Parts Γ parts.toList ps) (ha : Fr N a Γ) : (parts.map fun (i, x) => (i, a.eval x)) = ps.toArray := by
  obtain ⟨l⟩ := parts
  simp only at hp
  simp only [List.map_toArray]
  congr 1
  induction hp with
  | nil => rfl
  | cons h hs ih => simp [ha.ev h, ih]
inductive Evs (Γ : Env) : List Operand → List Value → Prop
  | nil : Evs Γ [] []
  | cons {x : Operand} {v : Value} {r : List Operand} {r' : List Value} (h : ev Γ x = some v) (hs : Evs Γ r r') : Evs Γ (x :: r) (v :: r')
theorem Evs.map {N : Nat} {a : Act} {Γ : Env} {xs : List Operand} {vs : List Value} (hp : Evs Γ xs vs) (ha : Fr N a Γ) : (xs.map a.eval) = vs := by
  induction hp with
  | nil => rfl
  | cons h hs ih => simp [ha.ev h, ih]
/-- a bound of a slice expression: given, or left out -/
inductive BoundIs (Γ : Env) : Option Operand → Nat → Nat → Prop
  | no {n : Nat} : BoundIs Γ none n n
  | yes {x : Operand} {k : IntKind} {j : Int} {n : Nat} (h : ev Γ x = some (.int k j)) (h0 : 0 ≤ j) : BoundIs Γ (some x) n j.toNat
theorem bounds_run {P : Program} {w : World} {N : Nat} {a : Act} {Γ : Env} (ha : Fr N a Γ) {lo hi mx : Option Operand} {n c l h' m : Nat} (hlo : BoundIs Γ lo 0 l) (hhi : BoundIs Γ hi n h') (hmx : BoundIs Γ mx c m)
    (hs : mx.isSome = true → hi.isSome = true) (h1 : l ≤ h') (h2 : h' ≤ m) (h3 : m ≤ c) : (Instr.sliceBounds true n c (lo.map a.eval) (hi.map a.eval) (mx.map a.eval)).run P w = .ok (l, h', m) w := by
  have bd : ∀ (x : Operand) (k : IntKind) (j : Int) (y : Nat) (code : BoundsCode), ev Γ x = some (.int k j) → 0 ≤ j → j.toNat ≤ y → (Instr.sliceBound (a.eval x) y code).run P w = .ok j.toNat w := by
    intro x k j y code hx h0 hy
    simp only [Instr.sliceBound, ha.ev hx, asIntOf, pure_bind]
    rw [if_pos (by omega)]
    simp
  cases hmx with
  | no =>
    cases hhi with
    | no => cases hlo with
      | no => simp [Instr.sliceBounds]
      | yes hx h0 => simp [Instr.sliceBounds, bd _ _ _ _ _ hx h0 h1]
    | yes hy g0 => cases hlo with
      | no => simp [Instr.sliceBounds, bd _ _ _ _ _ hy g0 h2]
      | yes hx h0 => simp [Instr.sliceBounds, bd _ _ _ _ _ hy g0 h2, bd _ _ _ _ _ hx h0 h1]
  | yes hz k0 =>
    cases hhi with
    | no => simp at hs
    | yes hy g0 => cases hlo with
      | no => simp [Instr.sliceBounds, bd _ _ _ _ _ hz k0 h3, bd _ _ _ _ _ hy g0 h2]
      | yes hx h0 => simp [Instr.sliceBounds, bd _ _ _ _ _ hz k0 h3, bd _ _ _ _ _ hy g0 h2, bd _ _ _ _ _ hx h0 h1]

theorem run_eql_nilp {P : Program} {w : World} {t e : TypeId} (h : P.underlying t = some (.pointer e)) (p : Option Addr) : (binOp .eql t (.pointer p) (.pointer none)).run P w = .ok (.bool p.isNone) w :=
  run_eql_pointer_nil w t p (by rw [h]; simp [Program.pointee, h])
/-- the parts of a struct or an array, laid one by one over its zero -/
inductive Fills (place : Nat → Option (Nat × Nat)) : List Value → List (Nat × Value) → List Value → Prop
  | nil {cs : List Value} : Fills place cs [] cs
  | one {i off : Nat} {v : Value} {cs cs1 cs2 : List Value} {r : List (Nat × Value)} (hp : place i = some (off, 1)) (h1 : v.oneCell' = true) (hs : LSet cs off v cs1) (h : Fills place cs1 r cs2) : Fills place cs ((i, v) :: r) cs2
  | agg {i off n : Nat} {xs cs cs1 cs2 : List Value} {r : List (Nat × Value)} (hp : place i = some (off, n)) (hn : Nat.beq xs.length n = true) (hs : LPut cs off xs cs1) (h : Fills place cs1 r cs2) : Fills place cs ((i, .agg xs.toArray) :: r) cs2
theorem foldl_set (xs : List Value) : ∀ (off k : Nat) (cs : Array Value), off + k + xs.length ≤ cs.size →
    ((xs.zipIdx k).foldl (fun cs (x : Value × Nat) => cs.setIfInBounds (off + x.2) x.1) cs) = (cs.toList.take (off + k) ++ xs ++ cs.toList.drop (off + k + xs.length)).toArray := by
  induction xs with
  | nil => intro off k cs _; simp
  | cons x xs ih =>
    intro off k cs h
    simp only [List.length_cons] at h
    simp only [List.zipIdx_cons, List.foldl_cons]
    rw [ih off (k + 1) _ (by simp; omega)]
    congr 1
    have e := list_seg_step cs.toList (off + k) x xs (by simp; omega)
    simpa [Array.toList_setIfInBounds, Nat.add_assoc] using e
theorem fill_step {place : Nat → Option (Nat × Nat)} {i off : Nat} {cs cs1 : Array Value} {v : Value} {xs : List Value} {r : List (Nat × Value)} (hv : v.cells = xs.toArray) (hp : place i = some (off, xs.length)) (hle : off + xs.length ≤ cs.size)
    (h1 : (cs.toList.take off ++ xs ++ cs.toList.drop (off + xs.length)).toArray = cs1) : Instr.fill place cs ((i, v) :: r) = Instr.fill place cs1 r := by
  simp only [Instr.fill, hp, hv]
  have : ¬ (off + xs.length > cs.size) := by omega
  simp [this]
  have e := foldl_set xs off 0 cs (by omega)
  simp only [Nat.add_zero] at e
  rw [← h1, ← e]
theorem fill_of {cs cs' : List Value} {ps : List (Nat × Value)} {place : Nat → Option (Nat × Nat)} (h : Fills place cs ps cs') : Instr.fill place cs.toArray ps = some cs'.toArray := by
  induction h with
  | nil => rfl
  | @one i off v cs cs1 cs2 r hp h1 hset h ih =>
    obtain ⟨hlt, hset⟩ := hset.out
    rw [fill_step (v := v) (xs := [v]) (cs1 := cs1.toArray) (by cases v <;> simp_all [Value.cells, Value.oneCell']) hp (by simp; omega) ?_, ih]
    rw [← hset]
    simp only [List.length_singleton]
    rw [List.set_eq_take_append_cons_drop]
    simp [hlt]
  | @agg i off n xs cs cs1 cs2 r hp hn hput h ih =>
    have hn : xs.length = n := Nat.eq_of_beq_eq_true hn
    obtain ⟨hle, hput⟩ := hput.out
    rw [fill_step (v := .agg xs.toArray) (xs := xs) (cs1 := cs1.toArray) rfl (by rw [hp, hn]) (by simpa using hle) (by rw [← hput]), ih]
inductive LApp : List Value → List Value → List Value → Prop
  | nil {l : List Value} : LApp [] l l
  | cons {x : Value} {xs l r : List Value} (h : LApp xs l r) : LApp (x :: xs) l (x :: r)
theorem LApp.out {xs l r : List Value} (h : LApp xs l r) : r = xs ++ l := by
  induction h with
  | nil => rfl
  | cons h ih => rw [ih]; rfl
/-- the parts of a slice, one behind the other, all of them -/
inductive CatP (sz : Nat) : Nat → List (Nat × Value) → List Value → Prop
  | nil {i : Nat} : CatP sz i [] []
  | one {i : Nat} {v : Value} {r : List (Nat × Value)} {cs : List Value} (h1 : v.oneCell' = true) (hs : Nat.beq sz 1 = true) (h : CatP sz (i + 1) r cs) : CatP sz i ((i, v) :: r) (v :: cs)
  | agg {i : Nat} {xs : List Value} {r : List (Nat × Value)} {cs ys : List Value} (hs : Nat.beq xs.length sz = true) (h : CatP sz (i + 1) r cs) (ha : LApp xs cs ys) : CatP sz i ((i, .agg xs.toArray) :: r) ys
theorem CatP.fill {sz i : Nat} {ps : List (Nat × Value)} {cs : List Value} (h : CatP sz i ps cs) : ∀ (pre rest : List Value), pre.length = i * sz → rest.length = ps.length * sz →
    Instr.fill (fun j => some (j * sz, sz)) (pre ++ rest).toArray ps = some (pre ++ cs).toArray := by
  induction h with
  | nil => intro pre rest h1 h2; simp at h2; subst h2; rfl
  | @one i v r cs h1 hs h ih =>
    intro pre rest hp hr
    have := Nat.eq_of_beq_eq_true hs
    subst this
    simp at hp hr
    obtain ⟨y, rest, rfl⟩ := List.exists_cons_of_length_eq_add_one hr
    rw [fill_step (v := v) (xs := [v]) (off := i * 1) (cs1 := ((pre ++ [v]) ++ rest).toArray) (by cases v <;> simp_all [Value.cells, Value.oneCell']) rfl (by simp; omega) ?_, ih (pre ++ [v]) rest (by simp; omega) (by simpa using hr)]
    · simp
    · simp [← hp]
  | @agg i xs r cs ys hs h ha ih =>
    intro pre rest hp hr
    have hx := Nat.eq_of_beq_eq_true hs
    have hr' : rest.length = r.length * sz + sz := by rw [hr, List.length_cons, Nat.succ_mul]
    rw [fill_step (v := .agg xs.toArray) (xs := xs) (off := i * sz) (cs1 := ((pre ++ xs) ++ rest.drop sz).toArray) rfl (by rw [hx]) (by simp; omega) ?_, ih (pre ++ xs) (rest.drop sz) (by simp [hp, hx, Nat.succ_mul]) (by simp; omega)]
    · rw [ha.out]; simp
    · rw [← hp, hx]; simp
theorem run_buildSlice_cat {P : Program} {w : World} {t e sz by_ n : Nat} {z : Value} {ps : List (Nat × Value)} {cs : List Value} [hd : TyD P t (.slice e)] [hs : TyS P e sz by_] [hz : TyZ P e z] (hn : Nat.beq ps.length n = true) (hb : Nat.ble (n * sz) 16777216 = true) (hF : CatP sz 0 ps cs) :
    (Instr.buildSlice t n ps.toArray).run P w = .ok (.slice (some ⟨w.heap.size, 0, none⟩) n n) (w.alloc (.cells cs.toArray e)) := by
  have hn := Nat.eq_of_beq_eq_true hn
  have hb' := Nat.le_of_ble_eq_true hb
  have key : ∀ zc : Array Value, Instr.fill (fun i => some (i * sz, sz)) ((Array.range (n * sz)).map (zc[· % zc.size]!)) ps = some cs.toArray := by
    intro zc
    have := hF.fill [] (((Array.range (n * sz)).map (zc[· % zc.size]!)).toList) (by simp) (by simp [hn])
    rw [List.nil_append, Array.toArray_toList, List.nil_append] at this
    exact this
  have hgt : ¬ (n * sz > 2 ^ 24) := by simp; omega
  simp only [Instr.buildSlice, Sem.run_bind, run_underlying hd.out, Result.andThen_ok, run_size (P := P) (t := e), if_neg hgt, pure_bind]
  by_cases h0 : n * sz = 0
  · have k := key #[]
    simp only [if_pos h0, pure_bind, k, newRow, Sem.run_bind, run_newObj, Result.andThen_ok, Sem.run_pure]
    rfl
  · simp [h0, run_zero (P := P) (t := e), key, newRow]
def placesB (P : Program) (t : Nat) : Option (List (Nat × Nat) × Value) :=
  match P.info? t, P.underlying t with
  | some it, some (.struct fields) => match it.zero, fields.toList.mapM (fun f => (P.info? f.type).map fun i => (f.offset, i.size)) with
    | some z, some pl => some (pl, z)
    | _, _ => none
  | _, _ => none
/-- a struct's fields (where each begins, its cells) and its zero -/
class TyP (P : Program) (t : Nat) (pl : outParam (List (Nat × Nat))) (z : outParam (List Value)) : Prop where
  out : placesB P t = some (pl, .agg z.toArray)
theorem run_build_struct {P : Program} {w : World} {t : Nat} {pl : List (Nat × Nat)} {z cs : List Value} {ps : List (Nat × Value)} [h : TyP P t pl z] (hF : Fills (pl.toArray[·]?) z ps cs) : (Instr.build t ps.toArray).run P w = .ok (.agg cs.toArray) w := by
  refine run_build w t _ _ ?_
  have h := h.out
  unfold placesB at h
  unfold Program.built
  split at h <;> try cases h
  rename_i it fields e1 e2
  split at h <;> try cases h
  rename_i z' pl' e3 e4
  simp only [e1, e2, e3, e4]
  simpa [Value.cells] using fill_of hF
theorem run_build_array {P : Program} {w : World} {t n e sz by_ : Nat} {z cs : List Value} {ps : List (Nat × Value)} [hd : TyD P t (.array n e)] [hs : TyS P e sz by_] [hz : TyZ P t (.agg z.toArray)] (hF : Fills (fun i => some (i * sz, sz)) z ps cs) : (Instr.build t ps.toArray).run P w = .ok (.agg cs.toArray) w := by
  refine run_build w t _ _ ?_
  have h1 := hz.out
  have h2 := hs.out
  unfold Program.built
  cases e1 : P.info? t with
  | none => rw [e1] at h1; cases h1
  | some it =>
    cases e2 : P.info? e with
    | none => rw [e2] at h2; cases h2
    | some ie =>
      rw [e1] at h1; rw [e2] at h2
      simp at h1 h2
      simp only [hd.out, h1, e2, h2.1]
      simpa [Value.cells] using fill_of hF

def strOf (l : List UInt8) : ByteArray := ⟨l.toArray⟩
theorem strBeq (a b : List UInt8) : ((strOf a).toList == (strOf b).toList) = decide (a = b) := by
  rw [ByteArray.toList_eq, ByteArray.toList_eq]
  show (a == b) = decide (a = b)
  rw [Bool.eq_iff_iff]; simp
/-- how a list of operations is walked: in its order; in whatever order, all quiet in C; in whatever order, with operations that turn the world: D is what is known of it now, C what is kept -/
inductive Md where
  | seq
  | quiet
  | mix (D : World → Prop)
def Wl (l : List Oper) (P : Program) (md : Md) (ops : Array Oper) (N : Nat) (Γ : Env) (C : World → Prop) (Q : Exit → Act → World → Prop) : Prop :=
  match md with
  | .seq => ∀ a w, Fr N a Γ → C w → wpList P ops Q l a w
  | .quiet => ∀ a, Fr N a Γ → wpQuiet P ops C (fun a' => ∀ w', C w' → Q .normal a' w') l a
  | .mix D => ∀ a w, Fr N a Γ → D w → C w → wpE P ops C (fun a' w' => Q .normal a' w') l a w
def St (c : Code) (P : Program) (N : Nat) (Γ : Env) (C : World → Prop) (Q : Exit → Act → World → Prop) : Prop := ∀ a w, Fr N a Γ → C w → c.wp P Q a w
def Gt (N : Nat) (e : Exit) (Γ : Env) (C : World → Prop) (Q : Exit → Act → World → Prop) : Prop := ∀ a w, Fr N a Γ → C w → Q e a w

section
variable {P : Program} {md : Md} {ops : Array Oper} {N : Nat} {rest l : List Oper} {Γ : Env} {C : World → Prop} {Q K : Exit → Act → World → Prop}

theorem Wl.nil (h : Gt N .normal Γ C Q) : Wl [] P .seq ops N Γ C Q := fun a w ha hw => h a w ha hw
theorem Wl.nilQ (h : Gt N .normal Γ C Q) : Wl [] P .quiet ops N Γ C Q := fun a ha w hw => h a w ha hw
theorem Wl.nilM {D : World → Prop} (h : Gt N .normal Γ D Q) : Wl [] P (.mix D) ops N Γ C Q := fun a w ha hd _ => h a w ha hd

/-- an operation that yields a value and turns nothing -/
theorem Wl.val {d : Nat} {op : Op} {ty : TypeId} {pos : String} {af : Array Edge} {v : Value} (hd : Nat.blt d N = true)
    (hr : ∀ a w, Fr N a Γ → C w → (execOp a.eval ⟨some d, op, ty, pos, af, none⟩).run P w = .ok (.value v) w)
    (h : Wl rest P md ops N ((d, v) :: Γ) C Q) : Wl (⟨some d, op, ty, pos, af, none⟩ :: rest) P md ops N Γ C Q := by
  cases md
  · intro a w ha hw
    refine wpList_plain rfl fun K hK => ?_
    simp only [Oper.wp, hr a w ha hw, Oper.upon]
    exact hK _ _ (h _ _ (ha.put hd v) hw)
  · intro a ha
    simp only [wpQuiet, Region.wanted, if_true]
    exact ⟨v, fun w hw => by simp [Oper.quietAt, hr a w ha hw, Oper.quietUpon], h _ (ha.put hd v)⟩
  · intro a w ha hD hw
    simp only [wpE, Region.wanted, if_true]
    split
    · simp only [Oper.wp, hr a w ha hw, Oper.upon]; exact ⟨hw, h _ _ (ha.put hd v) hD hw⟩
    · exact ⟨v, fun w' hw' => hr a w' ha hw', h _ _ (ha.put hd v) hD hw⟩

/-- an operation that turns the world -/
theorem Wl.eff {d : Option Nat} {op : Op} {ty : TypeId} {pos : String} {af : Array Edge}
    (hr : ∀ a w, Fr N a Γ → C w → ∃ v w', ((execOp a.eval ⟨d, op, ty, pos, af, none⟩).run P w = .ok (.value v) w' ∨ ((execOp a.eval ⟨d, op, ty, pos, af, none⟩).run P w = .ok .skip w' ∧ v = undef)) ∧
      wpList P ops Q rest (a.put d v) w') : Wl (⟨d, op, ty, pos, af, none⟩ :: rest) P .seq ops N Γ C Q := by
  intro a w ha hw
  obtain ⟨v, w', h1, h2⟩ := hr a w ha hw
  refine wpList_plain rfl fun K hK => ?_
  rcases h1 with h1 | ⟨h1, rfl⟩
  · simp only [Oper.wp, h1, Oper.upon]; exact hK _ _ h2
  · simp only [Oper.wp, h1, Oper.upon]; exact hK _ _ h2

/-- .. and other blocks are told of it -/
theorem Wl.reb {H' : List Blk} (h : ∀ w, C w → Own w H' ∧ Apart H' ∧ Wl l P .seq ops N Γ (Hp w H') Q) : Wl l P .seq ops N Γ C Q := fun a w ha hw => by
  obtain ⟨h1, h2, h3⟩ := h w hw
  exact h3 a w ha ⟨Upd.refl _ _, h1, h2⟩
theorem yielded_of {a : Act} (ha : Fr N a Γ) {j t : Nat} {b : Bool} (hj : (ops[j]?).bind (·.dst) = some t) (ht : look Γ t = some (.bool b)) : yielded ops a.tmps j = some b := by
  simp [yielded, hj, ha.get t _ ht]
theorem Wl.on {d : Option Nat} {op : Op} {ty : TypeId} {pos : String} {af : Array Edge} {j t : Nat} {want b : Bool} (hj : (ops[j]?).bind (·.dst) = some t) (ht : look Γ t = some (.bool b)) (hb : b = want)
    (h : Wl (⟨d, op, ty, pos, af, none⟩ :: rest) P md ops N Γ C Q) : Wl (⟨d, op, ty, pos, af, some (j, want)⟩ :: rest) P md ops N Γ C Q := by
  subst hb
  cases md
  · intro a w ha hw
    have hy := yielded_of (ops := ops) ha hj ht
    have h := h a w ha hw
    simp only [wpList, Region.wanted, if_true] at h
    simp only [wpList, Region.wanted, hy, beq_self_eq_true, if_true]
    exact h
  · intro a ha
    have hy := yielded_of (ops := ops) ha hj ht
    have h := h a ha
    simp only [wpQuiet, Region.wanted, if_true] at h
    simp only [wpQuiet, Region.wanted, hy, beq_self_eq_true, if_true]
    exact h
  · intro a w ha hD hw
    have hy := yielded_of (ops := ops) ha hj ht
    have h := h a w ha hD hw
    simp only [wpE, Region.wanted, if_true] at h
    simp only [wpE, Region.wanted, hy, beq_self_eq_true, if_true]
    exact h
theorem Wl.off {d : Nat} {op : Op} {ty : TypeId} {pos : String} {af : Array Edge} {j t : Nat} {want b : Bool} (hd : Nat.blt d N = true) (hj : (ops[j]?).bind (·.dst) = some t) (ht : look Γ t = some (.bool b)) (hb : b = !want)
    (h : Wl rest P md ops N ((d, undef) :: Γ) C Q) : Wl (⟨some d, op, ty, pos, af, some (j, want)⟩ :: rest) P md ops N Γ C Q := by
  subst hb
  cases md
  · intro a w ha hw
    have hy := yielded_of (ops := ops) ha hj ht
    have e : ((some (!want) : Option Bool) == some want) = false := by cases want <;> rfl
    simp only [wpList, Region.wanted, hy, e]
    exact h _ _ (ha.put hd _) hw
  · intro a ha
    have hy := yielded_of (ops := ops) ha hj ht
    have e : ((some (!want) : Option Bool) == some want) = false := by cases want <;> rfl
    simp only [wpQuiet, Region.wanted, hy, e]
    exact h _ (ha.put hd _)
  · intro a w ha hD hw
    have hy := yielded_of (ops := ops) ha hj ht
    have e : ((some (!want) : Option Bool) == some want) = false := by cases want <;> rfl
    simp only [wpE, Region.wanted, hy, e]
    exact h _ _ (ha.put hd _) hD hw
/-- .. on a guard that was itself passed over -/
theorem Wl.offU {d : Nat} {op : Op} {ty : TypeId} {pos : String} {af : Array Edge} {j t : Nat} {want : Bool} (hd : Nat.blt d N = true) (hj : (ops[j]?).bind (·.dst) = some t) (ht : look Γ t = some undef)
    (h : Wl rest P md ops N ((d, undef) :: Γ) C Q) : Wl (⟨some d, op, ty, pos, af, some (j, want)⟩ :: rest) P md ops N Γ C Q := by
  have e : ((none : Option Bool) == some want) = false := by cases want <;> rfl
  cases md
  · intro a w ha hw
    have hy : yielded ops a.tmps j = none := by simp [yielded, hj, ha.get t _ ht, undef]
    simp only [wpList, Region.wanted, hy, e]
    exact h _ _ (ha.put hd _) hw
  · intro a ha
    have hy : yielded ops a.tmps j = none := by simp [yielded, hj, ha.get t _ ht, undef]
    simp only [wpQuiet, Region.wanted, hy, e]
    exact h _ (ha.put hd _)
  · intro a w ha hD hw
    have hy : yielded ops a.tmps j = none := by simp [yielded, hj, ha.get t _ ht, undef]
    simp only [wpE, Region.wanted, hy, e]
    exact h _ _ (ha.put hd _) hD hw
theorem Wl.splitP {d : Option Nat} {op : Op} {ty : TypeId} {pos : String} {af : Array Edge} {j t : Nat} {want : Bool} {p : Prop} {_i : Decidable p} (_hj : (ops[j]?).bind (·.dst) = some t) (_ht : look Γ t = some (.bool (decide p)))
    (h1 : p → decide p = true → Wl (⟨d, op, ty, pos, af, some (j, want)⟩ :: rest) P md ops N Γ C Q) (h2 : ¬ p → decide p = false → Wl (⟨d, op, ty, pos, af, some (j, want)⟩ :: rest) P md ops N Γ C Q) :
    Wl (⟨d, op, ty, pos, af, some (j, want)⟩ :: rest) P md ops N Γ C Q := by
  by_cases hp : p
  · exact h1 hp (decide_eq_true hp)
  · exact h2 hp (decide_eq_false hp)

section ops
variable {d : Nat} {ty : TypeId} {pos : String} {af : Array Edge}
theorem Wl.move {x : Operand} {v : Value} (hd : Nat.blt d N = true) (hx : ev Γ x = some v) (h : Wl rest P md ops N ((d, v) :: Γ) C Q) : Wl (⟨some d, .move x, ty, pos, af, none⟩ :: rest) P md ops N Γ C Q :=
  Wl.val hd (fun a w ha _ => by simp [execOp, ha.ev hx]) h
theorem Wl.assign {x : Operand} {v : Value} (hd : Nat.blt d N = true) (hx : ev Γ x = some v) (h : Wl rest P md ops N ((d, v) :: Γ) C Q) : Wl (⟨some d, .assign x, ty, pos, af, none⟩ :: rest) P md ops N Γ C Q :=
  Wl.val hd (fun a w ha _ => by simp [execOp, ha.ev hx]) h
theorem Wl.pickT {c x y : Operand} {b : Bool} {v : Value} (hd : Nat.blt d N = true) (hc : ev Γ c = some (.bool b)) (hb : b = true) (hx : ev Γ x = some v) (h : Wl rest P md ops N ((d, v) :: Γ) C Q) :
    Wl (⟨some d, .pick c x y, ty, pos, af, none⟩ :: rest) P md ops N Γ C Q :=
  Wl.val hd (fun a w ha _ => by simp [execOp, ha.ev hc, ha.ev hx, asBool, hb]) h
theorem Wl.pickF {c x y : Operand} {b : Bool} {v : Value} (hd : Nat.blt d N = true) (hc : ev Γ c = some (.bool b)) (hb : b = false) (hy : ev Γ y = some v) (h : Wl rest P md ops N ((d, v) :: Γ) C Q) :
    Wl (⟨some d, .pick c x y, ty, pos, af, none⟩ :: rest) P md ops N Γ C Q :=
  Wl.val hd (fun a w ha _ => by simp [execOp, ha.ev hc, ha.ev hy, asBool, hb]) h
theorem Wl.not {t : TypeId} {x : Operand} {b : Bool} (hd : Nat.blt d N = true) (hx : ev Γ x = some (.bool b)) (h : Wl rest P md ops N ((d, .bool (!b)) :: Γ) C Q) : Wl (⟨some d, .unOp .not t x, ty, pos, af, none⟩ :: rest) P md ops N Γ C Q :=
  Wl.val hd (fun a w ha _ => by simp [execOp, ha.ev hx, Op.unary]) h
theorem Wl.neg {t : TypeId} {x : Operand} {k : IntKind} {n : Int} (hd : Nat.blt d N = true) (hx : ev Γ x = some (.int k n)) (h : Wl rest P md ops N ((d, .int k (k.wrap (0 - n))) :: Γ) C Q) : Wl (⟨some d, .unOp .neg t x, ty, pos, af, none⟩ :: rest) P md ops N Γ C Q :=
  Wl.val hd (fun a w ha _ => by simp [execOp, ha.ev hx, Op.unary, Op.intArith]) h
section bin
variable {t u : TypeId} {x y : Operand} {k : IntKind} {m n : Int}
theorem Wl.add (hd : Nat.blt d N = true) (hx : ev Γ x = some (.int k m)) (hy : ev Γ y = some (.int k n)) (h : Wl rest P md ops N ((d, .int k (k.wrap (m + n))) :: Γ) C Q) : Wl (⟨some d, .binOp .add t x y u, ty, pos, af, none⟩ :: rest) P md ops N Γ C Q :=
  Wl.val hd (fun a w ha _ => by simp [execOp, ha.ev hx, ha.ev hy, eqGuard_add, binOp_add, Op.intArith]) h
theorem Wl.sub' (hd : Nat.blt d N = true) (hx : ev Γ x = some (.int k m)) (hy : ev Γ y = some (.int k n)) (h : Wl rest P md ops N ((d, .int k (k.wrap (m - n))) :: Γ) C Q) : Wl (⟨some d, .binOp .sub t x y u, ty, pos, af, none⟩ :: rest) P md ops N Γ C Q :=
  Wl.val hd (fun a w ha _ => by simp [execOp, ha.ev hx, ha.ev hy, eqGuard_sub, binOp_sub, Op.intArith]) h
theorem Wl.mul (hd : Nat.blt d N = true) (hx : ev Γ x = some (.int k m)) (hy : ev Γ y = some (.int k n)) (h : Wl rest P md ops N ((d, .int k (k.wrap (m * n))) :: Γ) C Q) : Wl (⟨some d, .binOp .mul t x y u, ty, pos, af, none⟩ :: rest) P md ops N Γ C Q :=
  Wl.val hd (fun a w ha _ => by simp [execOp, ha.ev hx, ha.ev hy, eqGuard_mul, binOp_mul, Op.intArith]) h
/-- sums that the kind holds stay bare -/
theorem Wl.addI (hd : Nat.blt d N = true) (hx : ev Γ x = some (.int .i64 m)) (hy : ev Γ y = some (.int .i64 n)) (hb : -9223372036854775808 ≤ m + n ∧ m + n ≤ 9223372036854775807) (h : Wl rest P md ops N ((d, .int .i64 (m + n)) :: Γ) C Q) : Wl (⟨some d, .binOp .add t x y u, ty, pos, af, none⟩ :: rest) P md ops N Γ C Q :=
  Wl.add hd hx hy (by rw [IntWalk.i64_in _ hb]; exact h)
theorem Wl.subI (hd : Nat.blt d N = true) (hx : ev Γ x = some (.int .i64 m)) (hy : ev Γ y = some (.int .i64 n)) (hb : -9223372036854775808 ≤ m - n ∧ m - n ≤ 9223372036854775807) (h : Wl rest P md ops N ((d, .int .i64 (m - n)) :: Γ) C Q) : Wl (⟨some d, .binOp .sub t x y u, ty, pos, af, none⟩ :: rest) P md ops N Γ C Q :=
  Wl.sub' hd hx hy (by rw [IntWalk.i64_in _ hb]; exact h)
theorem Wl.addU (hd : Nat.blt d N = true) (hx : ev Γ x = some (.int .u64 m)) (hy : ev Γ y = some (.int .u64 n)) (hb : 0 ≤ m + n ∧ m + n ≤ 18446744073709551615) (h : Wl rest P md ops N ((d, .int .u64 (m + n)) :: Γ) C Q) : Wl (⟨some d, .binOp .add t x y u, ty, pos, af, none⟩ :: rest) P md ops N Γ C Q :=
  Wl.add hd hx hy (by rw [IntWalk.u64_in _ hb]; exact h)
theorem Wl.quo (hd : Nat.blt d N = true) (hx : ev Γ x = some (.int k m)) (hy : ev Γ y = some (.int k n)) (hn : n ≠ 0) (h : Wl rest P md ops N ((d, .int k (k.wrap (m.tdiv n))) :: Γ) C Q) : Wl (⟨some d, .binOp .quo t x y u, ty, pos, af, none⟩ :: rest) P md ops N Γ C Q :=
  Wl.val hd (fun a w ha _ => by simp [execOp, ha.ev hx, ha.ev hy, eqGuard_quo, binOp_quo, Op.intDiv, hn]) h
theorem Wl.rem (hd : Nat.blt d N = true) (hx : ev Γ x = some (.int k m)) (hy : ev Γ y = some (.int k n)) (hn : n ≠ 0) (h : Wl rest P md ops N ((d, .int k (m.tmod n)) :: Γ) C Q) : Wl (⟨some d, .binOp .rem t x y u, ty, pos, af, none⟩ :: rest) P md ops N Γ C Q :=
  Wl.val hd (fun a w ha _ => by simp [execOp, ha.ev hx, ha.ev hy, eqGuard_rem, binOp_rem, Op.intDiv, hn]) h
theorem Wl.and (hd : Nat.blt d N = true) (hx : ev Γ x = some (.int k m)) (hy : ev Γ y = some (.int k n)) (h : Wl rest P md ops N ((d, .int k (bits .and k m n)) :: Γ) C Q) : Wl (⟨some d, .binOp .and t x y u, ty, pos, af, none⟩ :: rest) P md ops N Γ C Q :=
  Wl.val hd (fun a w ha _ => by simp [execOp, ha.ev hx, ha.ev hy, eqGuard_and, binOp_and, intBits_and]) h
theorem Wl.or (hd : Nat.blt d N = true) (hx : ev Γ x = some (.int k m)) (hy : ev Γ y = some (.int k n)) (h : Wl rest P md ops N ((d, .int k (bits .or k m n)) :: Γ) C Q) : Wl (⟨some d, .binOp .or t x y u, ty, pos, af, none⟩ :: rest) P md ops N Γ C Q :=
  Wl.val hd (fun a w ha _ => by simp [execOp, ha.ev hx, ha.ev hy, eqGuard_or, binOp_or, intBits_or]) h
theorem Wl.xor (hd : Nat.blt d N = true) (hx : ev Γ x = some (.int k m)) (hy : ev Γ y = some (.int k n)) (h : Wl rest P md ops N ((d, .int k (bits .xor k m n)) :: Γ) C Q) : Wl (⟨some d, .binOp .xor t x y u, ty, pos, af, none⟩ :: rest) P md ops N Γ C Q :=
  Wl.val hd (fun a w ha _ => by simp [execOp, ha.ev hx, ha.ev hy, eqGuard_xor, binOp_xor, intBits_xor]) h
theorem Wl.shl {k' : IntKind} (hd : Nat.blt d N = true) (hx : ev Γ x = some (.int k m)) (hy : ev Γ y = some (.int k' n)) (hn : 0 ≤ n) (h : Wl rest P md ops N ((d, .int k (k.wrap (m * 2 ^ min n.toNat k.bits))) :: Γ) C Q) : Wl (⟨some d, .binOp .shl t x y u, ty, pos, af, none⟩ :: rest) P md ops N Γ C Q :=
  Wl.val hd (fun a w ha _ => by simp [execOp, ha.ev hx, ha.ev hy, eqGuard_shl, binOp_shl, Op.shift, show ¬ n < 0 by omega]) h
theorem Wl.shr {k' : IntKind} (hd : Nat.blt d N = true) (hx : ev Γ x = some (.int k m)) (hy : ev Γ y = some (.int k' n)) (hn : 0 ≤ n) (h : Wl rest P md ops N ((d, .int k (m.fdiv (2 ^ min n.toNat k.bits))) :: Γ) C Q) : Wl (⟨some d, .binOp .shr t x y u, ty, pos, af, none⟩ :: rest) P md ops N Γ C Q :=
  Wl.val hd (fun a w ha _ => by simp [execOp, ha.ev hx, ha.ev hy, eqGuard_shr, binOp_shr, Op.shift, show ¬ n < 0 by omega]) h
theorem Wl.eql (hd : Nat.blt d N = true) (hx : ev Γ x = some (.int k m)) (hy : ev Γ y = some (.int k n)) (h : Wl rest P md ops N ((d, .bool (decide (m = n))) :: Γ) C Q) : Wl (⟨some d, .binOp .eql t x y u, ty, pos, af, none⟩ :: rest) P md ops N Γ C Q :=
  Wl.val hd (fun a w ha _ => by simp only [execOp, ha.ev hx, ha.ev hy, eqGuard_at_int, binOp_eql, pure_bind]; simp; rfl) h
theorem Wl.neq (hd : Nat.blt d N = true) (hx : ev Γ x = some (.int k m)) (hy : ev Γ y = some (.int k n)) (h : Wl rest P md ops N ((d, .bool (decide (m ≠ n))) :: Γ) C Q) : Wl (⟨some d, .binOp .neq t x y u, ty, pos, af, none⟩ :: rest) P md ops N Γ C Q :=
  Wl.val hd (fun a w ha _ => by simp only [execOp, ha.ev hx, ha.ev hy, eqGuard_at_int, binOp_neq, pure_bind]; simp [bne]; rfl) h
theorem Wl.eqlIs (hd : Nat.blt d N = true) (hx : ev Γ x = some (.int k m)) (hy : ev Γ y = some (.int k n)) (e : m = n) (h : Wl rest P md ops N ((d, .bool true) :: Γ) C Q) : Wl (⟨some d, .binOp .eql t x y u, ty, pos, af, none⟩ :: rest) P md ops N Γ C Q :=
  Wl.eql hd hx hy (by rw [decide_eq_true e]; exact h)
theorem Wl.neqIs (hd : Nat.blt d N = true) (hx : ev Γ x = some (.int k m)) (hy : ev Γ y = some (.int k n)) (e : m = n) (h : Wl rest P md ops N ((d, .bool false) :: Γ) C Q) : Wl (⟨some d, .binOp .neq t x y u, ty, pos, af, none⟩ :: rest) P md ops N Γ C Q :=
  Wl.neq hd hx hy (by rw [decide_eq_false (fun h => h e)]; exact h)
theorem Wl.lss (hd : Nat.blt d N = true) (hx : ev Γ x = some (.int k m)) (hy : ev Γ y = some (.int k n)) (h : Wl rest P md ops N ((d, .bool (decide (m < n))) :: Γ) C Q) : Wl (⟨some d, .binOp .lss t x y u, ty, pos, af, none⟩ :: rest) P md ops N Γ C Q :=
  Wl.val hd (fun a w ha _ => by simp [execOp, ha.ev hx, ha.ev hy, eqGuard_lss, binOp_lss]) h
theorem Wl.leq (hd : Nat.blt d N = true) (hx : ev Γ x = some (.int k m)) (hy : ev Γ y = some (.int k n)) (h : Wl rest P md ops N ((d, .bool (decide (m ≤ n))) :: Γ) C Q) : Wl (⟨some d, .binOp .leq t x y u, ty, pos, af, none⟩ :: rest) P md ops N Γ C Q :=
  Wl.val hd (fun a w ha _ => by simp [execOp, ha.ev hx, ha.ev hy, eqGuard_leq, binOp_leq]) h
theorem Wl.gtr (hd : Nat.blt d N = true) (hx : ev Γ x = some (.int k m)) (hy : ev Γ y = some (.int k n)) (h : Wl rest P md ops N ((d, .bool (decide (n < m))) :: Γ) C Q) : Wl (⟨some d, .binOp .gtr t x y u, ty, pos, af, none⟩ :: rest) P md ops N Γ C Q :=
  Wl.val hd (fun a w ha _ => by simp [execOp, ha.ev hx, ha.ev hy, eqGuard_gtr, binOp_gtr]) h
theorem Wl.geq (hd : Nat.blt d N = true) (hx : ev Γ x = some (.int k m)) (hy : ev Γ y = some (.int k n)) (h : Wl rest P md ops N ((d, .bool (decide (n ≤ m))) :: Γ) C Q) : Wl (⟨some d, .binOp .geq t x y u, ty, pos, af, none⟩ :: rest) P md ops N Γ C Q :=
  Wl.val hd (fun a w ha _ => by simp [execOp, ha.ev hx, ha.ev hy, eqGuard_geq, binOp_geq]) h
theorem Wl.eqlS {p q : ByteArray} (hd : Nat.blt d N = true) (hx : ev Γ x = some (.string p)) (hy : ev Γ y = some (.string q)) (h : Wl rest P md ops N ((d, .bool (p.toList == q.toList)) :: Γ) C Q) : Wl (⟨some d, .binOp .eql t x y u, ty, pos, af, none⟩ :: rest) P md ops N Γ C Q :=
  Wl.val hd (fun a w ha _ => by simp only [execOp, ha.ev hx, ha.ev hy, eqGuard_at_string, pure_bind, binOp, Op.stringOp, Sem.run_pure]) h
theorem Wl.eqlSB {p q : List UInt8} (hd : Nat.blt d N = true) (hx : ev Γ x = some (.string (strOf p))) (hy : ev Γ y = some (.string (strOf q))) (h : Wl rest P md ops N ((d, .bool (decide (p = q))) :: Γ) C Q) : Wl (⟨some d, .binOp .eql t x y u, ty, pos, af, none⟩ :: rest) P md ops N Γ C Q :=
  Wl.eqlS hd hx hy (by rw [strBeq]; exact h)
theorem Wl.eqlPN {e : TypeId} [ht : TyD P t (.pointer e)] {a0 : Addr} (hd : Nat.blt d N = true) (hx : ev Γ x = some (.pointer (some a0))) (hy : ev Γ y = some (.pointer none)) (h : Wl rest P md ops N ((d, .bool false) :: Γ) C Q) : Wl (⟨some d, .binOp .eql t x y u, ty, pos, af, none⟩ :: rest) P md ops N Γ C Q :=
  Wl.val hd (fun a w ha _ => by simp only [execOp, ha.ev hx, ha.ev hy, eqGuard_at_pointer, pure_bind, Sem.run_bind, run_eql_nilp ht.out]; rfl) h
end bin

theorem Wl.convI {s t : TypeId} {x : Operand} {k k' : IntKind} {n : Int} [hs : TyD P s (.int k)] [ht : TyD P t (.int k')] (hd : Nat.blt d N = true) (hx : ev Γ x = some (.int k n)) (h : Wl rest P md ops N ((d, .int k' (k'.wrap n)) :: Γ) C Q) :
    Wl (⟨some d, .convert s t x, ty, pos, af, none⟩ :: rest) P md ops N Γ C Q :=
  Wl.val hd (fun a w ha _ => by simp [execOp, ha.ev hx, convert, run_underlying hs.out, run_underlying ht.out, Conv.intToInt]) h
theorem Wl.convU64 {s t : TypeId} {x : Operand} {k : IntKind} {n : Int} [hs : TyD P s (.int k)] [ht : TyD P t (.int .u64)] (hd : Nat.blt d N = true) (hx : ev Γ x = some (.int k n)) (hb : 0 ≤ n ∧ n ≤ 18446744073709551615) (h : Wl rest P md ops N ((d, .int .u64 n) :: Γ) C Q) :
    Wl (⟨some d, .convert s t x, ty, pos, af, none⟩ :: rest) P md ops N Γ C Q := Wl.convI hd hx (by rw [IntWalk.u64_in _ hb]; exact h)
theorem Wl.convU32 {s t : TypeId} {x : Operand} {k : IntKind} {n : Int} [hs : TyD P s (.int k)] [ht : TyD P t (.int .u32)] (hd : Nat.blt d N = true) (hx : ev Γ x = some (.int k n)) (hb : 0 ≤ n ∧ n ≤ 4294967295) (h : Wl rest P md ops N ((d, .int .u32 n) :: Γ) C Q) :
    Wl (⟨some d, .convert s t x, ty, pos, af, none⟩ :: rest) P md ops N Γ C Q := Wl.convI hd hx (by rw [IntWalk.u32_in _ hb]; exact h)
theorem Wl.nilCheck {x : Operand} {p : Addr} (hd : Nat.blt d N = true) (hx : ev Γ x = some (.pointer (some p))) (h : Wl rest P md ops N ((d, .pointer (some p)) :: Γ) C Q) : Wl (⟨some d, .nilCheck x, ty, pos, af, none⟩ :: rest) P md ops N Γ C Q :=
  Wl.val hd (fun a w ha _ => by simp [execOp, ha.ev hx]) h
theorem Wl.extract {x : Operand} {i : Nat} {vs : List Value} {v : Value} (hd : Nat.blt d N = true) (hx : ev Γ x = some (.tuple vs.toArray)) (hi : vs[i]? = some v) (h : Wl rest P md ops N ((d, v) :: Γ) C Q) : Wl (⟨some d, .extract x i, ty, pos, af, none⟩ :: rest) P md ops N Γ C Q :=
  Wl.val hd (fun a w ha _ => by simp [execOp, ha.ev hx, Instr.extract, hi]) h
theorem Wl.fieldAddr0 {s i ft : Nat} [hf : Fld P s i 0 ft] {x : Operand} {a0 : Addr} (hd : Nat.blt d N = true) (hx : ev Γ x = some (.pointer (some a0))) (h : Wl rest P md ops N ((d, .pointer (some a0)) :: Γ) C Q) :
    Wl (⟨some d, .fieldAddr s x i, ty, pos, af, none⟩ :: rest) P md ops N Γ C Q :=
  Wl.val hd (fun a w ha _ => by
    have h := hf.out
    unfold fieldB at h
    split at h <;> try cases h
    rename_i fs hfs
    cases e : fs[i]? with
    | none => rw [e] at h; cases h
    | some f =>
      rw [e] at h; simp at h
      obtain ⟨h1, h2, h3⟩ := h
      have h3 : ¬ sizeB P f.type = 0 := fun e0 => by rw [e0] at h3; cases h3
      cases e2 : P.info? f.type with
      | none => simp [sizeB, e2] at h3
      | some inf =>
        have h4 : ¬ inf.size = 0 := by simpa [sizeB, e2] using h3
        simp [execOp, ha.ev hx, Instr.fieldAt, run_underlying hfs, e, Instr.sureAddr, fieldPlace, sizeOf, typeInfo, e2, h4, h1, Addr.add]) h
theorem Wl.fieldAddr {s i off ft : Nat} [hf : Fld P s i off ft] {x : Operand} {b o : Nat} (hd : Nat.blt d N = true) (hx : ev Γ x = some (.pointer (some ⟨b, o, none⟩))) (h : Wl rest P md ops N ((d, .pointer (some ⟨b, o + off, none⟩)) :: Γ) C Q) :
    Wl (⟨some d, .fieldAddr s x i, ty, pos, af, none⟩ :: rest) P md ops N Γ C Q :=
  Wl.val hd (fun a w ha _ => by
    have h := hf.out
    unfold fieldB at h
    split at h <;> try cases h
    rename_i fs hfs
    cases e : fs[i]? with
    | none => rw [e] at h; cases h
    | some f =>
      rw [e] at h; simp at h
      obtain ⟨h1, h2, h3⟩ := h
      have h3 : ¬ sizeB P f.type = 0 := fun e0 => by rw [e0] at h3; cases h3
      cases e2 : P.info? f.type with
      | none => simp [sizeB, e2] at h3
      | some inf =>
        have h4 : ¬ inf.size = 0 := by simpa [sizeB, e2] using h3
        simp [execOp, ha.ev hx, Instr.fieldAt, run_underlying hfs, e, Instr.sureAddr, fieldPlace, sizeOf, typeInfo, e2, h4, h1, Addr.add_lit]) h
theorem Wl.fieldAddrZ {s i off ft : Nat} [hf : Fld P s i off ft] {x : Operand} {b : Nat} (hd : Nat.blt d N = true) (hx : ev Γ x = some (.pointer (some ⟨b, 0, none⟩))) (h : Wl rest P md ops N ((d, .pointer (some ⟨b, off, none⟩)) :: Γ) C Q) :
    Wl (⟨some d, .fieldAddr s x i, ty, pos, af, none⟩ :: rest) P md ops N Γ C Q :=
  Wl.fieldAddr (o := 0) hd hx (by rw [Nat.zero_add]; exact h)
theorem Wl.len {t : TypeId} {e : TypeId} {x : Operand} {a0 : Option Addr} {n c : Nat} [ht : TyD P t (.slice e)] (hd : Nat.blt d N = true) (hx : ev Γ x = some (.slice a0 n c)) (h : Wl rest P md ops N ((d, .int .i64 (n : Int)) :: Γ) C Q) :
    Wl (⟨some d, .call { callee := .builtin .len, args := #[x], argTypes := #[t] }, ty, pos, af, none⟩ :: rest) P md ops N Γ C Q :=
  Wl.val hd (fun a w ha _ => by simp [execOp, resolve, invoke, builtin, Builtin.len_, ha.ev hx, run_underlying ht.out, goInt]) h
/-- a load of one cell, by a fact of one's own -/
theorem Wl.loadF {t : TypeId} [TyC P t] {x : Operand} {a0 : Addr} {v : Value} (hd : Nat.blt d N = true) (hx : ev Γ x = some (.pointer (some a0))) (hc : ∀ w, C w → w.cell? a0 = some v) (h : Wl rest P md ops N ((d, v) :: Γ) C Q) :
    Wl (⟨some d, .load t x, ty, pos, af, none⟩ :: rest) P md ops N Γ C Q :=
  Wl.val hd (fun a w ha hw => by simp [execOp, ha.ev hx, Instr.loadAt, Instr.sureAddr, run_loadC (P := P) (t := t) (hc w hw)]) h
/-- .. from a block of the call's own -/
theorem Wl.loadH {w0 : World} {H : List Blk} {t bt : TypeId} [TyC P t] {x : Operand} {c i : Nat} {cs : List Value} {v : Value} (hd : Nat.blt d N = true) (hx : ev Γ x = some (.pointer (some ⟨c, i, none⟩)))
    (hm : (⟨c, cs, bt⟩ : Blk) ∈ H) (hi : cs[i]? = some v) (h : Wl rest P md ops N ((d, v) :: Γ) (Hp w0 H) Q) : Wl (⟨some d, .load t x, ty, pos, af, none⟩ :: rest) P md ops N Γ (Hp w0 H) Q :=
  Wl.loadF hd hx (fun _ hw => hw.cell hm hi) h
/-- .. from old memory -/
theorem Wl.loadO {w0 : World} {H : List Blk} {t : TypeId} [TyC P t] {x : Operand} {a0 : Addr} {v : Value} (hd : Nat.blt d N = true) (hx : ev Γ x = some (.pointer (some a0)))
    (hc : w0.cell? a0 = some v) (ho : Off H a0.block) (h : Wl rest P md ops N ((d, v) :: Γ) (Hp w0 H) Q) : Wl (⟨some d, .load t x, ty, pos, af, none⟩ :: rest) P md ops N Γ (Hp w0 H) Q :=
  Wl.loadF hd hx (fun _ hw => hw.old hc ho) h
/-- a load of a struct or an array -/
theorem Wl.loadAF {t n : TypeId} [TyA P t n] {x : Operand} {a0 : Addr} {xs : List Value} (hd : Nat.blt d N = true) (hx : ev Γ x = some (.pointer (some a0))) (hn : xs.length = n) (hc : ∀ w, C w → ∀ i v, xs[i]? = some v → w.cell? (a0.add i) = some v)
    (h : Wl rest P md ops N ((d, .agg xs.toArray) :: Γ) C Q) : Wl (⟨some d, .load t x, ty, pos, af, none⟩ :: rest) P md ops N Γ C Q :=
  Wl.val hd (fun a w ha hw => by simp [execOp, ha.ev hx, Instr.loadAt, Instr.sureAddr, run_loadA (P := P) (t := t) hn (hc w hw)]) h
theorem addLit (b o n : Nat) : Addr.add ⟨b, o, none⟩ n = ⟨b, o + n, none⟩ := Addr.add_lit b o n
/-- .. the n cells from i on of a block of the call's own -/
theorem Wl.loadAH {w0 : World} {H : List Blk} {t n bt : TypeId} [TyA P t n] {x : Operand} {c i : Nat} {cs xs : List Value} (hd : Nat.blt d N = true) (hx : ev Γ x = some (.pointer (some ⟨c, i, none⟩)))
    (hm : (⟨c, cs, bt⟩ : Blk) ∈ H) (hi' : LSub cs i n xs) (h : Wl rest P md ops N ((d, .agg xs.toArray) :: Γ) (Hp w0 H) Q) : Wl (⟨some d, .load t x, ty, pos, af, none⟩ :: rest) P md ops N Γ (Hp w0 H) Q :=
  have hi := hi'.out.1
  have hn := hi'.out.2
  Wl.loadAF hd hx hn (fun w hw j v hj => by
    rw [addLit]
    refine hw.cell hm ?_
    subst hi
    rw [List.getElem?_take] at hj
    split at hj
    · simpa [List.getElem?_drop] using hj
    · cases hj) h
/-- a store into one cell of a block of the call's own -/
theorem Wl.store {w0 : World} {H H' : List Blk} {t bt : TypeId} {b1 : Nat} [ht : TyS P t 1 b1] {x y : Operand} {c i : Nat} {cs cs' : List Value} {v : Value} (hx : ev Γ x = some (.pointer (some ⟨c, i, none⟩))) (hy : ev Γ y = some v) (h1 : v.oneCell' = true)
    (hs : HSet c cs cs' bt H H') (hc' : LSet cs i v cs') (h : Wl rest P .seq ops N Γ (Hp w0 H') Q) : Wl (⟨none, .store t x y, ty, pos, af, none⟩ :: rest) P .seq ops N Γ (Hp w0 H) Q :=
  Wl.eff fun a w ha hw => by
    have hi : i < cs.length := hc'.out.1
    have hc := hc'.out.2
    have hcell : w.cell? ⟨c, i, none⟩ = some cs[i] := hw.cell hs.mem (by simp [hi])
    have hfr : w.frozen? ⟨c, i, none⟩ = false := hw.free hs.mem
    have hcs : v.cells = #[v] := by cases v <;> simp_all [Value.cells, Value.oneCell']
    refine ⟨undef, w.setCell ⟨c, i, none⟩ v, .inr ⟨?_, rfl⟩, h _ _ ha (hw.hset hs (Upd.setCell w _ v rfl) ?_)⟩
    · simp [execOp, ha.ev hx, ha.ev hy, Instr.storeAt, Instr.sureAddr, storeVar, run_size (P := P) (t := t), hcs, storeCells, run_store P w _ v _ h1, hcell, hfr, Addr.add]
    · rw [blockSet (hw.own.at hs.mem)]
      subst hc
      simp
/-- a store of a struct or an array -/
theorem Wl.storeA {w0 : World} {H H' : List Blk} {t n bt : TypeId} [ht : TyA P t n] {x y : Operand} {c i : Nat} {cs cs' xs : List Value} (hx : ev Γ x = some (.pointer (some ⟨c, i, none⟩))) (hy : ev Γ y = some (.agg xs.toArray)) (hn : xs.length = n) (h1' : xs.all Value.oneCell' = true)
    (hs : HSet c cs cs' bt H H') (hc' : LPut cs i xs cs') (h : Wl rest P .seq ops N Γ (Hp w0 H') Q) : Wl (⟨none, .store t x y, ty, pos, af, none⟩ :: rest) P .seq ops N Γ (Hp w0 H) Q :=
  Wl.eff fun a w ha hw => by
    have h1 : ∀ v ∈ xs, v.oneCell' = true := fun v hv => List.all_eq_true.1 h1' v hv
    have hi : i + n ≤ cs.length := hn ▸ hc'.out.1
    have hc : cs.take i ++ xs ++ cs.drop (i + n) = cs' := hn ▸ hc'.out.2
    have hb := hw.own.at hs.mem
    have hst := run_storeCells_at P c i bt xs 0 cs.toArray w hb (by simp; omega) h1
    simp only [Nat.add_zero] at hst
    refine ⟨undef, w.setRow c cs'.toArray, .inr ⟨?_, rfl⟩, h _ _ ha (hw.hset hs ⟨rfl, rfl, rfl, by simp, fun k hk hne => ?_⟩ ?_)⟩
    · have e : (List.take i cs ++ xs ++ List.drop (i + xs.length) cs).toArray = cs'.toArray := by rw [hn, hc]
      rw [← e]
      simp only [execOp, ha.ev hx, ha.ev hy, Instr.storeAt, Instr.sureAddr, storeVar, Sem.run_bind, pure_bind, run_sizeA (P := P) (t := t), Value.cells, Result.andThen]
      simp [hn] at hst ⊢
      rw [hst]
    · exact setRow_other w c k _ hne
    · exact setRow_heap w c _ _ bt _ hb
/-- a new variable -/
theorem Wl.box {w0 : World} {H : List Blk} {t : TypeId} {x : Operand} {v : Value} (hd : Nat.blt d N = true) (hx : ev Γ x = some v)
    (h : ∀ c, w0.heap.size ≤ c → Off H c → Wl rest P .seq ops N ((d, .pointer (some ⟨c, 0, none⟩)) :: Γ) (Hp w0 (⟨c, v.cells.toList, t⟩ :: H)) Q) : Wl (⟨some d, .box t x, ty, pos, af, none⟩ :: rest) P .seq ops N Γ (Hp w0 H) Q :=
  Wl.eff fun a w ha hw => ⟨.pointer (some ⟨w.heap.size, 0, none⟩), w.alloc (.cells v.cells t), .inl (by
    simp [execOp, ha.ev hx, Instr.box, newVar, newRow]), h _ hw.upd.size (Off.lt hw.own) _ _ (ha.put hd _) (by simpa using hw.alloc v.cells.toList t)⟩
theorem Wl.boxA {w0 : World} {H : List Blk} {t : TypeId} {x : Operand} {xs : List Value} (hd : Nat.blt d N = true) (hx : ev Γ x = some (.agg xs.toArray))
    (h : ∀ c, w0.heap.size ≤ c → Off H c → Wl rest P .seq ops N ((d, .pointer (some ⟨c, 0, none⟩)) :: Γ) (Hp w0 (⟨c, xs, t⟩ :: H)) Q) : Wl (⟨some d, .box t x, ty, pos, af, none⟩ :: rest) P .seq ops N Γ (Hp w0 H) Q :=
  Wl.box hd hx h
theorem Wl.alloc {w0 : World} {H : List Blk} {t : TypeId} {z : Value} [TyZ P t z] (hd : Nat.blt d N = true)
    (h : ∀ c, w0.heap.size ≤ c → Off H c → Wl rest P .seq ops N ((d, .pointer (some ⟨c, 0, none⟩)) :: Γ) (Hp w0 (⟨c, z.cells.toList, t⟩ :: H)) Q) : Wl (⟨some d, .alloc t, ty, pos, af, none⟩ :: rest) P .seq ops N Γ (Hp w0 H) Q :=
  Wl.eff fun a w ha hw => ⟨.pointer (some ⟨w.heap.size, 0, none⟩), w.alloc (.cells z.cells t), .inl (by
    simp [execOp, Instr.alloc, newVar, newRow, run_zero (P := P) (t := t)]), h _ hw.upd.size (Off.lt hw.own) _ _ (ha.put hd _) (by simpa using hw.alloc z.cells.toList t)⟩
/-- a composite value: what it comes to is reckoned by hand or by simp -/
theorem Wl.build {t : TypeId} {parts : Array (Nat × Operand)} {ps : List (Nat × Value)} {v : Value} (hd : Nat.blt d N = true) (hp : Parts Γ parts.toList ps) (hr : ∀ w : World, (Instr.build t ps.toArray).run P w = .ok v w)
    (h : Wl rest P md ops N ((d, v) :: Γ) C Q) : Wl (⟨some d, .build t parts, ty, pos, af, none⟩ :: rest) P md ops N Γ C Q :=
  Wl.val hd (fun a w ha _ => by simp [execOp, hp.map ha, hr]) h
theorem Wl.buildS {t : TypeId} {parts : Array (Nat × Operand)} {ps : List (Nat × Value)} {pl : List (Nat × Nat)} {z cs : List Value} [TyP P t pl z] (hd : Nat.blt d N = true) (hp : Parts Γ parts.toList ps) (hF : Fills (pl.toArray[·]?) z ps cs)
    (h : Wl rest P md ops N ((d, .agg cs.toArray) :: Γ) C Q) : Wl (⟨some d, .build t parts, ty, pos, af, none⟩ :: rest) P md ops N Γ C Q := Wl.build hd hp (fun _ => run_build_struct hF) h
theorem Wl.buildA {t n e sz by_ : TypeId} {parts : Array (Nat × Operand)} {ps : List (Nat × Value)} {z cs : List Value} [TyD P t (.array n e)] [TyS P e sz by_] [TyZ P t (.agg z.toArray)] (hd : Nat.blt d N = true) (hp : Parts Γ parts.toList ps) (hF : Fills (fun i => some (i * sz, sz)) z ps cs)
    (h : Wl rest P md ops N ((d, .agg cs.toArray) :: Γ) C Q) : Wl (⟨some d, .build t parts, ty, pos, af, none⟩ :: rest) P md ops N Γ C Q := Wl.build hd hp (fun _ => run_build_array hF) h
theorem Wl.buildSlice {w0 : World} {H : List Blk} {t e n : TypeId} {parts : Array (Nat × Operand)} {ps : List (Nat × Value)} {cs : List Value} (hd : Nat.blt d N = true) (hp : Parts Γ parts.toList ps)
    (hr : ∀ w : World, (Instr.buildSlice t n ps.toArray).run P w = .ok (.slice (some ⟨w.heap.size, 0, none⟩) n n) (w.alloc (.cells cs.toArray e)))
    (h : ∀ c, w0.heap.size ≤ c → Off H c → Wl rest P .seq ops N ((d, .slice (some ⟨c, 0, none⟩) n n) :: Γ) (Hp w0 (⟨c, cs, e⟩ :: H)) Q) : Wl (⟨some d, .buildSlice t n parts, ty, pos, af, none⟩ :: rest) P .seq ops N Γ (Hp w0 H) Q :=
  Wl.eff fun a w ha hw => ⟨_, _, .inl (by simp [execOp, hp.map ha, hr]), h _ hw.upd.size (Off.lt hw.own) _ _ (ha.put hd _) (hw.alloc cs e)⟩
theorem Wl.lit {w0 : World} {H : List Blk} {t e sz by_ n : Nat} {z : Value} {parts : Array (Nat × Operand)} {ps : List (Nat × Value)} {cs : List Value} [TyD P t (.slice e)] [TyS P e sz by_] [TyZ P e z] (hd : Nat.blt d N = true) (hp : Parts Γ parts.toList ps)
    (hn : Nat.beq ps.length n = true) (hb : Nat.ble (n * sz) 16777216 = true) (hF : CatP sz 0 ps cs)
    (h : ∀ c, w0.heap.size ≤ c → Off H c → Wl rest P .seq ops N ((d, .slice (some ⟨c, 0, none⟩) n n) :: Γ) (Hp w0 (⟨c, cs, e⟩ :: H)) Q) : Wl (⟨some d, .buildSlice t n parts, ty, pos, af, none⟩ :: rest) P .seq ops N Γ (Hp w0 H) Q :=
  Wl.buildSlice hd hp (fun _ => run_buildSlice_cat hn hb hF) h
theorem Wl.indexAddr {t e sz by_ : TypeId} [ht : TyD P t (.slice e)] [TyS P e sz by_] {x i : Operand} {b o n c : Nat} {k : IntKind} {j : Int} (hd : Nat.blt d N = true) (hx : ev Γ x = some (.slice (some ⟨b, o, none⟩) n c)) (hi : ev Γ i = some (.int k j))
    (hj : 0 ≤ j ∧ j < n) (h : Wl rest P md ops N ((d, .pointer (some ⟨b, o + j.toNat * sz, none⟩)) :: Γ) C Q) : Wl (⟨some d, .indexAddr t x i, ty, pos, af, none⟩ :: rest) P md ops N Γ C Q :=
  Wl.val hd (fun a w ha _ => by simp [execOp, ha.ev hx, ha.ev hi, Instr.indexAt, asIntOf, run_underlying ht.out, hj, run_size (P := P) (t := e), Addr.add_lit]) h
theorem Wl.indexAddr1 {t e by_ : TypeId} [ht : TyD P t (.slice e)] [TyS P e 1 by_] {x i : Operand} {b o n c : Nat} {k : IntKind} {j : Int} (hd : Nat.blt d N = true) (hx : ev Γ x = some (.slice (some ⟨b, o, none⟩) n c)) (hi : ev Γ i = some (.int k j))
    (hj : 0 ≤ j ∧ j < n) (h : Wl rest P md ops N ((d, .pointer (some ⟨b, o + j.toNat, none⟩)) :: Γ) C Q) : Wl (⟨some d, .indexAddr t x i, ty, pos, af, none⟩ :: rest) P md ops N Γ C Q :=
  Wl.indexAddr (sz := 1) hd hx hi hj (by rw [Nat.mul_one]; exact h)
/-- of an array behind its address -/
theorem Wl.indexArr {t e sz by_ n : TypeId} [ht : TyD P t (.array n e)] [TyS P e sz by_] {x i : Operand} {b o : Nat} {k : IntKind} {j : Int} (hd : Nat.blt d N = true) (hx : ev Γ x = some (.pointer (some ⟨b, o, none⟩))) (hi : ev Γ i = some (.int k j))
    (hj : 0 ≤ j ∧ j < (n : Int)) (h : Wl rest P md ops N ((d, .pointer (some ⟨b, o + j.toNat * sz, none⟩)) :: Γ) C Q) : Wl (⟨some d, .indexAddr t x i, ty, pos, af, none⟩ :: rest) P md ops N Γ C Q :=
  Wl.val hd (fun a w ha _ => by simp [execOp, ha.ev hx, ha.ev hi, Instr.indexAt, asIntOf, run_underlying ht.out, hj, run_size (P := P) (t := e), Addr.add_lit, Instr.sureAddr]) h
theorem Wl.sliceFull {t e sz by_ : TypeId} [ht : TyD P t (.slice e)] [TyS P e sz by_] {x : Operand} {lo hi mx : Option Operand} {a0 : Option Addr} {n c l h' m : Nat} (hd : Nat.blt d N = true) (hx : ev Γ x = some (.slice a0 n c))
    (hlo : BoundIs Γ lo 0 l) (hhi : BoundIs Γ hi n h') (hmx : BoundIs Γ mx c m) (hs : mx.isSome = true → hi.isSome = true) (h1 : l ≤ h') (h2 : h' ≤ m) (h3 : m ≤ c)
    (h : Wl rest P md ops N ((d, .slice (if m = l then a0 else a0.map (·.add (l * sz))) (h' - l) (m - l)) :: Γ) C Q) : Wl (⟨some d, .slice t x lo hi mx, ty, pos, af, none⟩ :: rest) P md ops N Γ C Q :=
  Wl.val hd (fun a w ha _ => by
    have e : (Instr.sliceAt t (.slice a0 n c) (lo.map a.eval) (hi.map a.eval) (mx.map a.eval)).run P w = .ok (.slice (if m = l then a0 else a0.map (·.add (l * sz))) (h' - l) (m - l)) w := by
      have eb := bounds_run (P := P) (w := w) ha hlo hhi hmx hs h1 h2 h3
      simp only [Instr.sliceAt, Sem.run_bind, run_underlying ht.out, Result.andThen, Instr.slice, eb, run_size (P := P) (t := e), Sem.run_pure]
    simp only [execOp, ha.ev hx, Sem.run_bind, e, Result.andThen, Sem.run_pure]) h
theorem exec_call {f : FuncId} [hE : Ent P f] {a : Act} {w : World} {N : Nat} {Γ : Env} (ha : Fr N a Γ) {d : Option Nat} {xs : Array Operand} {vs : List Value} {ts : Array TypeId} {ty : TypeId} {pos : String} {af : Array Edge} {g : Option (Nat × Bool)} (hx : Evs Γ xs.toList vs) :
    (execOp a.eval ⟨d, .call { callee := .value (.func f), args := xs, argTypes := ts }, ty, pos, af, g⟩).run P w = .ok (.enter f vs.toArray) w := by
  have e : xs.map a.eval = vs.toArray := by
    obtain ⟨l⟩ := xs
    simp only [List.map_toArray]
    exact congrArg _ (hx.map ha)
  simp [execOp, resolve, e, Act.eval, Deferred.ofValue, invoke, hE.out]
/-- .. the class is kept: what the call leaves is told by one's own post -/
theorem Wl.callC {f : FuncId} [Ent P f] {xs : Array Operand} {vs : List Value} {ts : Array TypeId} (hd : Nat.blt d N = true) (hx : Evs Γ xs.toList vs)
    (h : ∀ w, C w → Calls P f vs.toArray w fun e w' => ∃ v C', e = .returned v ∧ C' w' ∧ Wl rest P .seq ops N ((d, v) :: Γ) C' Q) :
    Wl (⟨some d, .call { callee := .value (.func f), args := xs, argTypes := ts }, ty, pos, af, none⟩ :: rest) P .seq ops N Γ C Q := by
  intro a w ha hw
  refine wpList_plain rfl fun K hK => ?_
  simp only [Oper.wp, exec_call ha hx, Oper.upon]
  refine (h w hw).mono ?_
  rintro e w' ⟨v, C', rfl, hC, h⟩
  exact hK _ _ (h _ _ (ha.put hd v) hC)
/-- a quiet call: one value, whatever the world of the class -/
theorem Wl.callQ {f : FuncId} [Ent P f] {xs : Array Operand} {vs : List Value} {ts : Array TypeId} {v : Value} (hd : Nat.blt d N = true) (hx : Evs Γ xs.toList vs)
    (hq : ∀ w, C w → Calls P f vs.toArray w fun e w' => e = .returned v ∧ C w') (h : Wl rest P .seq ops N ((d, v) :: Γ) C Q) :
    Wl (⟨some d, .call { callee := .value (.func f), args := xs, argTypes := ts }, ty, pos, af, none⟩ :: rest) P .seq ops N Γ C Q := by
  intro a w ha hw
  refine wpList_plain rfl fun K hK => ?_
  simp only [Oper.wp, exec_call ha hx, Oper.upon]
  refine (hq w hw).mono ?_
  rintro e w' ⟨rfl, hC⟩
  exact hK _ _ (h _ _ (ha.put hd v) hC)
theorem Wl.callQQ {f : FuncId} [Ent P f] {xs : Array Operand} {vs : List Value} {ts : Array TypeId} {v : Value} (hd : Nat.blt d N = true) (hx : Evs Γ xs.toList vs)
    (hq : ∀ w, C w → Calls P f vs.toArray w fun e w' => e = .returned v ∧ C w') (h : Wl rest P .quiet ops N ((d, v) :: Γ) C Q) :
    Wl (⟨some d, .call { callee := .value (.func f), args := xs, argTypes := ts }, ty, pos, af, none⟩ :: rest) P .quiet ops N Γ C Q := by
  intro a ha
  simp only [wpQuiet, Region.wanted, if_true]
  exact ⟨v, fun w hw => by simp only [Oper.quietAt, exec_call ha hx, Oper.quietUpon]; exact ⟨trivial, hq w hw⟩, h _ (ha.put hd v)⟩
/-- an operation that turns the world, among operations whose order is open, by the rules for a single one -/
theorem wp_only {o : Oper} {a : Act} {w : World} {K : Act → World → Prop} {Q' : Exit → Act → World → Prop} (hq : ∀ e a w, Q' e a w → e = .normal) (hh : o.wp P a w K Q') : o.wp P a w K fun _ _ _ => False := by
  have hl : ¬ LetsOut Q' := fun ⟨a, w, h⟩ => nomatch hq _ _ _ h
  unfold Oper.wp at *
  generalize (execOp a.eval o).run P w = r at *
  cases r with
  | ok n w' =>
    cases n <;> simp only [Oper.upon] at hh ⊢ <;>
      first
        | exact hh
        | exact Calls.mono hh (fun e w'' he => by cases e <;> first | exact he | exact nomatch hq _ _ _ he | exact (hl he).elim)
        | exact Rows.mono hh (fun _ _ he => he)
  | halt x w' => cases x <;> simp only [Oper.upon] at hh ⊢ <;> first | exact hh | exact nomatch hq _ _ _ hh
/-- x[:hi], x[:hi:mx], x[:] -/
theorem Wl.slice0 {t e sz by_ : TypeId} [ht : TyD P t (.slice e)] [TyS P e sz by_] {x : Operand} {hi mx : Option Operand} {a0 : Option Addr} {n c h' m : Nat} (hd : Nat.blt d N = true) (hx : ev Γ x = some (.slice a0 n c))
    (hhi : BoundIs Γ hi n h') (hmx : BoundIs Γ mx c m) (hs : mx.isSome = true → hi.isSome = true) (h2 : h' ≤ m) (h3 : m ≤ c)
    (h : Wl rest P md ops N ((d, .slice a0 h' m) :: Γ) C Q) : Wl (⟨some d, .slice t x none hi mx, ty, pos, af, none⟩ :: rest) P md ops N Γ C Q :=
  Wl.sliceFull (l := 0) hd hx BoundIs.no hhi hmx hs (Nat.zero_le _) h2 h3 (by
    have e : (if m = 0 then a0 else a0.map (·.add (0 * sz))) = a0 := by split <;> cases a0 <;> simp [Addr.add]
    rw [e]; exact h)
theorem run_conv_bs {w : World} {s t e : TypeId} {y : Value} {l : List UInt8} [hs : TyD P s (.slice e)] [he : TyD P e (.int .u8)] [ht : TyD P t .string] (hy : Bs w y l) : (convert s t y).run P w = .ok (.string (strOf l)) w := by
  obtain ⟨a, cap, rfl, _⟩ := hy.shape
  by_cases hl : l = []
  · subst hl
    simp only [List.length_nil]
    rw [run_convert_bytes_string w s t e a 0 cap hs.out he.out ht.out]
    cases a with
    | none => simp [Conv.bytesToString]; rfl
    | some a =>
      rw [run_bytesToString w a 0 cap [] (by simp [loadCells, loadCellsFrom])]
      rfl
  · obtain ⟨b, off, rfl, hc⟩ := hy.cells hl
    have := run_convert_bytes_arg (P := P) w s e hs.out he.out b off l.length cap (l.map fun c => (c.toNat : Int)) (by simp) (fun i hi => by rw [hc i hi]; simp [hi]) t ht.out
    rw [this]
    congr 2
    simp only [strOfNums, strOf, List.map_map]
    congr 1
    rw [show l.map ((fun n : Int => UInt8.ofNat n.toNat) ∘ fun c : UInt8 => (c.toNat : Int)) = l.map id from List.map_congr_left fun c _ => by simp]
    simp
theorem Wl.convBS {s t e : TypeId} {x : Operand} {y : Value} {l : List UInt8} [TyD P s (.slice e)] [TyD P e (.int .u8)] [TyD P t .string] (hd : Nat.blt d N = true) (hx : ev Γ x = some y) (hy : ∀ w, C w → Bs w y l)
    (h : Wl rest P md ops N ((d, .string (strOf l)) :: Γ) C Q) : Wl (⟨some d, .convert s t x, ty, pos, af, none⟩ :: rest) P md ops N Γ C Q :=
  Wl.val hd (fun a w ha hw => by simp only [execOp, ha.ev hx, Sem.run_bind, run_conv_bs (P := P) (s := s) (t := t) (hy w hw), Result.andThen, Sem.run_pure]) h
theorem Wl.convBSo {w0 : World} {H : List Blk} {s t e : TypeId} {x : Operand} {y : Value} {l : List UInt8} [TyD P s (.slice e)] [TyD P e (.int .u8)] [TyD P t .string] (hd : Nat.blt d N = true) (hx : ev Γ x = some y) (hy : Bs w0 y l)
    (ho : ∀ k, y.ownBlock = some k → k < w0.heap.size → l ≠ [] → Off H k) (h : Wl rest P md ops N ((d, .string (strOf l)) :: Γ) (Hp w0 H) Q) : Wl (⟨some d, .convert s t x, ty, pos, af, none⟩ :: rest) P md ops N Γ (Hp w0 H) Q :=
  Wl.convBS hd hx (fun _ hw => hy.upd hw.upd fun k h1 h2 h3 h4 => h4 (ho k h1 h2 h3)) h
theorem ownsRow_upd {S : Nat → Prop} {w w' : World} {base : Nat} {e : TypeId} {sz n : Nat} {v : Value} {xs : List Value} (h : w.ownsRow base e sz v n xs) (u : Upd S w w') (hs : ∀ k, v.ownBlock = some k → ¬ S k) : w'.ownsRow base e sz v n xs := by
  obtain ⟨h1, h2⟩ := h
  refine ⟨h1, ?_⟩
  rcases h2 with h2 | ⟨g, cap, cur, rfl, hg, hh, r⟩
  · exact .inl h2
  · exact .inr ⟨g, cap, cur, rfl, hg, u.heap hh (hs g rfl), r⟩
theorem run_append2 {w : World} {t ty e sz by_ base n m c : Nat} {z v : Value} {xs news : List Value} {ad : Addr} [ht : TyD P t (.slice e)] [hs : TyS P e sz by_] [hz : TyZ P e z] (hzs : z.cells.size = sz) (hsz : 0 < sz)
    (hown : w.ownsRow base e sz v n xs) (hl : news.length = m * sz) (hnews : ∀ j u, news[j]? = some u → w.cell? (ad.add j) = some u) (h1 : news.all Value.oneCell' = true) (h63 : n + m ≤ maxLen) (hb : (n + m) * by_ ≤ 140737488355328) (hbase : base ≤ w.heap.size) :
    ∃ v' w', (Builtin.append_ #[t, t] ty #[v, .slice (some ad) m c]).run P w = .ok v' w' ∧ w'.ownsRow base e sz v' (n + m) (xs ++ news) ∧ w.grownBy w' v.ownBlock ∧ (v' = .slice none 0 0 ↔ v = .slice none 0 0 ∧ m = 0) ∧
      (∀ k, v'.ownBlock = some k → v.ownBlock = some k ∨ w.heap.size ≤ k) := by
  have a1 := hs.out
  have a2 := hz.out
  cases e1 : P.info? e with
  | none => rw [e1] at a1; cases a1
  | some i =>
    rw [e1] at a1 a2
    simp at a1 a2
    have hn1 : ∀ u ∈ news, u.oneCell' = true := fun u hu => List.all_eq_true.1 h1 u hu
    rcases hown.2 with ⟨rfl, rfl⟩ | ⟨g, cap, cur, rfl, hg, hh, hnc, hcm, hcs, htk⟩
    · have hx0 : xs = [] := by simpa using hown.1
      subst hx0
      obtain ⟨v', w', r1, r2, r3, r4⟩ := run_append_own (P := P) w w.heap.size t ty e i z sz by_ ht.out e1 a2 a1.1 a1.2 hzs hsz (.slice none 0 0) 0 [] (World.ownsRow_nil w _ e sz) ad m c news hl hnews hn1 h63 hb (Nat.le_refl _)
      exact ⟨v', w', r1, Go.Joins.ownsRow_le r2 hbase, r3, r4, fun k hk => .inr (r2.lt k hk).1⟩
    · by_cases hroom : n + m ≤ cap
      · obtain ⟨w', r1, r2, r3⟩ := run_append_fits (P := P) w base t ty e i sz ht.out e1 a1.1 g n cap xs hown ad m c news hl hnews hn1 hroom
        exact ⟨_, w', r1, r2, r3, by simp, fun k hk => .inl hk⟩
      · obtain ⟨v', w', r1, r2, r3⟩ := run_append_arg_grows (P := P) w t ty e i z sz by_ ht.out e1 a2 a1.1 a1.2 hzs hsz ⟨g, 0, none⟩ n cap xs hown.1 (fun j u hj => hown.cells rfl j u hj) ad m c news hl hnews (by omega) h63 hb
        refine ⟨v', w', r1, Go.Joins.ownsRow_le r2 hbase, ⟨r3.os, r3.tape, r3.output, r3.size, fun k hk _ => r3.block k hk (by simp)⟩, ?_, fun k hk => .inr (r2.lt k hk).1⟩
        refine ⟨fun hv => ?_, fun hv => by simp at hv⟩
        rcases r2.2 with ⟨_, h0⟩ | ⟨g', cap', _, hv', _⟩
        · omega
        · rw [hv'] at hv; cases hv
theorem Wl.append {w0 : World} {H : List Blk} {t e sz by_ base n m c : Nat} {z v : Value} {xs news : List Value} {ad : Addr} {s x : Operand} [ht : TyD P t (.slice e)] [hs : TyS P e sz by_] [hz : TyZ P e z]
    (hd : Nat.blt d N = true) (hs' : ev Γ s = some v) (hx : ev Γ x = some (.slice (some ad) m c)) (hown : w0.ownsRow base e sz v n xs) (hl : news.length = m * sz) (hnews : ∀ w, Hp w0 H w → ∀ j u, news[j]? = some u → w.cell? (ad.add j) = some u)
    (hoff : ∀ k, v.ownBlock = some k → Off H k) (h1 : news.all Value.oneCell' = true) (hzs : z.cells.size = sz) (hsz : 0 < sz) (h63 : n + m ≤ maxLen) (hb : (n + m) * by_ ≤ 140737488355328) (hbase : base ≤ w0.heap.size)
    (h : ∀ v' w1, w1.ownsRow base e sz v' (n + m) (xs ++ news) → Upd (fun k => v.ownBlock = some k ∨ ¬ Off H k) w0 w1 → (v' = .slice none 0 0 ↔ v = .slice none 0 0 ∧ m = 0) → (∀ k, v'.ownBlock = some k → Off H k ∧ (v.ownBlock = some k ∨ w0.heap.size ≤ k)) → Wl rest P .seq ops N ((d, v') :: Γ) (Hp w1 H) Q) :
    Wl (⟨some d, .call { callee := .builtin .append, args := #[s, x], argTypes := #[t, t] }, ty, pos, af, none⟩ :: rest) P .seq ops N Γ (Hp w0 H) Q :=
  Wl.eff fun a w ha hw => by
    have hown' : w.ownsRow base e sz v n xs := ownsRow_upd hown hw.upd fun k hk x => x (hoff k hk)
    obtain ⟨v', w', hrun, ho, hg, hn, hk⟩ := run_append2 (P := P) (t := t) (ty := ty) (c := c) hzs hsz hown' hl (hnews w hw) h1 h63 hb (Nat.le_trans hbase hw.upd.size)
    have u : Upd (fun k => v.ownBlock = some k) w w' := Upd.grown hg fun k hk => hk
    have hp1 : Own w' H := hw.own.upd u fun y hy hk => (hoff _ hk).at hy rfl
    refine ⟨v', w', .inl ?_, h v' w' ho ((hw.upd.mono fun k _ hk => .inr hk).trans (u.mono fun k _ hk => .inl hk)) hn (fun k hk' => (hk k hk').elim (fun e => ⟨hoff k e, .inl e⟩) fun hge => ⟨Off.of fun y hy e => by have := hw.own.lt hy; omega, .inr (Nat.le_trans hw.upd.size hge)⟩) _ _ (ha.put hd _) ⟨Upd.refl _ _, hp1, hw.apart⟩⟩
    simp [execOp, resolve, invoke, builtin, ha.ev hs', ha.ev hx, hrun]
/-- .. of what a composite literal has just laid -/
theorem Wl.appendH {w0 : World} {H : List Blk} {t e sz by_ base n m c b bt : Nat} {z v : Value} {xs news : List Value} {s x : Operand} [ht : TyD P t (.slice e)] [hs : TyS P e sz by_] [hz : TyZ P e z]
    (hd : Nat.blt d N = true) (hs' : ev Γ s = some v) (hx : ev Γ x = some (.slice (some ⟨b, 0, none⟩) m c)) (hm : (⟨b, news, bt⟩ : Blk) ∈ H) (hl : Nat.beq news.length (m * sz) = true) (hown : w0.ownsRow base e sz v n xs)
    (hoff : ∀ k, v.ownBlock = some k → Off H k) (h1 : news.all Value.oneCell' = true) (hzs : z.cells.size = sz) (hsz : 0 < sz) (h63 : n + m ≤ maxLen) (hb : (n + m) * by_ ≤ 140737488355328) (hbase : base ≤ w0.heap.size)
    (h : ∀ v' w1, w1.ownsRow base e sz v' (n + m) (xs ++ news) → Upd (fun k => v.ownBlock = some k ∨ ¬ Off H k) w0 w1 → (v' = .slice none 0 0 ↔ v = .slice none 0 0 ∧ m = 0) → (∀ k, v'.ownBlock = some k → Off H k ∧ (v.ownBlock = some k ∨ w0.heap.size ≤ k)) → Wl rest P .seq ops N ((d, v') :: Γ) (Hp w1 H) Q) :
    Wl (⟨some d, .call { callee := .builtin .append, args := #[s, x], argTypes := #[t, t] }, ty, pos, af, none⟩ :: rest) P .seq ops N Γ (Hp w0 H) Q :=
  Wl.append hd hs' hx hown (Nat.eq_of_beq_eq_true hl) (fun w hw j u hj => by rw [addLit]; exact hw.cell hm (by simpa using hj)) hoff h1 hzs hsz h63 hb hbase h
/-- .. the literal's block, the last one made, is let go behind it -/
theorem Wl.appendT {w0 : World} {H : List Blk} {t e sz by_ base n m c b bt : Nat} {z v : Value} {xs news : List Value} {s x : Operand} [ht : TyD P t (.slice e)] [hs : TyS P e sz by_] [hz : TyZ P e z]
    (hd : Nat.blt d N = true) (hs' : ev Γ s = some v) (hx : ev Γ x = some (.slice (some ⟨b, 0, none⟩) m c)) (hb0 : w0.heap.size ≤ b) (hl : Nat.beq news.length (m * sz) = true) (hown : w0.ownsRow base e sz v n xs)
    (hoff : ∀ k, v.ownBlock = some k → Off H k) (h1 : news.all Value.oneCell' = true) (hzs : z.cells.size = sz) (hsz : 0 < sz) (h63 : n + m ≤ maxLen) (hb : (n + m) * by_ ≤ 140737488355328) (hbase : base ≤ w0.heap.size)
    (h : ∀ v' w1, w1.ownsRow base e sz v' (n + m) (xs ++ news) → Upd (fun k => v.ownBlock = some k ∨ ¬ Off H k) w0 w1 → (v' = .slice none 0 0 ↔ v = .slice none 0 0 ∧ m = 0) → (∀ k, v'.ownBlock = some k → Off H k ∧ (v.ownBlock = some k ∨ w0.heap.size ≤ k)) → Wl rest P .seq ops N ((d, v') :: Γ) (Hp w1 H) Q) :
    Wl (⟨some d, .call { callee := .builtin .append, args := #[s, x], argTypes := #[t, t] }, ty, pos, af, none⟩ :: rest) P .seq ops N Γ (Hp w0 (⟨b, news, bt⟩ :: H)) Q :=
  Wl.appendH hd hs' hx (List.Mem.head _) hl hown (fun k hk => ⟨fun e => by have := (hown.lt k hk).2; simp only at e; omega, hoff k hk⟩) h1 hzs hsz h63 hb hbase fun v' w1 a1 a2 a3 a4 =>
    Wl.reb fun w hw => ⟨hw.own.2, hw.apart.2, h v' w (ownsRow_upd a1 hw.upd fun k hk y => y (a4 k hk).1) (a2.comp hw.upd fun k hk hs => by
      have key : ¬ Off (⟨b, news, bt⟩ :: H) k → ¬ Off H k := fun hn ho => hn ⟨fun e => by simp only at e; omega, ho⟩
      rcases hs with (hs | hs) | hs
      · exact .inl hs
      · exact .inr (key hs)
      · exact .inr (key hs)) a3 fun k hk => ⟨(a4 k hk).1.2, (a4 k hk).2⟩⟩
/-- .. of a slice that reads as news -/
theorem Wl.appendV {w0 : World} {H : List Blk} {t e sz by_ base n m : Nat} {z v y : Value} {xs news : List Value} {s x : Operand} [ht : TyD P t (.slice e)] [hs : TyS P e sz by_] [hz : TyZ P e z]
    (hd : Nat.blt d N = true) (hs' : ev Γ s = some v) (hx : ev Γ x = some y) (hy : Sv w0 sz m y news) (hyo : ∀ k, y.ownBlock = some k → k < w0.heap.size → news ≠ [] → Off H k) (hown : w0.ownsRow base e sz v n xs)
    (hoff : ∀ k, v.ownBlock = some k → Off H k) (h1 : news.all Value.oneCell' = true) (hzs : z.cells.size = sz) (hsz : 0 < sz) (h63 : n + m ≤ maxLen) (hb : (n + m) * by_ ≤ 140737488355328) (hbase : base ≤ w0.heap.size)
    (h : ∀ v' w1, w1.ownsRow base e sz v' (n + m) (xs ++ news) → Upd (fun k => v.ownBlock = some k ∨ ¬ Off H k) w0 w1 → (v' = .slice none 0 0 ↔ v = .slice none 0 0 ∧ m = 0) → (∀ k, v'.ownBlock = some k → Off H k ∧ (v.ownBlock = some k ∨ w0.heap.size ≤ k)) → Wl rest P .seq ops N ((d, v') :: Γ) (Hp w1 H) Q) :
    Wl (⟨some d, .call { callee := .builtin .append, args := #[s, x], argTypes := #[t, t] }, ty, pos, af, none⟩ :: rest) P .seq ops N Γ (Hp w0 H) Q := by
  obtain ⟨hl, a0, cap, rfl, h2, h3, h5, h4⟩ := hy
  rcases a0 with _ | ad
  · have hn : news = [] := Classical.byContradiction fun e => by obtain ⟨b, o, e', _⟩ := h4 e; cases e'
    subst hn
    have hc0 := h5 rfl
    subst hc0
    have hm0 : m = 0 := by
      have : 0 = m * sz := by simpa using hl
      rcases Nat.mul_eq_zero.1 this.symm with e | e
      · exact e
      · omega
    subst hm0
    refine Wl.eff fun a w ha hw => ?_
    have hown' : w.ownsRow base e sz v n xs := ownsRow_upd hown hw.upd fun k hk x => x (hoff k hk)
    have a1 := hs.out
    obtain ⟨i, e1⟩ : ∃ i, P.info? e = some i := by
      cases e1 : P.info? e with
      | none => rw [e1] at a1; cases a1
      | some i => exact ⟨i, rfl⟩
    rw [e1] at a1
    simp at a1
    have hrun := run_append_owned_none (P := P) (w := w) base t ty e i sz ht.out e1 v n xs hown'
    refine ⟨v, w, .inl ?_, h v w ?_ (hw.upd.mono fun k _ hk => .inr hk) ?_ (fun k hk => ⟨hoff k hk, .inl hk⟩) _ _ (ha.put hd _) ⟨Upd.refl _ _, hw.own, hw.apart⟩⟩
    · simp [execOp, resolve, invoke, builtin, ha.ev hs', ha.ev hx, hrun]
    · simpa using hown'
    · simp
  · refine Wl.append hd hs' hx hown hl (fun w hw j u hj => ?_) hoff h1 hzs hsz h63 hb hbase h
    obtain ⟨hj, e⟩ := List.getElem?_eq_some_iff.1 hj
    obtain ⟨b, o, e', hc⟩ := h4 (fun e => by subst e; simp at hj)
    cases e'
    rw [addLit]
    have := hc j hj
    rw [e] at this
    exact hw.old this (hyo b rfl (World.block_lt_of_cell? w0 _ this) (fun e => by subst e; simp at hj))
end ops
theorem St.seq {x y : Code} (h : St x P N Γ C (Exit.then (y.wp P Q) Q)) : St (.seq x y) P N Γ C Q := fun a w ha hw => wp_seq (h a w ha hw)
theorem St.skip (h : Gt N .normal Γ C Q) : St .skip P N Γ C Q := fun a w ha hw => wp_skip (h a w ha hw)
theorem St.ret (h : Gt N .ret Γ C Q) : St .ret P N Γ C Q := fun a w ha hw => wp_ret (h a w ha hw)
theorem St.exit {i : Nat} (h : Gt N (.exit i) Γ C Q) : St (.exit i) P N Γ C Q := fun a w ha hw => wp_exit (h a w ha hw)
theorem St.block {i : Nat} {c : Code} (h : St c P N Γ C (Exit.inBlock i Q)) : St (.block i c) P N Γ C Q := fun a w ha hw => wp_block (h a w ha hw)
theorem St.region {i : Nat} {l : List Oper} (h : Wl l P .seq l.toArray N Γ C Q) : St (.region i l.toArray false) P N Γ C Q := fun a w ha hw => wp_region_lit (h a w ha hw)
theorem St.draw {i : Nat} {l : List Oper} (hm : P.follows .mixedOrders = true) (hB : Region.lexB .any l.toArray = true) (hC : ∀ w, C w → C w.drew) (h : Wl l P .quiet l.toArray N Γ C Q) : St (.region i l.toArray true) P N Γ C Q :=
  fun a w ha hw => wp_region_quiet (C := C) hm hB (hC w hw) (by simpa using h a ha)
theorem St.condT {x : Operand} {b : Bool} {p q : Code} (hx : ev Γ x = some (.bool b)) (hb : b = true) (h : St p P N Γ C Q) : St (.cond x p q) P N Γ C Q :=
  fun a w ha hw => wp_cond_true (by rw [ha.ev hx, hb]) (h a w ha hw)
theorem St.condF {x : Operand} {b : Bool} {p q : Code} (hx : ev Γ x = some (.bool b)) (hb : b = false) (h : St q P N Γ C Q) : St (.cond x p q) P N Γ C Q :=
  fun a w ha hw => wp_cond_false (by rw [ha.ev hx, hb]) (h a w ha hw)
theorem St.condP {x : Operand} {r : Prop} {_i : Decidable r} {p q : Code} (hx : ev Γ x = some (.bool (decide r))) (h1 : r → decide r = true → St p P N Γ C Q) (h2 : ¬ r → decide r = false → St q P N Γ C Q) : St (.cond x p q) P N Γ C Q := by
  by_cases hr : r
  · exact St.condT hx (decide_eq_true hr) (h1 hr (decide_eq_true hr))
  · exact St.condF hx (decide_eq_false hr) (h2 hr (decide_eq_false hr))
theorem St.cls {c : Code} {C' : World → Prop} (hc : ∀ w, C w → C' w) (h : St c P N Γ C' Q) : St c P N Γ C Q := fun a w ha hw => h a w ha (hc w hw)
theorem St.reb {c : Code} {H' : List Blk} (h : ∀ w, C w → Own w H' ∧ Apart H' ∧ St c P N Γ (Hp w H') Q) : St c P N Γ C Q := fun a w ha hw => by
  obtain ⟨h1, h2, h3⟩ := h w hw
  exact h3 a w ha ⟨Upd.refl _ _, h1, h2⟩
/-- a loop: what holds at its head is told over an index of one's own, with a measure -/
theorem St.loop {σ : Type} (I : σ → Prop) (Γf : σ → Env) (Cf : σ → World → Prop) (μ : σ → Nat) {c : Code} (τ0 : σ) (h0 : I τ0) (hs : Sub Γ (Γf τ0)) (hc : ∀ w, C w → Cf τ0 w)
    (round : ∀ τ, I τ → St c P N (Γf τ) (Cf τ) (Exit.then (fun a w => ∃ τ', I τ' ∧ μ τ' < μ τ ∧ Fr N a (Γf τ') ∧ Cf τ' w) Q)) : St (.loop c) P N Γ C Q := by
  intro a w ha hw b k cs
  have key : ∀ n τ a w, μ τ = n → I τ → Fr N a (Γf τ) → Cf τ w →
      ∃ e a' w', Q e a' w' ∧ Arrives P (lone (b.at a (.code c :: .inLoop c :: k)) cs w) b k cs e a' w' := by
    intro n
    induction n using Nat.strongRecOn with
    | _ n ih =>
      intro τ a w hn hI hfr hC
      obtain ⟨e, a₁, w₁, hq, harr⟩ := round τ hI a w hfr hC b (.inLoop c :: k) cs
      cases e with
      | normal =>
        obtain ⟨τ', hI', hlt, hfr', hC'⟩ := hq
        obtain ⟨e₂, a₂, w₂, hq₂, harr₂⟩ := ih (μ τ') (hn ▸ hlt) τ' a₁ w₁ rfl hI' hfr' hC'
        exact ⟨e₂, a₂, w₂, hq₂, .of_steps (Steps.trans harr (.one step_inLoop)) harr₂⟩
      | exit id => exact ⟨_, a₁, w₁, hq, .pass (x := .inLoop c) rfl (fun _ _ => .inl (by simp)) harr⟩
      | goto l => exact ⟨_, a₁, w₁, hq, .pass (x := .inLoop c) rfl (fun _ _ => .inl (by simp)) harr⟩
      | ret => exact ⟨_, a₁, w₁, hq, .pass (x := .inLoop c) rfl (fun _ _ => .inl (by simp)) harr⟩
      | panic ch => exact ⟨_, a₁, w₁, hq, .pass (x := .inLoop c) rfl (fun _ _ => .inl (by simp)) harr⟩
      | outgrown => exact ⟨_, a₁, w₁, hq, .pass (x := .inLoop c) rfl (fun _ _ => .inl (by simp)) harr⟩
  obtain ⟨e, a', w', hq, harr⟩ := key _ τ0 a w rfl h0 (ha.sub hs) (hc w hw)
  exact ⟨e, a', w', hq, .of_steps (.one step_loop) harr⟩
/-- the end of a round -/
theorem Gt.round {σ : Type} {I : σ → Prop} {Γf : σ → Env} {Cf : σ → World → Prop} {μ : σ → Nat} {m : Nat} (τ' : σ) (hI : I τ') (hm : μ τ' < m) (hs : Sub Γ (Γf τ')) (hc : ∀ w, C w → Cf τ' w) :
    Gt N .normal Γ C (Exit.then (fun a w => ∃ τ', I τ' ∧ μ τ' < m ∧ Fr N a (Γf τ') ∧ Cf τ' w) Q) := fun _ w ha hw => ⟨τ', hI, hm, ha.sub hs, hc w hw⟩
/-- a statement whose ways meet again: what holds behind it, over an index of one's own -/
theorem St.cut {σ : Type} (I : σ → Prop) (Γf : σ → Env) (Cf : σ → World → Prop) {x y : Code} (h1 : St x P N Γ C (Exit.then (fun a w => ∃ τ, I τ ∧ Fr N a (Γf τ) ∧ Cf τ w) Q)) (h2 : ∀ τ, I τ → St y P N (Γf τ) (Cf τ) Q) : St (.seq x y) P N Γ C Q :=
  St.seq fun a w ha hw => Code.wp_mono (fun e a' w' q => by
    cases e with
    | normal => obtain ⟨τ, hI, hf, hC⟩ := q; exact h2 τ hI a' w' hf hC
    | _ => exact q) (h1 a w ha hw)
theorem Gt.meet {σ : Type} {I : σ → Prop} {Γf : σ → Env} {Cf : σ → World → Prop} (τ' : σ) (hI : I τ') (hs : Sub Γ (Γf τ')) (hc : ∀ w, C w → Cf τ' w) :
    Gt N .normal Γ C (Exit.then (fun a w => ∃ τ', I τ' ∧ Fr N a (Γf τ') ∧ Cf τ' w) Q) := fun _ w ha hw => ⟨τ', hI, ha.sub hs, hc w hw⟩
theorem Gt.next {y : Code} {Q' : Exit → Act → World → Prop} (h : St y P N Γ C Q) : Gt N .normal Γ C (Exit.then (y.wp P Q) Q') := h
theorem Gt.thenExit {i : Nat} {k : Act → World → Prop} (h : Gt N (.exit i) Γ C Q) : Gt N (.exit i) Γ C (Exit.then k Q) := h
theorem Gt.thenRet {k : Act → World → Prop} (h : Gt N .ret Γ C Q) : Gt N .ret Γ C (Exit.then k Q) := h
theorem Gt.inNormal {i : Nat} (h : Gt N .normal Γ C Q) : Gt N .normal Γ C (Exit.inBlock i Q) := h
theorem Gt.inRet {i : Nat} (h : Gt N .ret Γ C Q) : Gt N .ret Γ C (Exit.inBlock i Q) := h
theorem Gt.inExit {i : Nat} (h : Gt N .normal Γ C Q) : Gt N (.exit i) Γ C (Exit.inBlock i Q) := fun a w ha hw => by
  simp only [Exit.inBlock, if_true]; exact h a w ha hw
/-- the function hands back -/
theorem Gt.out1 {fn : Func} {R : Ending → World → Prop} {t : Nat} {v : Value} (hr : fn.results = #[.tmp t]) (ht : look Γ t = some v) (h : ∀ w, C w → R (.returned v) w) : Gt N .ret Γ C (bodyPost P fn R) := fun a w ha hw => by
  refine ⟨ha.defers, v, ?_, h w hw⟩
  rw [results_tmp hr]
  simp [ha.get t v ht]
theorem Gt.out0n {fn : Func} {R : Ending → World → Prop} (hr : fn.results = #[]) (h : ∀ w, C w → R (.returned (.tuple #[])) w) : Gt N .normal Γ C (bodyPost P fn R) := fun a w ha hw =>
  ⟨ha.defers, _, results_none hr _ _ _, h w hw⟩
theorem Gt.out2 {fn : Func} {R : Ending → World → Prop} {t u : Nat} {v v' : Value} (hr : fn.results = #[.tmp t, .tmp u]) (ht : look Γ t = some v) (hu : look Γ u = some v') (h : ∀ w, C w → R (.returned (.tuple #[v, v'])) w) : Gt N .ret Γ C (bodyPost P fn R) := fun a w ha hw => by
  refine ⟨ha.defers, _, ?_, h w hw⟩
  rw [results_tmp2 hr]
  simp [ha.get t v ht, ha.get u v' hu]
/-- the frame at the start -/
theorem Fr.start {args : List Value} {N : Nat} {Γ : Env} (hN : args.length ≤ N) (hg : ∀ t v, look Γ t = some v → args[t]? = some v) : Fr N { tmps := args.toArray ++ Array.replicate (N - args.toArray.size) undef, defers := [] } Γ := by
  refine ⟨rfl, by simp; omega, fun t v ht => ?_⟩
  have h := hg t v ht
  have hlt : t < args.length := (List.getElem?_eq_some_iff.1 h).1
  simp [Array.getElem?_append, hlt]
  simpa [List.getElem?_eq_getElem hlt] using h
inductive ArgEnv (args : List Value) : Env → Prop
  | nil : ArgEnv args []
  | cons {t : Nat} {v : Value} {r : Env} (h : args[t]? = some v) (hs : ArgEnv args r) : ArgEnv args ((t, v) :: r)
theorem ArgEnv.get {args : List Value} {Γ : Env} (h : ArgEnv args Γ) : ∀ t v, look Γ t = some v → args[t]? = some v := by
  induction h with
  | nil => intro t v h; simp [look] at h
  | @cons d u r h hs ih =>
    intro t v ht
    simp only [look] at ht
    by_cases e : t = d
    · subst e; simp at ht; subst ht; exact h
    · rw [beqFalse e] at ht; exact ih t v (by simpa using ht)
/-- from a call to its body -/
theorem enter {f : FuncId} {fn : Func} {c : Code} {args : List Value} {w : World} {R : Ending → World → Prop} (hf : P.funcs[f]? = some fn) (hn : fn.ntmps = N) (hb : fn.body = some c) (hN : args.length ≤ N) (hΓ : ArgEnv args Γ)
    (h : St c P N Γ (Hp w []) (bodyPost P fn R)) : Calls P f args.toArray w R := by
  refine calls_of_wp hf hb ?_
  have := h _ w (Fr.start (N := N) hN hΓ.get) (Hp.start w)
  rw [hn]
  exact this
end
def dstO (o : Oper) : Nat := match o.dst with
  | some d => d
  | none => 0
def dstAt (l : List Oper) (i : Nat) : Nat := match l[i]? with
  | some o => dstO o
  | none => 0
theorem look_any {Γ : Env} {t : Nat} {v : Value} (h : look Γ t = some v) : (Γ.any fun p => Nat.beq p.1 t) = true := by
  induction Γ with
  | nil => simp [look] at h
  | cons p r ih =>
    obtain ⟨d, u⟩ := p
    simp only [look] at h
    by_cases e : t = d
    · subst e; simp
    · rw [beqFalse e] at h
      simp only [List.any_cons, Bool.or_eq_true]
      exact .inr (ih h)
theorem Fr.cons {N : Nat} {a : Act} {Γ : Env} (h : Fr N a Γ) {d : Nat} {v : Value} (hv : a.tmps[d]? = some v) : Fr N a ((d, v) :: Γ) := by
  refine ⟨h.defers, h.size, fun t u hu => ?_⟩
  simp only [look] at hu
  by_cases e : t = d
  · subst e; simp at hu; subst hu; exact hv
  · rw [beqFalse e] at hu; exact h.get t u (by simpa using hu)
/-- an operation writes its slot only -/
theorem wp_tmps {P : Program} {o : Oper} {a : Act} {w : World} {K : Act → World → Prop} {E : Exit → Act → World → Prop} (h : o.wp P a w K E) : o.wp P a w (fun a' w' => K a' w' ∧ ∃ v, a'.tmps = (a.put o.dst v).tmps) E := by
  unfold Oper.wp at *
  generalize (execOp a.eval o).run P w = r at *
  cases r with
  | ok n w' =>
    cases n <;> simp only [Oper.upon] at h ⊢
    case value u => exact ⟨h, u, rfl⟩
    case skip => exact ⟨h, undef, rfl⟩
    case defer d => exact ⟨h, undef, by cases o.dst <;> rfl⟩
    case enter f args => exact Calls.mono h (fun e w'' he => by cases e <;> first | exact ⟨he, _, rfl⟩ | exact he)
    case row row args => exact Rows.mono h (fun u _ he => ⟨he, u, rfl⟩)
  | halt x w' => cases x <;> simp only [Oper.upon] at h ⊢ <;> exact h

theorem getD_set {x : Array Bool} {i j : Nat} (h : i ≠ j) (b : Bool) : (x.setIfInBounds i b).getD j true = x.getD j true := by
  simp [Array.getD_eq_getD_getElem?, Array.getElem?_setIfInBounds_ne h]
section
variable {P : Program} {N : Nat} {Γ : Env} {C : World → Prop} {Q : Exit → Act → World → Prop}
end
section
variable {P : Program} {N : Nat} {ops : Array Oper} {l : List Oper} {c : Code} {e : Exit} {Γ : Env} {C : World → Prop} {Q : Exit → Act → World → Prop}
theorem Wl.intro (h : ∀ a w, Fr N a Γ → C w → wpList P ops Q l a w) : Wl l P .seq ops N Γ C Q := h
theorem Wl.elim (h : Wl l P .seq ops N Γ C Q) : ∀ a w, Fr N a Γ → C w → wpList P ops Q l a w := h
theorem Wl.elimM {D : World → Prop} (h : Wl l P (.mix D) ops N Γ C Q) : ∀ a w, Fr N a Γ → D w → C w → wpE P ops C (fun a' w' => Q .normal a' w') l a w := h
theorem St.intro (h : ∀ a w, Fr N a Γ → C w → c.wp P Q a w) : St c P N Γ C Q := h
theorem St.elim (h : St c P N Γ C Q) : ∀ a w, Fr N a Γ → C w → c.wp P Q a w := h
theorem Gt.intro (h : ∀ a w, Fr N a Γ → C w → Q e a w) : Gt N e Γ C Q := h
theorem Gt.elim (h : Gt N e Γ C Q) : ∀ a w, Fr N a Γ → C w → Q e a w := h
/-- a new block, made by whatever operation -/
theorem Wl.made {rest : List Oper} {w0 : World} {H : List Blk} {d : Nat} {op : Op} {ty : TypeId} {pos : String} {af : Array Edge} {v : Nat → Value} {cs : List Value} {t : TypeId} (hd : Nat.blt d N = true)
    (hr : ∀ a w, Fr N a Γ → Hp w0 H w → (execOp a.eval ⟨some d, op, ty, pos, af, none⟩).run P w = .ok (.value (v w.heap.size)) (w.alloc (.cells cs.toArray t)))
    (h : ∀ c, w0.heap.size ≤ c → Off H c → Wl rest P .seq ops N ((d, v c) :: Γ) (Hp w0 (⟨c, cs, t⟩ :: H)) Q) : Wl (⟨some d, op, ty, pos, af, none⟩ :: rest) P .seq ops N Γ (Hp w0 H) Q :=
  Wl.eff fun a w ha hw => ⟨v w.heap.size, _, .inl (hr a w ha hw), h w.heap.size hw.upd.size (Off.lt hw.own) _ _ (ha.put hd _) (hw.alloc cs t)⟩
/-- make([]T, n) of a number that is known -/
theorem Wl.makeSlice {rest : List Oper} {w0 : World} {H : List Blk} {d : Nat} {ty : TypeId} {pos : String} {af : Array Edge} {t el sz by_ : TypeId} {z : Value} {x y : Operand} {k k' : IntKind} {n : Nat} [ht : TyD P t (.slice el)] [hs : TyS P el sz by_] [hz : TyZ P el z] (hd : Nat.blt d N = true)
    (hx : ev Γ x = some (.int k n)) (hy : ev Γ y = some (.int k' n)) (hb : Nat.ble (by_ * n) 16777216 = true) (hn : n ≤ 16777216)
    (h : ∀ c, w0.heap.size ≤ c → Off H c → Wl rest P .seq ops N ((d, .slice (some ⟨c, 0, none⟩) n n) :: Γ) (Hp w0 (⟨c, (madeCells z.cells (n * sz)).toList, el⟩ :: H)) Q) :
    Wl (⟨some d, .makeSlice t x y, ty, pos, af, none⟩ :: rest) P .seq ops N Γ (Hp w0 H) Q := by
  refine Wl.made (v := fun c => .slice (some ⟨c, 0, none⟩) n n) hd (fun a w ha hw => ?_) h
  obtain ⟨i, hi, hsz⟩ := Option.map_eq_some_iff.1 hs.out
  have hzi : i.zero = some z := by have := hz.out; rw [hi] at this; exact this
  simp only [Prod.mk.injEq] at hsz
  obtain ⟨h1, h2⟩ := hsz
  have hb' : i.bytes * n ≤ 16777216 := by rw [h2]; exact Nat.le_of_ble_eq_true hb
  have hbi : (i.bytes : Int) * (n : Int) ≤ 281474976710656 := by
    have h : ((i.bytes * n : Nat) : Int) ≤ 281474976710656 := by omega
    rwa [Int.natCast_mul] at h
  have := run_make (P := P) w t el i z ht.out hi hzi k k' n n (by omega) (Int.le_refl _) hbi (by omega)
  simp only [execOp, ha.ev hx, ha.ev hy]
  simp [this, ← h1]
end
attribute [irreducible] Wl St Gt
end Go.Pt
end
section
/-
  Concrete code by itself: calls entered, loops unrolled. For closed computations (the laws' own examples) and for calls on nothing.
-/
namespace Go.Pt

section
variable {P : Program} {N N' : Nat} {ops : Array Oper} {rest : List Oper} {Γ Γ' : Env} {C : World → Prop} {Q : Exit → Act → World → Prop} {d : Nat} {ty : TypeId} {pos : String} {af : Array Edge}
variable {fn : Func} {t u s r : Nat} {v v' v'' v3 : Value}
end

/-- a result that lies in a variable's cells -/
theorem run_results_cell {P : Program} {fn : Func} {t ty n c i : Nat} {w : World} {tmps : Array Value} {xs : List Value} [ht : TyA P ty n] (hr : fn.results = #[.cell t ty]) (hv : tmps[t]? = some (.pointer (some ⟨c, i, none⟩))) (hn : xs.length = n)
    (hc : ∀ j v, xs[j]? = some v → w.cell? (Addr.add ⟨c, i, none⟩ j) = some v) : (results fn tmps).run P w = .ok (.agg xs.toArray) w := by
  have h := run_loadA (P := P) (t := ty) hn hc
  simp [results, hr, hv, asAddr, h]
theorem Gt.outC {P : Program} {N : Nat} {Γ : Env} {w0 : World} {H : List Blk} {fn : Func} {R : Ending → World → Prop} {t ty n c i bt : Nat} {cs xs : List Value} [TyA P ty n] (hr : fn.results = #[.cell t ty]) (ht : look Γ t = some (.pointer (some ⟨c, i, none⟩))) (hm : (⟨c, cs, bt⟩ : Blk) ∈ H) (hi' : LSub cs i n xs)
    (h : ∀ w, Hp w0 H w → R (.returned (.agg xs.toArray)) w) : Gt N .ret Γ (Hp w0 H) (bodyPost P fn R) := Gt.intro fun a w ha hw => by
  have hi := hi'.out.1
  have hn := hi'.out.2
  refine ⟨ha.defers, _, run_results_cell hr (ha.get _ _ ht) hn (fun j v hj => ?_), h w hw⟩
  rw [addLit]
  refine hw.cell hm ?_
  subst hi
  rw [List.getElem?_take] at hj
  split at hj
  · simpa [List.getElem?_drop] using hj
  · cases hj
/-- what is known twice of a slot is known once -/
inductive Clean : List Nat → Env → Env → Prop
  | nil {seen : List Nat} : Clean seen [] []
  | skip {seen : List Nat} {t : Nat} {v : Value} {r r' : Env} (h : (seen.any (Nat.beq t)) = true) (hs : Clean seen r r') : Clean seen ((t, v) :: r) r'
  | keep {seen : List Nat} {t : Nat} {v : Value} {r r' : Env} (h : (seen.any (Nat.beq t)) = false) (hs : Clean (t :: seen) r r') : Clean seen ((t, v) :: r) ((t, v) :: r')
theorem Clean.look {seen : List Nat} {Γ Γ' : Env} (h : Clean seen Γ Γ') {t : Nat} {v : Value} (hs : (seen.any (Nat.beq t)) = false) (ht : Pt.look Γ' t = some v) : Pt.look Γ t = some v := by
  induction h with
  | nil => simp [Pt.look] at ht
  | @skip seen d u r r' h hr ih =>
    simp only [Pt.look]
    have : t ≠ d := fun e => by subst e; rw [h] at hs; cases hs
    rw [beqFalse this]
    exact ih hs ht
  | @keep seen d u r r' h hr ih =>
    simp only [Pt.look] at ht ⊢
    by_cases e : t = d
    · subst e; simpa using ht
    · rw [beqFalse e] at ht ⊢
      refine ih ?_ ht
      simp only [List.any_cons, Bool.or_eq_false_iff]
      exact ⟨beqFalse e, hs⟩
/-- of the range k .. the look-ups of Γ' are those of Γ -/
theorem Fr.clean {N : Nat} {a : Act} {Γ Γ' : Env} (h : Fr N a Γ) (hs : Clean [] Γ Γ') : Fr N a Γ' := ⟨h.defers, h.size, fun t v ht => h.get t v (hs.look rfl ht)⟩
def StR (c : Code) (n : Nat) (P : Program) (N : Nat) (Γ : Env) (C : World → Prop) (Q : Exit → Act → World → Prop) : Prop := ∀ a w, Fr N a Γ → C w → Code.rounds P c Q n a w
section
variable {P : Program} {N n : Nat} {Γ Γ' : Env} {C : World → Prop} {Q Q' : Exit → Act → World → Prop} {c : Code}
theorem St.loopN (n : Nat) (h : StR c n P N Γ C Q) : St (.loop c) P N Γ C Q := St.intro fun a w ha hw => wp_loop_rounds n (h a w ha hw)
theorem StR.step (hs : Clean [] Γ Γ') (h : St c P N Γ' C (Exit.then (Code.rounds P c Q n) Q)) : StR c (n + 1) P N Γ C Q := fun a w ha hw => h.elim a w (ha.clean hs) hw
theorem Gt.nextR (h : StR c n P N Γ C Q) : Gt N .normal Γ C (Exit.then (Code.rounds P c Q n) Q') := Gt.intro fun a w ha hw => h a w ha hw
end
attribute [irreducible] StR
end Go.Pt
end
section
/-
  Plain arithmetic of digits: sums, differences, products, bits, Montgomery's reduction.
-/
namespace Go.Proofs.YtfaobdakpbpkbaaDoor

/-- what lies from the i-th digit on, to a base -/
def hi (B n i : Nat) : Nat := n / B ^ i
def dg (B n i : Nat) : Nat := hi B n i % B
theorem hi_zero (B n : Nat) : hi B n 0 = n := by simp [hi]
theorem hi_succ (B n i : Nat) : hi B n (i + 1) = hi B n i / B := by unfold hi; rw [Nat.pow_succ, Nat.div_div_eq_div_mul]
theorem dg_lt {B : Nat} (h : 0 < B) (n i : Nat) : dg B n i < B := Nat.mod_lt _ h
theorem hi_top {B n k : Nat} (h : n < B ^ k) : hi B n k = 0 := Nat.div_eq_of_lt h
theorem hi_eq (B n i : Nat) : hi B n i = B * hi B n (i + 1) + dg B n i := by rw [hi_succ]; unfold dg; exact (Nat.div_add_mod _ _).symm
theorem dg_ext {B n m k : Nat} (hn : n < B ^ k) (hm : m < B ^ k) (h : ∀ i, i < k → dg B n i = dg B m i) : n = m := by
  have key : ∀ j, j ≤ k → hi B n (k - j) = hi B m (k - j) := by
    intro j
    induction j with
    | zero => intro _; rw [Nat.sub_zero, hi_top hn, hi_top hm]
    | succ j ih =>
      intro hj
      have e : k - (j + 1) + 1 = k - j := by omega
      have h1 := ih (by omega)
      rw [hi_eq B n, hi_eq B m, e, h1, h _ (by omega)]
  have := key k (Nat.le_refl _)
  rw [Nat.sub_self, hi_zero, hi_zero] at this
  exact this
theorem dg_mod {B n k i : Nat} (hi' : i < k) : dg B (n % B ^ k) i = dg B n i := by
  unfold dg hi
  have e : B ^ k = B ^ i * B ^ (k - i) := by rw [← Nat.pow_add]; congr 1; omega
  have e2 : B ^ (k - i) = B * B ^ (k - i - 1) := by rw [← Nat.pow_succ']; congr 1; omega
  rw [e, Nat.mod_mul_right_div_self, e2, Nat.mod_mul_right_mod]
theorem lt_of_hi {B a b i : Nat} (h : hi B a i < hi B b i) : a < b := by
  rcases Nat.lt_or_ge a b with h' | h'
  · exact h'
  · exact absurd (Nat.div_le_div_right (c := B ^ i) h') (Nat.not_le.2 h)
abbrev W32 : Nat := 4294967296
abbrev W256 : Nat := 115792089237316195423570985008687907853269984665640564039457584007913129639936
theorem W256_eq : W256 = W32 ^ 8 := by decide
theorem add_step {a b c i : Nat} (h : hi W32 (a + b) i = hi W32 a i + hi W32 b i + c) :
    (c + (dg W32 a i + dg W32 b i)) % 4294967296 = dg W32 (a + b) i ∧ hi W32 (a + b) (i + 1) = hi W32 a (i + 1) + hi W32 b (i + 1) + (c + (dg W32 a i + dg W32 b i)) / 4294967296 := by
  rw [hi_succ, hi_succ, hi_succ]
  unfold dg W32 at *
  generalize hi 4294967296 (a + b) i = S at *
  generalize hi 4294967296 a i = X at *
  generalize hi 4294967296 b i = Y at *
  omega
theorem sub_step {a b c i : Nat} (hi8 : i < 8) (h : hi W32 (a + W256 - b) i + hi W32 b i + c = hi W32 a i + W32 ^ (8 - i)) (hc : c ≤ 1) :
    ((dg W32 a i + 18446744073709551616 - dg W32 b i) % 18446744073709551616 + 18446744073709551616 - c) % 18446744073709551616 % 4294967296 = dg W32 (a + W256 - b) i ∧
    hi W32 (a + W256 - b) (i + 1) + hi W32 b (i + 1) + ((dg W32 a i + 18446744073709551616 - dg W32 b i) % 18446744073709551616 + 18446744073709551616 - c) % 18446744073709551616 / 9223372036854775808 = hi W32 a (i + 1) + W32 ^ (8 - (i + 1)) ∧
    ((dg W32 a i + 18446744073709551616 - dg W32 b i) % 18446744073709551616 + 18446744073709551616 - c) % 18446744073709551616 / 9223372036854775808 ≤ 1 := by
  have e : W32 ^ (8 - i) = W32 * W32 ^ (8 - (i + 1)) := by rw [← Nat.pow_succ']; congr 1; omega
  rw [e] at h
  rw [hi_succ, hi_succ, hi_succ]
  unfold dg at *
  generalize W32 ^ (8 - (i + 1)) = P at *
  unfold W32 at *
  generalize hi 4294967296 (a + W256 - b) i = S at *
  generalize hi 4294967296 a i = X at *
  generalize hi 4294967296 b i = Y at *
  omega
/-- a product's row: s = t + x·y, digit by digit -/
theorem mul_step {t x y c i : Nat} (hx : x < W32) (hc : c < W32) (h : hi W32 (t + x * y) i = hi W32 t i + x * hi W32 y i + c) :
    c + (x * dg W32 y i + dg W32 t i) < 18446744073709551616 ∧ (c + (x * dg W32 y i + dg W32 t i)) % 4294967296 = dg W32 (t + x * y) i ∧
    hi W32 (t + x * y) (i + 1) = hi W32 t (i + 1) + x * hi W32 y (i + 1) + (c + (x * dg W32 y i + dg W32 t i)) / 4294967296 ∧ (c + (x * dg W32 y i + dg W32 t i)) / 4294967296 < W32 := by
  have e := hi_eq W32 y i
  have e2 : x * hi W32 y i = W32 * (x * hi W32 y (i + 1)) + x * dg W32 y i := by
    rw [e, Nat.mul_add, ← Nat.mul_assoc, Nat.mul_comm x W32, Nat.mul_assoc]
  have hd := dg_lt (B := W32) (by decide) y i
  have hb : x * dg W32 y i ≤ 4294967295 * 4294967295 := Nat.mul_le_mul (Nat.le_of_lt_succ hx) (Nat.le_of_lt_succ hd)
  have ht := dg_lt (B := W32) (by decide) t i
  rw [e2] at h
  have et := hi_eq W32 t i
  have es := hi_eq W32 (t + x * y) i
  have hs := dg_lt (B := W32) (by decide) (t + x * y) i
  rw [show W32 = 4294967296 from rfl] at *
  generalize dg 4294967296 (t + x * y) i = ds at *
  generalize hi 4294967296 (t + x * y) i = S at *
  generalize hi 4294967296 (t + x * y) (i + 1) = S' at *
  generalize dg 4294967296 t i = dt at *
  generalize hi 4294967296 t i = T at *
  generalize hi 4294967296 t (i + 1) = T' at *
  generalize x * dg 4294967296 y i = q at *
  generalize x * hi 4294967296 y (i + 1) = p at *
  omega
theorem mod_div_bit (X k r : Nat) (h : r < k) : X % 2 ^ k / 2 ^ r % 2 = X / 2 ^ r % 2 := by
  have e : 2 ^ k = 2 ^ r * 2 ^ (k - r) := by rw [← Nat.pow_add]; congr 1; omega
  have e2 : 2 ^ (k - r) = 2 * 2 ^ (k - r - 1) := by rw [← Nat.pow_succ']; congr 1; omega
  rw [e, Nat.mod_mul_right_div_self, e2, Nat.mod_mul_right_mod]
theorem bit_dg (n i : Nat) : dg W32 n (i / 32) / 2 ^ (i % 32) % 2 = n / 2 ^ i % 2 := by
  unfold dg hi W32
  rw [show (4294967296 : Nat) = 2 ^ 32 from rfl, mod_div_bit _ _ _ (Nat.mod_lt _ (by decide)), ← Nat.pow_mul, Nat.div_div_eq_div_mul, ← Nat.pow_add]
  congr 3
  omega
theorem bit_step (n i : Nat) : n / 2 ^ i = 2 * (n / 2 ^ (i + 1)) + n / 2 ^ i % 2 := by
  rw [Nat.pow_succ, ← Nat.div_div_eq_div_mul]; omega
/-- Horner's rule modulo m -/
theorem horner (n m i : Nat) : (2 * (n / 2 ^ (i + 1) % m) + n / 2 ^ i % 2) % m = n / 2 ^ i % m := by
  conv => rhs; rw [bit_step n i]
  rw [Nat.add_mod, Nat.mul_mod, Nat.mod_mod, ← Nat.mul_mod, ← Nat.add_mod]
def half (m : Nat) : Nat := (m + 1) / 2
def rinv (m : Nat) : Nat := half m ^ 256
theorem two_half {m : Nat} (h : m % 2 = 1) : 2 * half m = m + 1 := by unfold half; omega
theorem W_rinv {m : Nat} (h : m % 2 = 1) : W256 * rinv m % m = 1 % m := by
  have e : W256 * rinv m = (m + 1) ^ 256 := by
    unfold rinv
    rw [show W256 = 2 ^ 256 from by decide, ← Nat.mul_pow, two_half h]
  rw [e, Nat.pow_mod, Nat.add_mod_left, ← Nat.pow_mod, Nat.one_pow]
theorem unW {m x y : Nat} (h : m % 2 = 1) (he : x * W256 % m = y % m) : x % m = y * rinv m % m := by
  have h1 : x * W256 * rinv m % m = y * rinv m % m := by rw [Nat.mul_mod, he, ← Nat.mul_mod]
  rw [← h1, Nat.mul_assoc, Nat.mul_mod, W_rinv h, ← Nat.mul_mod, Nat.mul_one]
theorem inW {m x : Nat} (h : m % 2 = 1) : x * W256 * rinv m % m = x % m := by
  rw [Nat.mul_assoc, Nat.mul_mod, W_rinv h, ← Nat.mul_mod, Nat.mul_one]
/-- a round towards 1/m modulo 2^32 -/
theorem inv_round {m x d : Nat} (hdd : d * d ∣ 4294967296) (h : (d : Int) ∣ (m : Int) * x - 1) :
    ((d * d : Nat) : Int) ∣ (m : Int) * ((x * ((2 + 4294967296 - m * x % 4294967296) % 4294967296) % 4294967296 : Nat) : Int) - 1 := by
  obtain ⟨k1, hk1⟩ : ∃ k1 : Int, (((2 + 4294967296 - m * x % 4294967296) % 4294967296 : Nat) : Int) = 2 - (m : Int) * x + 4294967296 * k1 := by
    have : ((m * x : Nat) : Int) = (m : Int) * x := by simp
    rw [← this]
    generalize m * x = p
    exact ⟨1 + ((p / 4294967296 : Nat) : Int) - (((2 + 4294967296 - p % 4294967296) / 4294967296 : Nat) : Int), by omega⟩
  generalize (2 + 4294967296 - m * x % 4294967296) % 4294967296 = r at *
  obtain ⟨k2, hk2⟩ : ∃ k2 : Int, ((x * r % 4294967296 : Nat) : Int) = (x : Int) * r + 4294967296 * k2 := by
    have : ((x * r : Nat) : Int) = (x : Int) * r := by simp
    rw [← this]
    generalize x * r = p
    exact ⟨- ((p / 4294967296 : Nat) : Int), by omega⟩
  rw [hk2, hk1]
  obtain ⟨u, hu⟩ := h
  obtain ⟨v, hv⟩ := hdd
  have e1 : (m : Int) * (x * (2 - m * x + 4294967296 * k1) + 4294967296 * k2) - 1 = - ((m * x - 1) * (m * x - 1)) + 4294967296 * (m * (x * k1 + k2)) := by
    simp only [Int.mul_add, Int.mul_sub, Int.sub_mul, Int.mul_one, Int.one_mul]
    have a1 : (m : Int) * (x * (m * x)) = m * x * (m * x) := by rw [Int.mul_assoc]
    have a2 : (m : Int) * (x * 2) = m * x * 2 := by rw [Int.mul_assoc]
    have a3 : (m : Int) * (x * (4294967296 * k1)) = 4294967296 * (m * (x * k1)) := by rw [← Int.mul_assoc (x : Int), Int.mul_comm (x : Int), Int.mul_assoc, ← Int.mul_assoc (m : Int), Int.mul_comm (m : Int), Int.mul_assoc]
    have a4 : (m : Int) * (4294967296 * k2) = 4294967296 * (m * k2) := by rw [← Int.mul_assoc, Int.mul_comm (m : Int), Int.mul_assoc]
    rw [a1, a2, a3, a4]
    omega
  rw [e1, hu]
  have e2 : (4294967296 : Int) = ((d * d : Nat) : Int) * (v : Int) := by rw [← Int.natCast_mul, ← hv]; rfl
  refine Int.dvd_add (Int.dvd_neg.2 ⟨u * u, ?_⟩) ⟨v * (m * (x * k1 + k2)), ?_⟩
  · simp only [Int.natCast_mul]
    rw [Int.mul_assoc, Int.mul_assoc, ← Int.mul_assoc u, Int.mul_comm u (d : Int), Int.mul_assoc]
  · rw [e2, Int.mul_assoc]
theorem neg_ok {m x : Nat} (h : ((4294967296 : Nat) : Int) ∣ (m : Int) * x - 1) : (m * ((4294967296 - x % 4294967296) % 4294967296) + 1) % 4294967296 = 0 := by
  obtain ⟨u, hu⟩ := h
  obtain ⟨k, hk⟩ : ∃ k : Int, (((4294967296 - x % 4294967296) % 4294967296 : Nat) : Int) = - (x : Int) + 4294967296 * k :=
    ⟨1 + ((x / 4294967296 : Nat) : Int) - (((4294967296 - x % 4294967296) / 4294967296 : Nat) : Int), by omega⟩
  generalize (4294967296 - x % 4294967296) % 4294967296 = r at *
  have e : ((m * r + 1 : Nat) : Int) = 4294967296 * (m * k - u) := by
    simp only [Int.natCast_add, Int.natCast_mul, hk, Int.mul_add, Int.mul_sub, Int.mul_neg]
    have a4 : (m : Int) * (4294967296 * k) = 4294967296 * (m * k) := by rw [← Int.mul_assoc, Int.mul_comm (m : Int), Int.mul_assoc]
    rw [a4]
    omega
  omega
theorem mont_q {m neg t : Nat} (h : (m * neg + 1) % 4294967296 = 0) : (t + t % 4294967296 * neg % 4294967296 * m) % 4294967296 = 0 := by
  have e : (t + t % 4294967296 * neg % 4294967296 * m) % 4294967296 = (t * (m * neg + 1)) % 4294967296 := by
    rw [Nat.add_mod, Nat.mul_mod, Nat.mod_mod, ← Nat.mul_mod, ← Nat.add_mod, Nat.mul_assoc, Nat.add_mod, Nat.mul_mod (t % 4294967296), Nat.mod_mod, ← Nat.mul_mod, ← Nat.add_mod]
    congr 1
    rw [Nat.mul_add, Nat.mul_one, Nat.mul_comm m neg, Nat.add_comm]
  rw [e, Nat.mul_mod, h, Nat.mul_zero, Nat.zero_mod]
theorem mod_succ (B a i : Nat) : a % B ^ (i + 1) = a % B ^ i + B ^ i * dg B a i := by
  unfold dg hi
  rw [Nat.pow_succ, Nat.mod_mul]
/-- one word of a, the b taken so often, the lowest word cleared -/
theorem mont_step {m a b T neg i : Nat} (hneg : (m * neg + 1) % 4294967296 = 0) (hb : b < m) (hT : T < 2 * m) (h : T * W32 ^ i % m = (a % W32 ^ i) * b % m) :
    let T1 := T + dg W32 a i * b
    let q := T1 % 4294967296 * neg % 4294967296
    (T1 + q * m) % 4294967296 = 0 ∧ (T1 + q * m) / 4294967296 < 2 * m ∧ (T1 + q * m) / 4294967296 * W32 ^ (i + 1) % m = (a % W32 ^ (i + 1)) * b % m := by
  intro T1 q
  have h0 : (T1 + q * m) % 4294967296 = 0 := mont_q hneg
  have hd := dg_lt (B := W32) (by decide) a i
  have hq : q < 4294967296 := Nat.mod_lt _ (by decide)
  have b1 : dg W32 a i * b ≤ 4294967295 * m := Nat.mul_le_mul (Nat.le_of_lt_succ hd) (Nat.le_of_lt hb)
  have b2 : q * m ≤ 4294967295 * m := Nat.mul_le_mul_right _ (by omega)
  have e : (T1 + q * m) / 4294967296 * 4294967296 = T1 + q * m := by omega
  refine ⟨h0, by omega, ?_⟩
  have e2 : (T1 + q * m) / 4294967296 * W32 ^ (i + 1) = (T1 + q * m) * W32 ^ i := by
    rw [Nat.pow_succ, Nat.mul_comm (W32 ^ i), ← Nat.mul_assoc]
    rw [show (T1 + q * m) / 4294967296 * W32 = (T1 + q * m) / 4294967296 * 4294967296 from rfl, e]
  rw [e2, mod_succ, Nat.add_mul, Nat.mul_assoc q, Nat.mul_comm m, ← Nat.mul_assoc, Nat.add_mul_mod_self_right]
  show (T + dg W32 a i * b) * W32 ^ i % m = _
  rw [Nat.add_mul, Nat.add_mul, Nat.add_mod, h, ← Nat.add_mod]
  congr 2
  rw [Nat.mul_comm _ (W32 ^ i), Nat.mul_assoc]
theorem once {m T : Nat} (h : T < 2 * m) : T % m = if m ≤ T then T - m else T := by
  split
  · rw [Nat.mod_eq_sub_mod (by assumption), Nat.mod_eq_of_lt (by omega)]
  · exact Nat.mod_eq_of_lt (by omega)
end Go.Proofs.YtfaobdakpbpkbaaDoor
end
section
/-
  Arithmetic whose results stay casts of naturals; arrays of integers as functions of the index; arrays and structs compared whole. Conditions: the values are of their types.
-/
namespace Go.Pt
open Go.RowKit
/-- the cells of n integers of the kind k, f's values -/
def cellsN (k : IntKind) (n : Nat) (f : Nat → Nat) : List Value := (List.range n).map fun j => Value.int k (f j)
/-- f, but x at i -/
def updN (f : Nat → Nat) (i x : Nat) : Nat → Nat := fun j => if j = i then x else f j
theorem cellsN_len (k : IntKind) (n : Nat) (f : Nat → Nat) : (cellsN k n f).length = n := by simp [cellsN]
theorem cellsN_get {k : IntKind} {n i : Nat} {f : Nat → Nat} (h : i < n) : (cellsN k n f)[i]? = some (.int k (f i)) := by simp [cellsN, h]
theorem cellsN_one (k : IntKind) (n : Nat) (f : Nat → Nat) : (cellsN k n f).all Value.oneCell' = true := by simp [cellsN, Value.oneCell']
theorem cellsN_congr {k : IntKind} {n : Nat} {f g : Nat → Nat} (h : ∀ j, j < n → f j = g j) : cellsN k n f = cellsN k n g := by
  unfold cellsN
  apply List.map_congr_left
  intro j hj
  rw [h j (List.mem_range.1 hj)]
theorem lset_set {l : List Value} {i : Nat} {v : Value} (h : i < l.length) : LSet l i v (l.set i v) := by
  induction l generalizing i with
  | nil => simp at h
  | cons x r ih =>
    cases i with
    | zero => exact .z
    | succ i => exact .s (ih (by simpa using h))
theorem cellsN_set {k : IntKind} {n i x : Nat} {f : Nat → Nat} (h : i < n) : LSet (cellsN k n f) i (.int k x) (cellsN k n (updN f i x)) := by
  have e : cellsN k n (updN f i x) = (cellsN k n f).set i (.int k x) := by
    apply List.ext_getElem
    · simp [cellsN]
    · intro j h1 h2
      rw [List.getElem_set]
      simp only [cellsN, List.getElem_map, List.getElem_range, updN]
      by_cases e : i = j
      · subst e; simp
      · rw [if_neg e, if_neg (fun h => e h.symm)]
  rw [e]
  exact lset_set (by rw [cellsN_len]; exact h)
/-- g's values up to i, f's behind -/
def fillN (f g : Nat → Nat) (i : Nat) : Nat → Nat := fun j => if j < i then g j else f j
theorem fillN_zero (f g : Nat → Nat) : fillN f g 0 = f := by funext j; simp [fillN]
theorem fillN_step (f g : Nat → Nat) (i : Nat) : updN (fillN f g i) i (g i) = fillN f g (i + 1) := by
  funext j
  unfold updN fillN
  by_cases e : j = i
  · subst e; simp
  · rw [if_neg e]
    by_cases h : j < i
    · rw [if_pos h, if_pos (by omega)]
    · rw [if_neg h, if_neg (by omega)]
theorem fillN_end (k : IntKind) (n : Nat) (f g : Nat → Nat) : cellsN k n (fillN f g n) = cellsN k n g := cellsN_congr fun j hj => by unfold fillN; rw [if_pos hj]
theorem fillN_at {f g : Nat → Nat} {i j : Nat} (h : i ≤ j) : fillN f g i j = f j := if_neg (by omega)
theorem fillN_lo {f g : Nat → Nat} {i j : Nat} (h : j < i) : fillN f g i j = g j := if_pos h
theorem z8 : (Value.agg #[.int .u32 0, .int .u32 0, .int .u32 0, .int .u32 0, .int .u32 0, .int .u32 0, .int .u32 0, .int .u32 0]).cells.toList = cellsN .u32 8 fun _ => 0 := rfl
theorem z10 : (Value.agg #[.int .u32 0, .int .u32 0, .int .u32 0, .int .u32 0, .int .u32 0, .int .u32 0, .int .u32 0, .int .u32 0, .int .u32 0, .int .u32 0]).cells.toList = cellsN .u32 10 fun _ => 0 := rfl
theorem one8 : [Value.int .u32 1, .int .u32 0, .int .u32 0, .int .u32 0, .int .u32 0, .int .u32 0, .int .u32 0, .int .u32 0] = cellsN .u32 8 (Go.Proofs.YtfaobdakpbpkbaaDoor.dg Go.Proofs.YtfaobdakpbpkbaaDoor.W32 1) := rfl
theorem two8 : [Value.int .u32 2, .int .u32 0, .int .u32 0, .int .u32 0, .int .u32 0, .int .u32 0, .int .u32 0, .int .u32 0] = cellsN .u32 8 (Go.Proofs.YtfaobdakpbpkbaaDoor.dg Go.Proofs.YtfaobdakpbpkbaaDoor.W32 2) := rfl
theorem zero8 : [Value.int .u32 0, .int .u32 0, .int .u32 0, .int .u32 0, .int .u32 0, .int .u32 0, .int .u32 0, .int .u32 0] = cellsN .u32 8 (Go.Proofs.YtfaobdakpbpkbaaDoor.dg Go.Proofs.YtfaobdakpbpkbaaDoor.W32 0) := rfl
theorem run_neq_agg {P : Program} (w : World) {t : TypeId} {xs ys : Array Value} {la lb : List Lit} (hk : P.keyTypeAt 8 t = true) (fx : (Value.agg xs).formed P t = true) (fy : (Value.agg ys).formed P t = true) (hx : P.keyLits 8 t xs.toList = some la) (hy : P.keyLits 8 t ys.toList = some lb) :
    ∃ r : Bool, (binOp .eql t (.agg xs) (.agg ys)).run P w = .ok (.bool r) w ∧ (binOp .neq t (.agg xs) (.agg ys)).run P w = .ok (.bool (!r)) w ∧ (r = true ↔ la = lb) := by
  obtain ⟨r, hr, hiff⟩ := run_equalIn_deep 9992 8 t hk w 8 8 (.agg xs) (.agg ys) la lb fx fy hx hy
  refine ⟨r, ?_, ?_, hiff⟩ <;>
  · have : (Op.equal t (.agg xs) (.agg ys)).run P w = .ok r w := hr
    simp [binOp, this]
theorem mapM_some {α β : Type} {f : α → Option β} {g : α → β} {l : List α} (h : ∀ x ∈ l, f x = some (g x)) : l.mapM f = some (l.map g) := by
  induction l with
  | nil => rfl
  | cons x r ih => rw [List.mapM_cons, h x (by simp), ih fun y hy => h y (by simp [hy])]; rfl
theorem flat1 {α β : Type} (h : α → β) (l : List α) : (l.map fun i => [h i]).flatten = l.map h := by
  induction l with
  | nil => rfl
  | cons x r ih => simp [ih]
theorem klInt {P : Program} {d t : Nat} {q : IntKind} {n : Int} (ht : P.underlying t = some (.int q)) (hn : q.min ≤ n ∧ n ≤ q.max) : P.keyLits (d + 1) t [.int q n] = some [.int q n] := by
  simp [Program.keyLits, ht, Lit.wf, hn.1, hn.2]
theorem klInts {P : Program} {d t n e : Nat} {q : IntKind} (ht : P.underlying t = some (.array n e)) (he : P.underlying e = some (.int q)) (hs : P.cellsOf t = n) (hse : P.cellsOf e = 1) (f : Nat → Nat) (hf : ∀ j, j < n → q.min ≤ (f j : Int) ∧ (f j : Int) ≤ q.max) :
    P.keyLits (d + 2) t (cellsN q n f) = some ((List.range n).map fun j => Lit.int q (f j)) := by
  show P.keyLits ((d + 1) + 1) t _ = _
  unfold Program.keyLits
  simp only [ht]
  rw [if_pos (by rw [cellsN_len, hs]), mapM_some (g := fun i => [Lit.int q (f i)]) ?_]
  · simp only [Option.map_some, flat1]
  · intro i hi
    have hi' : i < n := by simpa using hi
    rw [hse, Nat.mul_one]
    have e1 : ((cellsN q n f).drop i).take 1 = [.int q (f i)] := by
      have h2 : i < (cellsN q n f).length := by rw [cellsN_len]; exact hi'
      rw [List.drop_eq_getElem_cons h2]
      simp [cellsN]
    rw [e1]
    exact klInt he (hf i hi')
theorem guard_agg {op : BinOp} {t : TypeId} {P : Program} (hg : P.eqGuardType P.depth t = false) (x y : Operand) (a b : Array Value) (w : World) : (eqGuard op t x y (.agg a) (.agg b)).run P w = .ok () w := by
  cases op <;> simp [eqGuard, hg]
theorem run_ints {P : Program} (w : World) {t e n : Nat} {q : IntKind} (ht : P.underlying t = some (.array n e)) (he : P.underlying e = some (.int q)) (hs : P.cellsOf t = n) (hse : P.cellsOf e = 1) (hk : P.keyTypeAt 8 t = true) (f g : Nat → Nat)
    (hf : ∀ j, j < n → q.min ≤ (f j : Int) ∧ (f j : Int) ≤ q.max) (hg : ∀ j, j < n → q.min ≤ (g j : Int) ∧ (g j : Int) ≤ q.max) :
    ∃ r : Bool, (binOp .eql t (.agg (cellsN q n f).toArray) (.agg (cellsN q n g).toArray)).run P w = .ok (.bool r) w ∧ (binOp .neq t (.agg (cellsN q n f).toArray) (.agg (cellsN q n g).toArray)).run P w = .ok (.bool (!r)) w ∧ (r = true ↔ ∀ j, j < n → f j = g j) := by
  have form (f : Nat → Nat) : (Value.agg (cellsN q n f).toArray).formed P t = true := by
    simp [Value.formed, ht, hs, cellsN_len]
  obtain ⟨r, h1, h2, hiff⟩ := run_neq_agg (P := P) w (t := t) hk (form f) (form g) (klInts ht he hs hse f hf) (klInts ht he hs hse g hg)
  refine ⟨r, h1, h2, hiff.trans ⟨fun h j hj => ?_, fun h => ?_⟩⟩
  · have := congrArg (fun l => l[j]?) h
    simp [hj] at this
    exact Int.ofNat_inj.1 this
  · apply List.map_congr_left
    intro j hj
    rw [h j (List.mem_range.1 hj)]

section
variable {P : Program} {md : Md} {N : Nat} {ops : Array Oper} {rest : List Oper} {Γ : Env} {C : World → Prop} {Q : Exit → Act → World → Prop} {d : Nat} {ty : TypeId} {pos : String} {af : Array Edge} {t u : TypeId} {x y : Operand}
section
variable {m n : Nat}
theorem Wl.addNU (hd : Nat.blt d N = true) (hx : ev Γ x = some (.int .u64 (m : Int))) (hy : ev Γ y = some (.int .u64 (n : Int))) (hb : m + n < 18446744073709551616) (h : Wl rest P md ops N ((d, .int .u64 ((m + n : Nat) : Int)) :: Γ) C Q) : Wl (⟨some d, .binOp .add t x y u, ty, pos, af, none⟩ :: rest) P md ops N Γ C Q :=
  Wl.addU hd hx hy (by omega) (by rw [← Int.natCast_add]; exact h)
theorem Wl.mulNU (hd : Nat.blt d N = true) (hx : ev Γ x = some (.int .u64 (m : Int))) (hy : ev Γ y = some (.int .u64 (n : Int))) (hb : m * n < 18446744073709551616) (h : Wl rest P md ops N ((d, .int .u64 ((m * n : Nat) : Int)) :: Γ) C Q) : Wl (⟨some d, .binOp .mul t x y u, ty, pos, af, none⟩ :: rest) P md ops N Γ C Q :=
  Wl.mul hd hx hy (by rw [← Int.natCast_mul, IntWalk.u64_in _ (by omega)]; exact h)
theorem Wl.mulNI (hd : Nat.blt d N = true) (hx : ev Γ x = some (.int .i64 (m : Int))) (hy : ev Γ y = some (.int .i64 (n : Int))) (hb : m * n < 9223372036854775808) (h : Wl rest P md ops N ((d, .int .i64 ((m * n : Nat) : Int)) :: Γ) C Q) : Wl (⟨some d, .binOp .mul t x y u, ty, pos, af, none⟩ :: rest) P md ops N Γ C Q :=
  Wl.mul hd hx hy (by rw [← Int.natCast_mul, IntWalk.i64_in _ (by omega)]; exact h)
theorem Wl.addNI (hd : Nat.blt d N = true) (hx : ev Γ x = some (.int .i64 (m : Int))) (hy : ev Γ y = some (.int .i64 (n : Int))) (hb : m + n < 9223372036854775808) (h : Wl rest P md ops N ((d, .int .i64 ((m + n : Nat) : Int)) :: Γ) C Q) : Wl (⟨some d, .binOp .add t x y u, ty, pos, af, none⟩ :: rest) P md ops N Γ C Q :=
  Wl.addI hd hx hy (by omega) (by rw [← Int.natCast_add]; exact h)
theorem Wl.shlV {k' : IntKind} (hd : Nat.blt d N = true) (hx : ev Γ x = some (.int .u32 (m : Int))) (hy : ev Γ y = some (.int k' (n : Int))) (hn : n ≤ 32) (h : Wl rest P md ops N ((d, .int .u32 ((m * 2 ^ n % 4294967296 : Nat) : Int)) :: Γ) C Q) : Wl (⟨some d, .binOp .shl t x y u, ty, pos, af, none⟩ :: rest) P md ops N Γ C Q :=
  Wl.shl hd hx hy (by omega) (by
    rw [Int.toNat_natCast, show min n IntKind.u32.bits = n from Nat.min_eq_left hn, IntKind.wrap_u32]
    have e : (m : Int) * 2 ^ n % 4294967296 = ((m * 2 ^ n % 4294967296 : Nat) : Int) := by simp
    rw [e]; exact h)
theorem Wl.mulN32 (hd : Nat.blt d N = true) (hx : ev Γ x = some (.int .u32 (m : Int))) (hy : ev Γ y = some (.int .u32 (n : Int))) (h : Wl rest P md ops N ((d, .int .u32 ((m * n % 4294967296 : Nat) : Int)) :: Γ) C Q) : Wl (⟨some d, .binOp .mul t x y u, ty, pos, af, none⟩ :: rest) P md ops N Γ C Q :=
  Wl.mul hd hx hy (by rw [← Int.natCast_mul, IntKind.wrap_u32]; exact h)
theorem Wl.addN32 (hd : Nat.blt d N = true) (hx : ev Γ x = some (.int .u32 (m : Int))) (hy : ev Γ y = some (.int .u32 (n : Int))) (h : Wl rest P md ops N ((d, .int .u32 ((((m + n) % 4294967296 : Nat)) : Int)) :: Γ) C Q) : Wl (⟨some d, .binOp .add t x y u, ty, pos, af, none⟩ :: rest) P md ops N Γ C Q :=
  Wl.add hd hx hy (by rw [← Int.natCast_add, IntKind.wrap_u32]; exact h)
theorem Wl.subN32 (hd : Nat.blt d N = true) (hx : ev Γ x = some (.int .u32 (m : Int))) (hy : ev Γ y = some (.int .u32 (n : Int))) (hn : n ≤ 4294967296) (h : Wl rest P md ops N ((d, .int .u32 (((m + 4294967296 - n) % 4294967296 : Nat) : Int)) :: Γ) C Q) : Wl (⟨some d, .binOp .sub t x y u, ty, pos, af, none⟩ :: rest) P md ops N Γ C Q :=
  Wl.sub' hd hx hy (by rw [IntKind.wrap_u32, show ((m : Int) - n) % 4294967296 = (((m + 4294967296 - n) % 4294967296 : Nat) : Int) by omega]; exact h)
theorem Wl.subNU (hd : Nat.blt d N = true) (hx : ev Γ x = some (.int .u64 (m : Int))) (hy : ev Γ y = some (.int .u64 (n : Int))) (hn : n ≤ 18446744073709551616) (h : Wl rest P md ops N ((d, .int .u64 (((m + 18446744073709551616 - n) % 18446744073709551616 : Nat) : Int)) :: Γ) C Q) : Wl (⟨some d, .binOp .sub t x y u, ty, pos, af, none⟩ :: rest) P md ops N Γ C Q :=
  Wl.sub' hd hx hy (by rw [IntKind.wrap_u64, show ((m : Int) - n) % 18446744073709551616 = (((m + 18446744073709551616 - n) % 18446744073709551616 : Nat) : Int) by omega]; exact h)
theorem Wl.negN32 (hd : Nat.blt d N = true) (hx : ev Γ x = some (.int .u32 (m : Int))) (h : Wl rest P md ops N ((d, .int .u32 (((4294967296 - m % 4294967296) % 4294967296 : Nat) : Int)) :: Γ) C Q) : Wl (⟨some d, .unOp .neg t x, ty, pos, af, none⟩ :: rest) P md ops N Γ C Q :=
  Wl.neg hd hx (by rw [IntKind.wrap_u32, show ((0 : Int) - m) % 4294967296 = (((4294967296 - m % 4294967296) % 4294967296 : Nat) : Int) by omega]; exact h)
theorem Wl.convN32 {s t : TypeId} {k : IntKind} [hs : TyD P s (.int k)] [ht : TyD P t (.int .u32)] (hd : Nat.blt d N = true) (hx : ev Γ x = some (.int k (m : Int))) (h : Wl rest P md ops N ((d, .int .u32 ((m % 4294967296 : Nat) : Int)) :: Γ) C Q) : Wl (⟨some d, .convert s t x, ty, pos, af, none⟩ :: rest) P md ops N Γ C Q :=
  Wl.convI hd hx (by rw [IntKind.wrap_u32]; exact h)
theorem Wl.convNU {s t : TypeId} {k : IntKind} [hs : TyD P s (.int k)] [ht : TyD P t (.int .u64)] (hd : Nat.blt d N = true) (hx : ev Γ x = some (.int k (m : Int))) (hb : m < 18446744073709551616) (h : Wl rest P md ops N ((d, .int .u64 (m : Int)) :: Γ) C Q) : Wl (⟨some d, .convert s t x, ty, pos, af, none⟩ :: rest) P md ops N Γ C Q :=
  Wl.convU64 hd hx (by omega) h
theorem Wl.shr32 {k : IntKind} (hd : Nat.blt d N = true) (hx : ev Γ x = some (.int .u64 (m : Int))) (hy : ev Γ y = some (.int k 32)) (h : Wl rest P md ops N ((d, .int .u64 ((m / 4294967296 : Nat) : Int)) :: Γ) C Q) : Wl (⟨some d, .binOp .shr t x y u, ty, pos, af, none⟩ :: rest) P md ops N Γ C Q :=
  Wl.shr hd hx hy (by decide) (by
    rw [show (2 : Int) ^ min (Int.toNat 32) IntKind.u64.bits = 4294967296 from rfl, Int.fdiv_eq_ediv_of_nonneg _ (by decide)]; exact h)
theorem Wl.shr63 {k : IntKind} (hd : Nat.blt d N = true) (hx : ev Γ x = some (.int .u64 (m : Int))) (hy : ev Γ y = some (.int k 63)) (h : Wl rest P md ops N ((d, .int .u64 ((m / 9223372036854775808 : Nat) : Int)) :: Γ) C Q) : Wl (⟨some d, .binOp .shr t x y u, ty, pos, af, none⟩ :: rest) P md ops N Γ C Q :=
  Wl.shr hd hx hy (by decide) (by
    rw [show (2 : Int) ^ min (Int.toNat 63) IntKind.u64.bits = 9223372036854775808 from rfl, Int.fdiv_eq_ediv_of_nonneg _ (by decide)]; exact h)
/-- shifted by a number that is no constant -/
theorem Wl.shrV {k k' : IntKind} (hd : Nat.blt d N = true) (hx : ev Γ x = some (.int k (m : Int))) (hy : ev Γ y = some (.int k' (n : Int))) (hn : n ≤ k.bits) (h : Wl rest P md ops N ((d, .int k ((m / 2 ^ n : Nat) : Int)) :: Γ) C Q) : Wl (⟨some d, .binOp .shr t x y u, ty, pos, af, none⟩ :: rest) P md ops N Γ C Q :=
  Wl.shr hd hx hy (by omega) (by
    rw [Int.toNat_natCast, Nat.min_eq_left hn, Int.fdiv_eq_ediv_of_nonneg _ (Int.le_of_lt (Int.pow_pos (by decide)))]
    have e : (m : Int) / 2 ^ n = ((m / 2 ^ n : Nat) : Int) := by simp
    rw [e]; exact h)
theorem bits_and1 (k : IntKind) (hk : 1 ≤ k.bits) (hw : ∀ n : Int, 0 ≤ n → n < 2 → k.wrap n = n) (m : Nat) : bits .and k (m : Int) 1 = ((m % 2 : Nat) : Int) := by
  unfold bits
  simp only
  have e : ((BitVec.ofInt k.bits (m : Int)) &&& (BitVec.ofInt k.bits 1)).toNat = m % 2 := by
    rw [show (1 : Int) = ((1 : Nat) : Int) from rfl, BitVec.ofInt_natCast, BitVec.ofInt_natCast, BitVec.toNat_and, BitVec.toNat_ofNat, BitVec.toNat_ofNat]
    have h2 : 1 % 2 ^ k.bits = 1 := Nat.mod_eq_of_lt (Nat.one_lt_two_pow (by omega))
    rw [h2, Nat.and_one_is_mod]
    have e2 : 2 ^ k.bits = 2 * 2 ^ (k.bits - 1) := by rw [← Nat.pow_succ']; congr 1; omega
    rw [e2, Nat.mod_mul_right_mod]
  rw [e, hw _ (by omega) (by omega)]
theorem Wl.and1 {k : IntKind} (hd : Nat.blt d N = true) (hx : ev Γ x = some (.int k (m : Int))) (hy : ev Γ y = some (.int k 1)) (hk : Nat.ble 1 k.bits = true) (hw : ∀ n : Int, 0 ≤ n → n < 2 → k.wrap n = n) (h : Wl rest P md ops N ((d, .int k ((m % 2 : Nat) : Int)) :: Γ) C Q) : Wl (⟨some d, .binOp .and t x y u, ty, pos, af, none⟩ :: rest) P md ops N Γ C Q :=
  Wl.and hd hx hy (by rw [bits_and1 k (Nat.le_of_ble_eq_true hk) hw]; exact h)
theorem wrap2_u32 : ∀ n : Int, 0 ≤ n → n < 2 → IntKind.u32.wrap n = n := fun n h1 h2 => by rw [IntKind.wrap_u32]; omega
theorem Wl.quoN {k : IntKind} (hd : Nat.blt d N = true) (hx : ev Γ x = some (.int k (m : Int))) (hy : ev Γ y = some (.int k (n : Int))) (hn : n ≠ 0) (hw : k.wrap ((m / n : Nat) : Int) = ((m / n : Nat) : Int)) (h : Wl rest P md ops N ((d, .int k ((m / n : Nat) : Int)) :: Γ) C Q) : Wl (⟨some d, .binOp .quo t x y u, ty, pos, af, none⟩ :: rest) P md ops N Γ C Q :=
  Wl.quo hd hx hy (by omega) (by rw [Int.tdiv_eq_ediv_of_nonneg (by omega), ← Int.natCast_ediv, hw]; exact h)
theorem Wl.remN {k : IntKind} (hd : Nat.blt d N = true) (hx : ev Γ x = some (.int k (m : Int))) (hy : ev Γ y = some (.int k (n : Int))) (hn : n ≠ 0) (h : Wl rest P md ops N ((d, .int k ((m % n : Nat) : Int)) :: Γ) C Q) : Wl (⟨some d, .binOp .rem t x y u, ty, pos, af, none⟩ :: rest) P md ops N Γ C Q :=
  Wl.rem hd hx hy (by omega) (by rw [Int.tmod_eq_emod_of_nonneg (by omega), ← Int.natCast_emod]; exact h)
end
/-- an element of an array behind its address -/
theorem Wl.indexA {e by_ n : TypeId} [ht : TyD P t (.array n e)] [TyS P e 1 by_] {i : Operand} {b : Nat} {k : IntKind} {j : Nat} (hd : Nat.blt d N = true) (hx : ev Γ x = some (.pointer (some ⟨b, 0, none⟩))) (hi : ev Γ i = some (.int k (j : Int)))
    (hj : j < n) (h : Wl rest P md ops N ((d, .pointer (some ⟨b, j, none⟩)) :: Γ) C Q) : Wl (⟨some d, .indexAddr t x i, ty, pos, af, none⟩ :: rest) P md ops N Γ C Q :=
  Wl.indexArr hd hx hi ⟨by omega, by omega⟩ (by rw [Int.toNat_natCast, Nat.mul_one, Nat.zero_add]; exact h)
theorem Wl.indexAo {e by_ n : TypeId} [ht : TyD P t (.array n e)] [TyS P e 1 by_] {i : Operand} {b o : Nat} {k : IntKind} {j : Nat} (hd : Nat.blt d N = true) (hx : ev Γ x = some (.pointer (some ⟨b, o, none⟩))) (hi : ev Γ i = some (.int k (j : Int)))
    (hj : j < n) (h : Wl rest P md ops N ((d, .pointer (some ⟨b, o + j, none⟩)) :: Γ) C Q) : Wl (⟨some d, .indexAddr t x i, ty, pos, af, none⟩ :: rest) P md ops N Γ C Q :=
  Wl.indexArr hd hx hi ⟨by omega, by omega⟩ (by rw [Int.toNat_natCast, Nat.mul_one]; exact h)
theorem Wl.loadN {w0 : World} {H : List Blk} {bt : TypeId} [TyC P t] {c j n : Nat} {k : IntKind} {f : Nat → Nat} (hd : Nat.blt d N = true) (hx : ev Γ x = some (.pointer (some ⟨c, j, none⟩))) (hm : (⟨c, cellsN k n f, bt⟩ : Blk) ∈ H) (hj : j < n)
    (h : Wl rest P md ops N ((d, .int k (f j)) :: Γ) (Hp w0 H) Q) : Wl (⟨some d, .load t x, ty, pos, af, none⟩ :: rest) P md ops N Γ (Hp w0 H) Q := Wl.loadH hd hx hm (cellsN_get hj) h
theorem Wl.storeN {w0 : World} {H H' : List Blk} {bt by_ : TypeId} [TyS P t 1 by_] {c j n v : Nat} {k : IntKind} {f : Nat → Nat} (hx : ev Γ x = some (.pointer (some ⟨c, j, none⟩))) (hy : ev Γ y = some (.int k (v : Int))) (hs : HSet c (cellsN k n f) (cellsN k n (updN f j v)) bt H H') (hj : j < n)
    (h : Wl rest P .seq ops N Γ (Hp w0 H') Q) : Wl (⟨none, .store t x y, ty, pos, af, none⟩ :: rest) P .seq ops N Γ (Hp w0 H) Q := Wl.store hx hy rfl hs (cellsN_set hj) h
/-- arrays of integers compared whole -/
theorem Wl.eqlA {e n : Nat} {q : IntKind} {f g : Nat → Nat} [ht : TyD P t (.array n e)] [he : TyD P e (.int q)] (hd : Nat.blt d N = true) (hx : ev Γ x = some (.agg (cellsN q n f).toArray)) (hy : ev Γ y = some (.agg (cellsN q n g).toArray)) (hs : P.cellsOf t = n) (hse : P.cellsOf e = 1) (hk : P.keyTypeAt 8 t = true) (hg0 : P.eqGuardType P.depth t = false)
    (hf : ∀ j, j < n → q.min ≤ (f j : Int) ∧ (f j : Int) ≤ q.max) (hg : ∀ j, j < n → q.min ≤ (g j : Int) ∧ (g j : Int) ≤ q.max) (b : Bool) (hb : b = true ↔ ∀ j, j < n → f j = g j) (h : Wl rest P md ops N ((d, .bool b) :: Γ) C Q) : Wl (⟨some d, .binOp .eql t x y u, ty, pos, af, none⟩ :: rest) P md ops N Γ C Q :=
  Wl.val hd (fun a w ha _ => by
    obtain ⟨r, h1, _, h3⟩ := run_ints (P := P) w ht.out he.out hs hse hk f g hf hg
    have : r = b := by rw [Bool.eq_iff_iff, h3, hb]
    subst this
    simp only [execOp, ha.ev hx, ha.ev hy, pure_bind, Sem.run_bind, guard_agg (P := P) hg0, Result.andThen_ok, h1]; rfl) h
theorem Wl.neqA {e n : Nat} {q : IntKind} {f g : Nat → Nat} [ht : TyD P t (.array n e)] [he : TyD P e (.int q)] (hd : Nat.blt d N = true) (hx : ev Γ x = some (.agg (cellsN q n f).toArray)) (hy : ev Γ y = some (.agg (cellsN q n g).toArray)) (hs : P.cellsOf t = n) (hse : P.cellsOf e = 1) (hk : P.keyTypeAt 8 t = true) (hg0 : P.eqGuardType P.depth t = false)
    (hf : ∀ j, j < n → q.min ≤ (f j : Int) ∧ (f j : Int) ≤ q.max) (hg : ∀ j, j < n → q.min ≤ (g j : Int) ∧ (g j : Int) ≤ q.max) (b : Bool) (hb : b = true ↔ ∀ j, j < n → f j = g j) (h : Wl rest P md ops N ((d, .bool (!b)) :: Γ) C Q) : Wl (⟨some d, .binOp .neq t x y u, ty, pos, af, none⟩ :: rest) P md ops N Γ C Q :=
  Wl.val hd (fun a w ha _ => by
    obtain ⟨r, _, h1, h3⟩ := run_ints (P := P) w ht.out he.out hs hse hk f g hf hg
    have : r = b := by rw [Bool.eq_iff_iff, h3, hb]
    subst this
    simp only [execOp, ha.ev hx, ha.ev hy, pure_bind, Sem.run_bind, guard_agg (P := P) hg0, Result.andThen_ok, h1]; rfl) h
end
attribute [irreducible] cellsN
theorem LOver.whole {l xs : List Value} (h : l.length = xs.length) : LOver l xs xs := by
  induction xs generalizing l with
  | nil => cases l with
    | nil => exact .nil
    | cons _ _ => simp at h
  | cons x r ih => cases l with
    | nil => simp at h
    | cons y s => exact .cons (ih (by simpa using h))
theorem LSub.whole {l : List Value} {n : Nat} (h : l.length = n) : LSub l 0 n l := by
  induction l generalizing n with
  | nil => subst h; exact .z
  | cons x r ih => subst h; exact .t (ih rfl)
section
variable {P : Program} {md : Md} {N : Nat} {ops : Array Oper} {rest : List Oper} {Γ : Env} {Q : Exit → Act → World → Prop} {d : Nat} {ty : TypeId} {pos : String} {af : Array Edge} {t : TypeId} {x y : Operand}
theorem Wl.storeW {w0 : World} {H H' : List Blk} {n m bt : TypeId} [ht : TyA P t n] {c : Nat} {k : IntKind} {f : Nat → Nat} {cs : List Value} (hx : ev Γ x = some (.pointer (some ⟨c, 0, none⟩))) (hy : ev Γ y = some (.agg (cellsN k m f).toArray)) (hs : HSet c cs (cellsN k m f) bt H H') (hn : Nat.beq m n = true) (hl : cs.length = m)
    (h : Wl rest P .seq ops N Γ (Hp w0 H') Q) : Wl (⟨none, .store t x y, ty, pos, af, none⟩ :: rest) P .seq ops N Γ (Hp w0 H) Q :=
  Wl.storeA hx hy ((cellsN_len k m f).trans (Nat.eq_of_beq_eq_true hn)) (cellsN_one k m f) hs (.z (LOver.whole (by rw [hl, cellsN_len]))) h
theorem Wl.boxN {w0 : World} {H : List Blk} {k : IntKind} {n : Nat} {f : Nat → Nat} (hd : Nat.blt d N = true) (hx : ev Γ x = some (.agg (cellsN k n f).toArray))
    (h : ∀ c, w0.heap.size ≤ c → Off H c → Wl rest P .seq ops N ((d, .pointer (some ⟨c, 0, none⟩)) :: Γ) (Hp w0 (⟨c, cellsN k n f, t⟩ :: H)) Q) : Wl (⟨some d, .box t x, ty, pos, af, none⟩ :: rest) P .seq ops N Γ (Hp w0 H) Q := Wl.boxA hd hx h
theorem Wl.allocN {w0 : World} {H : List Blk} {k : IntKind} {n : Nat} {f : Nat → Nat} {z : Value} [TyZ P t z] (hd : Nat.blt d N = true) (hz : z.cells.toList = cellsN k n f)
    (h : ∀ c, w0.heap.size ≤ c → Off H c → Wl rest P .seq ops N ((d, .pointer (some ⟨c, 0, none⟩)) :: Γ) (Hp w0 (⟨c, cellsN k n f, t⟩ :: H)) Q) : Wl (⟨some d, .alloc t, ty, pos, af, none⟩ :: rest) P .seq ops N Γ (Hp w0 H) Q := Wl.alloc hd fun c hc ho => by rw [hz]; exact h c hc ho
theorem Wl.buildN {n e sz by_ m : TypeId} {parts : Array (Nat × Operand)} {ps : List (Nat × Value)} {z cs : List Value} {k : IntKind} {f : Nat → Nat} [TyD P t (.array n e)] [TyS P e sz by_] [TyZ P t (.agg z.toArray)] (hd : Nat.blt d N = true) (hp : Parts Γ parts.toList ps) (hF : Fills (fun i => some (i * sz, sz)) z ps cs) (he : cs = cellsN k m f)
    {C : World → Prop} (h : Wl rest P md ops N ((d, .agg (cellsN k m f).toArray) :: Γ) C Q) : Wl (⟨some d, .build t parts, ty, pos, af, none⟩ :: rest) P md ops N Γ C Q := Wl.buildA hd hp hF (by rw [he]; exact h)
theorem Wl.loadW {w0 : World} {H : List Blk} {n m bt : TypeId} [TyA P t n] {c : Nat} {k : IntKind} {f : Nat → Nat} (hd : Nat.blt d N = true) (hx : ev Γ x = some (.pointer (some ⟨c, 0, none⟩))) (hm : (⟨c, cellsN k m f, bt⟩ : Blk) ∈ H) (hn : Nat.beq m n = true)
    (h : Wl rest P md ops N ((d, .agg (cellsN k m f).toArray) :: Γ) (Hp w0 H) Q) : Wl (⟨some d, .load t x, ty, pos, af, none⟩ :: rest) P md ops N Γ (Hp w0 H) Q :=
  Wl.loadAH hd hx hm (LSub.whole ((cellsN_len k m f).trans (Nat.eq_of_beq_eq_true hn))) h
end
theorem Gt.outCT {P : Program} {N : Nat} {Γ : Env} {w0 : World} {H : List Blk} {fn : Func} {R : Ending → World → Prop} {t u ty n c i bt : Nat} {v : Value} {cs xs : List Value} (hr : fn.results = #[.cell t ty, .tmp u]) (hT : TyA P ty n) (ht : look Γ t = some (.pointer (some ⟨c, i, none⟩))) (hu : look Γ u = some v) (hm : (⟨c, cs, bt⟩ : Blk) ∈ H) (hi' : LSub cs i n xs)
    (h : ∀ w, Hp w0 H w → R (.returned (.tuple #[.agg xs.toArray, v])) w) : Gt N .ret Γ (Hp w0 H) (bodyPost P fn R) := Gt.intro fun a w ha hw => by
  have hi := hi'.out.1
  have hn := hi'.out.2
  refine ⟨ha.defers, _, ?_, h w hw⟩
  have hl := run_loadA (P := P) (t := ty) (w := w) (a := ⟨c, i, none⟩) hn (fun j v hj => by
    rw [addLit]
    refine hw.cell hm ?_
    subst hi
    rw [List.getElem?_take] at hj
    split at hj
    · simpa [List.getElem?_drop] using hj
    · cases hj)
  rw [results_cell_tmp hr]
  simp [ha.get _ _ ht, ha.get _ _ hu, asAddr, hl]
theorem Gt.outC' {P : Program} {N : Nat} {Γ : Env} {w0 : World} {H : List Blk} {fn : Func} {R : Ending → World → Prop} {t ty n c i bt : Nat} {cs xs : List Value} (hr : fn.results = #[.cell t ty]) (hT : TyA P ty n) (ht : look Γ t = some (.pointer (some ⟨c, i, none⟩))) (hm : (⟨c, cs, bt⟩ : Blk) ∈ H) (hi' : LSub cs i n xs)
    (h : ∀ w, Hp w0 H w → R (.returned (.agg xs.toArray)) w) : Gt N .ret Γ (Hp w0 H) (bodyPost P fn R) := Gt.outC hr ht hm hi' h
end Go.Pt
end
section
/-
  SHA-256 as a plain function, in the program's spelling; words of 32 bits as numbers. Conditions: none.
-/
namespace Sha
open Go.Pt
def X (m n : Nat) : Nat := (m ^^^ n) % 4294967296
def A (m n : Nat) : Nat := (m &&& n) % 4294967296
def O (m n : Nat) : Nat := (m ||| n) % 4294967296
def P (m n : Nat) : Nat := (m + n) % 4294967296
def rr (r x : Nat) : Nat := O (x * 2 ^ (32 - r) % 4294967296) (x / 2 ^ r)
def sg0 (a : Nat) : Nat := X (X (rr 7 a) (rr 18 a)) (a / 2 ^ 3)
def sg1 (a : Nat) : Nat := X (X (rr 17 a) (rr 19 a)) (a / 2 ^ 10)
def S1 (x : Nat) : Nat := X (X (rr 6 x) (rr 11 x)) (rr 25 x)
def S0 (x : Nat) : Nat := X (X (rr 2 x) (rr 13 x)) (rr 22 x)
def ch (x y z : Nat) : Nat := X z (A x (X y z))
def mj (x y z : Nat) : Nat := O (A x y) (A z (O x y))
/-- a block's bytes as words -/
def ldw (p : Nat → Nat) : Nat → Nat → Nat
  | 0 => fun _ => 0
  | i + 1 => updN (ldw p i) (i / 4) (O (ldw p i (i / 4) * 2 ^ 8 % 4294967296) (p i))
def sch1 (w : Nat → Nat) (i : Nat) : Nat := P (P (P (w (i - 16)) (w (i - 7))) (sg0 (w (i - 15)))) (sg1 (w (i - 2)))
def sch (f : Nat → Nat) : Nat → Nat → Nat
  | 0 => f
  | i + 1 => updN (sch f i) (16 + i) (sch1 (sch f i) (16 + i))
def tt (v : Nat → Nat) (k w : Nat) : Nat := P (P (P (P (v 7) (S1 (v 4))) (ch (v 4) (v 5) (v 6))) k) w
def uu (v : Nat → Nat) : Nat := P (S0 (v 0)) (mj (v 0) (v 1) (v 2))
/-- eight words -/
def v8 (a b c d e f g h : Nat) : Nat → Nat
  | 0 => a | 1 => b | 2 => c | 3 => d | 4 => e | 5 => f | 6 => g | _ => h
def rnd (v : Nat → Nat) (k w : Nat) : Nat → Nat := v8 (P (tt v k w) (uu v)) (v 0) (v 1) (v 2) (P (v 3) (tt v k w)) (v 4) (v 5) (v 6)
def rnds (K W v : Nat → Nat) : Nat → Nat → Nat
  | 0 => v
  | i + 1 => rnd (rnds K W v i) (K i) (W i)
def KL : List Nat := [
  0x428a2f98, 0x71374491, 0xb5c0fbcf, 0xe9b5dba5, 0x3956c25b, 0x59f111f1, 0x923f82a4, 0xab1c5ed5,
  0xd807aa98, 0x12835b01, 0x243185be, 0x550c7dc3, 0x72be5d74, 0x80deb1fe, 0x9bdc06a7, 0xc19bf174,
  0xe49b69c1, 0xefbe4786, 0x0fc19dc6, 0x240ca1cc, 0x2de92c6f, 0x4a7484aa, 0x5cb0a9dc, 0x76f988da,
  0x983e5152, 0xa831c66d, 0xb00327c8, 0xbf597fc7, 0xc6e00bf3, 0xd5a79147, 0x06ca6351, 0x14292967,
  0x27b70a85, 0x2e1b2138, 0x4d2c6dfc, 0x53380d13, 0x650a7354, 0x766a0abb, 0x81c2c92e, 0x92722c85,
  0xa2bfe8a1, 0xa81a664b, 0xc24b8b70, 0xc76c51a3, 0xd192e819, 0xd6990624, 0xf40e3585, 0x106aa070,
  0x19a4c116, 0x1e376c08, 0x2748774c, 0x34b0bcb5, 0x391c0cb3, 0x4ed8aa4a, 0x5b9cca4f, 0x682e6ff3,
  0x748f82ee, 0x78a5636f, 0x84c87814, 0x8cc70208, 0x90befffa, 0xa4506ceb, 0xbef9a3f7, 0xc67178f2]
def K (i : Nat) : Nat := KL.getD i 0
def H0 : Nat → Nat := v8 0x6a09e667 0xbb67ae85 0x3c6ef372 0xa54ff53a 0x510e527f 0x9b05688c 0x1f83d9ab 0x5be0cd19
def comp (h p : Nat → Nat) : Nat → Nat := fun j => P (h j) (rnds K (sch (ldw p 64) 48) h 64 j)
/-- a hash under way -/
structure St where
  h : Nat → Nat
  p : Nat → Nat
  n : Nat
def wr (s : St) (c : Nat) : St :=
  if (s.n + 1) % 64 = 0 then ⟨comp s.h (updN s.p (s.n % 64) c), updN s.p (s.n % 64) c, s.n + 1⟩ else ⟨s.h, updN s.p (s.n % 64) c, s.n + 1⟩
def wrL (s : St) (l : List UInt8) : St := l.foldl (fun s c => wr s c.toNat) s
theorem wr_n (s : St) (c : Nat) : (wr s c).n = s.n + 1 := by unfold wr; split <;> rfl
theorem wrL_n (l : List UInt8) : ∀ s : St, (wrL s l).n = s.n + l.length := by
  induction l with
  | nil => intro s; rfl
  | cons c r ih =>
    intro s
    show (wrL (wr s c.toNat) r).n = _
    rw [ih, wr_n, List.length_cons]; omega
theorem wrL_app (s : St) (l m : List UInt8) : wrL s (l ++ m) = wrL (wrL s l) m := by unfold wrL; rw [List.foldl_append]
def zeros (k : Nat) : List UInt8 := List.replicate k 0
/-- a number's eight bytes, the highest first -/
def be8 (n : Nat) : List UInt8 := (List.range 8).map fun i => UInt8.ofNat (n / 2 ^ (56 - 8 * i))
def pad (n : Nat) : List UInt8 := 0x80 :: (zeros ((119 - n % 64) % 64) ++ be8 (n * 8))
def outB (h : Nat → Nat) (j : Nat) : Nat := h (j / 4) / 2 ^ (24 - 8 * (j % 4)) % 256
def sum (s : St) : Nat → Nat := outB (wrL s (pad s.n)).h
def ini : St := ⟨H0, fun _ => 0, 0⟩
def of (l : List UInt8) : Nat → Nat := sum (wrL ini l)
end Sha
namespace Go.Pt
open Go.RowKit
theorem bits_xorN32 (m n : Nat) : bits .xor .u32 (m : Int) n = ((Sha.X m n : Nat) : Int) := by
  show IntKind.u32.wrap (((BitVec.ofInt 32 m) ^^^ (BitVec.ofInt 32 n)).toNat : Int) = _
  rw [IntWalk.u32_in _ ⟨by omega, by have := ((BitVec.ofInt 32 m) ^^^ (BitVec.ofInt 32 n)).isLt; omega⟩, BitVec.ofInt_natCast, BitVec.ofInt_natCast, BitVec.toNat_xor, BitVec.toNat_ofNat, BitVec.toNat_ofNat]
  unfold Sha.X
  rw [← Nat.xor_mod_two_pow]
theorem bits_xorN64 (m n : Nat) : bits .xor .u64 (m : Int) n = (((m ^^^ n) % 18446744073709551616 : Nat) : Int) := by
  show IntKind.u64.wrap (((BitVec.ofInt 64 m) ^^^ (BitVec.ofInt 64 n)).toNat : Int) = _
  rw [IntWalk.u64_in _ ⟨by omega, by have := ((BitVec.ofInt 64 m) ^^^ (BitVec.ofInt 64 n)).isLt; omega⟩, BitVec.ofInt_natCast, BitVec.ofInt_natCast, BitVec.toNat_xor, BitVec.toNat_ofNat, BitVec.toNat_ofNat]
  rw [← Nat.xor_mod_two_pow]
theorem bits_xorN8 (m n : Nat) : bits .xor .u8 (m : Int) n = (((m ^^^ n) % 256 : Nat) : Int) := by
  show IntKind.u8.wrap (((BitVec.ofInt 8 m) ^^^ (BitVec.ofInt 8 n)).toNat : Int) = _
  rw [IntWalk.u8_in _ ⟨by omega, by have := ((BitVec.ofInt 8 m) ^^^ (BitVec.ofInt 8 n)).isLt; omega⟩, BitVec.ofInt_natCast, BitVec.ofInt_natCast, BitVec.toNat_xor, BitVec.toNat_ofNat, BitVec.toNat_ofNat]
  rw [← Nat.xor_mod_two_pow]
theorem bits_andN32 (m n : Nat) : bits .and .u32 (m : Int) n = ((Sha.A m n : Nat) : Int) := by
  show IntKind.u32.wrap (((BitVec.ofInt 32 m) &&& (BitVec.ofInt 32 n)).toNat : Int) = _
  rw [IntWalk.u32_in _ ⟨by omega, by have := ((BitVec.ofInt 32 m) &&& (BitVec.ofInt 32 n)).isLt; omega⟩, BitVec.ofInt_natCast, BitVec.ofInt_natCast, BitVec.toNat_and, BitVec.toNat_ofNat, BitVec.toNat_ofNat]
  unfold Sha.A
  rw [← Nat.and_mod_two_pow]
theorem bits_andN64 (m n : Nat) : bits .and .u64 (m : Int) n = (((m &&& n) % 18446744073709551616 : Nat) : Int) := by
  show IntKind.u64.wrap (((BitVec.ofInt 64 m) &&& (BitVec.ofInt 64 n)).toNat : Int) = _
  rw [IntWalk.u64_in _ ⟨by omega, by have := ((BitVec.ofInt 64 m) &&& (BitVec.ofInt 64 n)).isLt; omega⟩, BitVec.ofInt_natCast, BitVec.ofInt_natCast, BitVec.toNat_and, BitVec.toNat_ofNat, BitVec.toNat_ofNat]
  rw [← Nat.and_mod_two_pow]
theorem bits_orN32 (m n : Nat) : bits .or .u32 (m : Int) n = ((Sha.O m n : Nat) : Int) := by
  show IntKind.u32.wrap (((BitVec.ofInt 32 m) ||| (BitVec.ofInt 32 n)).toNat : Int) = _
  rw [IntWalk.u32_in _ ⟨by omega, by have := ((BitVec.ofInt 32 m) ||| (BitVec.ofInt 32 n)).isLt; omega⟩, BitVec.ofInt_natCast, BitVec.ofInt_natCast, BitVec.toNat_or, BitVec.toNat_ofNat, BitVec.toNat_ofNat]
  unfold Sha.O
  rw [← Nat.or_mod_two_pow]
section
variable {P : Program} {md : Md} {N : Nat} {ops : Array Oper} {rest : List Oper} {Γ : Env} {C : World → Prop} {Q : Exit → Act → World → Prop} {d : Nat} {ty : TypeId} {pos : String} {af : Array Edge} {t u : TypeId} {x y : Operand} {m n : Nat}
theorem Wl.xorN32 (hd : Nat.blt d N = true) (hx : ev Γ x = some (.int .u32 (m : Int))) (hy : ev Γ y = some (.int .u32 (n : Int))) (h : Wl rest P md ops N ((d, .int .u32 ((Sha.X m n : Nat) : Int)) :: Γ) C Q) : Wl (⟨some d, .binOp .xor t x y u, ty, pos, af, none⟩ :: rest) P md ops N Γ C Q :=
  Wl.xor hd hx hy (by rw [bits_xorN32]; exact h)
theorem Wl.xorN64 (hd : Nat.blt d N = true) (hx : ev Γ x = some (.int .u64 (m : Int))) (hy : ev Γ y = some (.int .u64 (n : Int))) (h : Wl rest P md ops N ((d, .int .u64 (((m ^^^ n) % 18446744073709551616 : Nat) : Int)) :: Γ) C Q) : Wl (⟨some d, .binOp .xor t x y u, ty, pos, af, none⟩ :: rest) P md ops N Γ C Q :=
  Wl.xor hd hx hy (by rw [bits_xorN64]; exact h)
theorem Wl.xorN8 (hd : Nat.blt d N = true) (hx : ev Γ x = some (.int .u8 (m : Int))) (hy : ev Γ y = some (.int .u8 (n : Int))) (h : Wl rest P md ops N ((d, .int .u8 (((m ^^^ n) % 256 : Nat) : Int)) :: Γ) C Q) : Wl (⟨some d, .binOp .xor t x y u, ty, pos, af, none⟩ :: rest) P md ops N Γ C Q :=
  Wl.xor hd hx hy (by rw [bits_xorN8]; exact h)
theorem Wl.andN32 (hd : Nat.blt d N = true) (hx : ev Γ x = some (.int .u32 (m : Int))) (hy : ev Γ y = some (.int .u32 (n : Int))) (h : Wl rest P md ops N ((d, .int .u32 ((Sha.A m n : Nat) : Int)) :: Γ) C Q) : Wl (⟨some d, .binOp .and t x y u, ty, pos, af, none⟩ :: rest) P md ops N Γ C Q :=
  Wl.and hd hx hy (by rw [bits_andN32]; exact h)
theorem Wl.andN64 (hd : Nat.blt d N = true) (hx : ev Γ x = some (.int .u64 (m : Int))) (hy : ev Γ y = some (.int .u64 (n : Int))) (h : Wl rest P md ops N ((d, .int .u64 (((m &&& n) % 18446744073709551616 : Nat) : Int)) :: Γ) C Q) : Wl (⟨some d, .binOp .and t x y u, ty, pos, af, none⟩ :: rest) P md ops N Γ C Q :=
  Wl.and hd hx hy (by rw [bits_andN64]; exact h)
theorem Wl.orN32 (hd : Nat.blt d N = true) (hx : ev Γ x = some (.int .u32 (m : Int))) (hy : ev Γ y = some (.int .u32 (n : Int))) (h : Wl rest P md ops N ((d, .int .u32 ((Sha.O m n : Nat) : Int)) :: Γ) C Q) : Wl (⟨some d, .binOp .or t x y u, ty, pos, af, none⟩ :: rest) P md ops N Γ C Q :=
  Wl.or hd hx hy (by rw [bits_orN32]; exact h)
/-- a number shifted by a constant -/
theorem Wl.shlP {k' : IntKind} {i : Int} (n : Nat) (hd : Nat.blt d N = true) (hx : ev Γ x = some (.int .u32 (m : Int))) (hy : ev Γ y = some (.int k' i)) (hi : i = (n : Int)) (hn : n ≤ 32) (h : Wl rest P md ops N ((d, .int .u32 ((m * 2 ^ n % 4294967296 : Nat) : Int)) :: Γ) C Q) : Wl (⟨some d, .binOp .shl t x y u, ty, pos, af, none⟩ :: rest) P md ops N Γ C Q :=
  Wl.shlV hd hx (hi ▸ hy) hn h
theorem Wl.shrP {k k' : IntKind} {i : Int} (n : Nat) (hd : Nat.blt d N = true) (hx : ev Γ x = some (.int k (m : Int))) (hy : ev Γ y = some (.int k' i)) (hi : i = (n : Int)) (hn : n ≤ k.bits) (h : Wl rest P md ops N ((d, .int k ((m / 2 ^ n : Nat) : Int)) :: Γ) C Q) : Wl (⟨some d, .binOp .shr t x y u, ty, pos, af, none⟩ :: rest) P md ops N Γ C Q :=
  Wl.shrV hd hx (hi ▸ hy) hn h
theorem Wl.addP (hd : Nat.blt d N = true) (hx : ev Γ x = some (.int .u32 (m : Int))) (hy : ev Γ y = some (.int .u32 (n : Int))) (h : Wl rest P md ops N ((d, .int .u32 ((Sha.P m n : Nat) : Int)) :: Γ) C Q) : Wl (⟨some d, .binOp .add t x y u, ty, pos, af, none⟩ :: rest) P md ops N Γ C Q := Wl.addN32 hd hx hy h
theorem exec_callV2 {f : FuncId} [hE : Ent P f] {a : Act} {w : World} {N : Nat} {Γ : Env} (ha : Fr N a Γ) {x : Operand} (hf : ev Γ x = some (.func (.func f) #[] #[])) {d : Option Nat} {xs : Array Operand} {vs : List Value} {ts : Array TypeId} {ty : TypeId} {pos : String} {af : Array Edge} {g : Option (Nat × Bool)} (hx : Evs Γ xs.toList vs) :
    (execOp a.eval ⟨d, .call { callee := .value x, args := xs, argTypes := ts }, ty, pos, af, g⟩).run P w = .ok (.enter f vs.toArray) w := by
  have e : xs.map a.eval = vs.toArray := by
    obtain ⟨l⟩ := xs
    simp only [List.map_toArray]
    exact congrArg _ (hx.map ha)
  simp [execOp, resolve, e, ha.ev hf, Deferred.ofValue, invoke, hE.out]
/-- a quiet call through a function's value -/
theorem Wl.callVQ {f : FuncId} {x : Operand} {xs : Array Operand} {vs : List Value} {ts : Array TypeId} {v : Value} (hd : Nat.blt d N = true) (hf : ev Γ x = some (.func (.func f) #[] #[])) (_hE : Ent P f) (hx : Evs Γ xs.toList vs)
    (hq : ∀ w, C w → Calls P f vs.toArray w fun e w' => e = .returned v ∧ C w') (h : Wl rest P .seq ops N ((d, v) :: Γ) C Q) :
    Wl (⟨some d, .call { callee := .value x, args := xs, argTypes := ts }, ty, pos, af, none⟩ :: rest) P .seq ops N Γ C Q := Wl.intro fun a w ha hw => by
  refine wpList_plain rfl fun K hK => ?_
  simp only [Oper.wp, exec_callV2 ha hf hx, Oper.upon]
  refine (hq w hw).mono ?_
  rintro e w' ⟨rfl, hC⟩
  exact hK _ _ (h.elim _ _ (ha.put hd v) hC)
theorem Wl.andE {k : IntKind} {a b r : Int} (hd : Nat.blt d N = true) (hx : ev Γ x = some (.int k a)) (hy : ev Γ y = some (.int k b)) (e : bits .and k a b = r) (h : Wl rest P md ops N ((d, .int k r) :: Γ) C Q) : Wl (⟨some d, .binOp .and t x y u, ty, pos, af, none⟩ :: rest) P md ops N Γ C Q :=
  Wl.and hd hx hy (by rw [e]; exact h)
theorem Wl.subE {k : IntKind} {a b r : Int} (hd : Nat.blt d N = true) (hx : ev Γ x = some (.int k a)) (hy : ev Γ y = some (.int k b)) (e : k.wrap (a - b) = r) (h : Wl rest P md ops N ((d, .int k r) :: Γ) C Q) : Wl (⟨some d, .binOp .sub t x y u, ty, pos, af, none⟩ :: rest) P md ops N Γ C Q :=
  Wl.sub' hd hx hy (by rw [e]; exact h)
theorem Wl.subC {i : Int} (n : Nat) (hd : Nat.blt d N = true) (hx : ev Γ x = some (.int .i64 (m : Int))) (hy : ev Γ y = some (.int .i64 i)) (hi : i = (n : Int)) (hn : n ≤ m) (hm : m < 9223372036854775808) (h : Wl rest P md ops N ((d, .int .i64 ((m - n : Nat) : Int)) :: Γ) C Q) : Wl (⟨some d, .binOp .sub t x y u, ty, pos, af, none⟩ :: rest) P md ops N Γ C Q :=
  Wl.subE hd hx hy (by rw [hi, IntKind.wrap_i64]; omega) h
theorem Wl.subR {i : Int} (m : Nat) (hd : Nat.blt d N = true) (hx : ev Γ x = some (.int .i64 i)) (hi : i = (m : Int)) (hy : ev Γ y = some (.int .i64 (n : Int))) (hn : n ≤ m) (hm : m < 9223372036854775808) (h : Wl rest P md ops N ((d, .int .i64 ((m - n : Nat) : Int)) :: Γ) C Q) : Wl (⟨some d, .binOp .sub t x y u, ty, pos, af, none⟩ :: rest) P md ops N Γ C Q :=
  Wl.subE hd hx hy (by rw [hi, IntKind.wrap_i64]; omega) h
theorem Wl.indexVS {md : Md} {C : World → Prop} {t e n b1 : TypeId} [ht : TyD P t (.array n e)] [hs : TyS P e 1 b1] [hc : TyC P e] {x i : Operand} {q : IntKind} {j : Nat} {xs : List Value} {v : Value} (hd : Nat.blt d N = true) (hx : ev Γ x = some (.agg xs.toArray)) (hi : ev Γ i = some (.int q (j : Int)))
    (hj : xs[j]? = some v) (hn : j < n) (h : Wl rest P md ops N ((d, v) :: Γ) C Q) : Wl (⟨some d, .index t x i, ty, pos, af, none⟩ :: rest) P md ops N Γ C Q :=
  Wl.val hd (fun a w ha _ => by
    have hj' : xs.toArray[j]? = some v := by simpa using hj
    simp [execOp, ha.ev hx, ha.ev hi, Instr.index, asIntOf, run_underlying ht.out, hn, run_size (P := P) (t := e), part, run_aggC (P := P) (t := e), hj', hj]) h
end
end Go.Pt
end
section
/-
  A region that draws its order and holds several operations that turn the world: what only reads is taken first; then each operation that may come next, in turn.
-/
namespace Go.Pt

section
variable {P : Program} {ops : Array Oper} {N n : Nat} {Γ : Env} {C D : World → Prop} {Q : Act → World → Prop}
/-- what is left of the region, listed being done -/
def Mt (P : Program) (ops : Array Oper) (N n : Nat) (listed : Array Bool) (Γ : Env) (D C : World → Prop) (Q : Act → World → Prop) : Prop :=
  ∀ a w, Fr N a Γ → D w → C w → wpAnyC P ops C Q n listed a w
def MtQ (P : Program) (ops : Array Oper) (C : World → Prop) (Q : Act → World → Prop) (n : Nat) (listed : Array Bool) : Exit → Act → World → Prop := fun _ a w => C w → wpAnyC P ops C Q n listed a w
def MtE (P : Program) (ops : Array Oper) (C : World → Prop) (Q : Act → World → Prop) (n : Nat) (listed : Array Bool) : Exit → Act → World → Prop := fun e a w => e = .normal ∧ C w ∧ wpAnyC P ops C Q n listed a w
theorem Mt.back {listed : Array Bool} (h : Mt P ops N n listed Γ D C Q) : Gt N .normal Γ D (MtQ P ops C Q n listed) := Gt.intro fun a w ha hD hC => h a w ha hD hC
theorem Mt.backE {listed : Array Bool} (hc : ∀ w, D w → C w) (h : Mt P ops N n listed Γ D C Q) : Gt N .normal Γ D (MtE P ops C Q n listed) := Gt.intro fun a w ha hD => ⟨rfl, hc w hD, h a w ha hD (hc w hD)⟩
/-- nothing is left -/
theorem Mt.done {listed : Array Bool} (hr : (Region.ready .any ops listed).isEmpty = true) (h : ∀ a w, Fr N a Γ → D w → Q a w) : Mt P ops N n listed Γ D C Q := fun a w ha hD hC => by
  have hr' : Region.ready .any ops listed = [] := by simpa using hr
  cases n with
  | zero => exact ⟨hC, hr', h a w ha hD⟩
  | succ n => exact ⟨hC, fun _ => h a w ha hD, fun i hi => by rw [hr'] at hi; cases hi⟩
/-- an operation that only reads -/
theorem Mt.pure {listed : Array Bool} (i : Nat) {o : Oper} (hs : Region.noSelect ops = true) (hi : ops[i]? = some o) (he : effB o = false) (hr : (Region.ready .any ops listed).contains i = true) (hf : Region.free .any ops listed i = true)
    (h : Wl [o] P (.mix D) ops N Γ C (MtQ P ops C Q n (listed.setIfInBounds i true))) : Mt P ops N (n + 1) listed Γ D C Q := fun a w ha hD hC => by
  have h := h.elimM a w ha hD hC
  simp only [wpE, he] at h
  by_cases hw : Region.wanted o (yielded ops a.tmps) = true
  · rw [if_pos hw] at h
    obtain ⟨v, hv, h⟩ := h
    exact firstC hi hs n listed a w (Region.free_spec hi hf) (by simpa using hr) (.inl ⟨hw, hv⟩) (h hC)
  · rw [if_neg hw] at h
    exact firstC hi hs n listed a w (Region.free_spec hi hf) (by simpa using hr) (.inr ⟨by simpa using hw, rfl⟩) (h hC)
/-- one that turns the world, told by itself -/
theorem Mt.op {listed : Array Bool} {i : Nat} {o : Oper} (hi : ops[i]? = some o) (h : Wl [o] P .seq ops N Γ D (MtE P ops C Q n (listed.setIfInBounds i true))) (a : Act) (w : World) (ha : Fr N a Γ) (hD : D w) :
    wpOp P ops (onlyN Q) i (wpAnyC P ops C Q n (listed.setIfInBounds i true)) a w := by
  have h := h.elim a w ha hD
  unfold wpOp
  simp only [hi]
  simp only [wpList] at h
  split
  · rename_i hw
    rw [if_pos hw] at h
    rcases h with h | ⟨_, x, y, h⟩
    · refine .inl ?_
      have h1 := wp_only (fun _ _ _ h => h.1) h
      have h2 := Oper.wp_mono (fun a' w' hh => hh.2.2) h1
      unfold Oper.wp at *
      generalize (execOp a.eval o).run P w = r at *
      cases r with
      | ok n w' =>
        cases n <;> simp only [Oper.upon] at h2 ⊢
        case value u => exact h2
        case skip => exact h2
        case defer d => exact h2
        case enter f args => exact Calls.mono h2 (fun e w'' he => by cases e <;> first | exact he | exact he.elim | (obtain ⟨_, _, hf⟩ := he; exact hf.elim))
        case row row args => exact h2
      | halt x w' => cases x <;> simp only [Oper.upon] at h2
    · cases h.1
  · rename_i hw
    rw [if_neg hw] at h
    exact h.2.2
theorem Mt.eff1 {listed : Array Bool} {i : Nat} {o : Oper} (hr : Region.ready .any ops listed = [i]) (hi : ops[i]? = some o) (h : Wl [o] P .seq ops N Γ D (MtE P ops C Q n (listed.setIfInBounds i true))) : Mt P ops N (n + 1) listed Γ D C Q := fun a w ha hD hC => by
  refine ⟨hC, fun e => (by rw [hr] at e; cases e), fun j hj => ?_⟩
  rw [hr, List.mem_singleton] at hj
  subst hj
  exact Mt.op hi h a w ha hD
theorem Mt.eff2 {listed : Array Bool} {i j : Nat} {o o' : Oper} (hr : Region.ready .any ops listed = [i, j]) (hi : ops[i]? = some o) (hj : ops[j]? = some o') (h : Wl [o] P .seq ops N Γ D (MtE P ops C Q n (listed.setIfInBounds i true)))
    (h' : Wl [o'] P .seq ops N Γ D (MtE P ops C Q n (listed.setIfInBounds j true))) : Mt P ops N (n + 1) listed Γ D C Q := fun a w ha hD hC => by
  refine ⟨hC, fun e => (by rw [hr] at e; cases e), fun k hk => ?_⟩
  rw [hr] at hk
  simp only [List.mem_cons, List.not_mem_nil, or_false] at hk
  rcases hk with rfl | rfl
  · exact Mt.op hi h a w ha hD
  · exact Mt.op hj h' a w ha hD
end
section
variable {P : Program} {N : Nat} {Γ : Env} {C B : World → Prop} {Q : Exit → Act → World → Prop}
/-- a region in whatever order, B a class of worlds that all of it keeps -/
theorem St.tree {i : Nat} {l : List Oper} (B : World → Prop) (hm : P.follows .mixedOrders = true) (hC : ∀ w, C w → C w.drew ∧ B w.drew) (h : Mt P l.toArray N l.length (Array.replicate l.length false) Γ C B (fun a w => Q .normal a w)) :
    St (.region i l.toArray true) P N Γ C Q := St.intro fun a w ha hw => by
  refine wp_mono (wp_region_any (Q := onlyN fun a' w' => Q .normal a' w') hm ?_) ?_
  · have := wpAny_of_C _ _ _ _ (h a w.drew ha (hC w hw).1 (hC w hw).2)
    simpa using this
  · intro e a w h
    cases e <;> first | exact h | exact h.elim
theorem Mt.toGt {ops : Array Oper} {n : Nat} {listed : Array Bool} {D : World → Prop} (hr : (Region.ready .any ops listed).isEmpty = true) (h : Gt N .normal Γ D Q) : Mt P ops N n listed Γ D C (fun a w => Q .normal a w) := Mt.done hr fun a w ha hD => h.elim a w ha hD
end
end Go.Pt
end
section
/-
  CLOSED FACTS of this seat's program, by a program of mine (gen_facts.py): types and functions, as my rules ask for them.
-/
namespace Go.Proofs.YtfaobdakpbpkbaaDoor
open Go.Pt

instance : TyD Tryd.prog 2 (.int .i64) := ⟨by kernel_rfl⟩
instance : TyS Tryd.prog 2 1 8 := ⟨by kernel_rfl⟩
instance : TyZ Tryd.prog 2 (.int .i64 0) := ⟨by kernel_rfl⟩
instance : TyC Tryd.prog 2 := ⟨by kernel_rfl, by kernel_rfl, by kernel_rfl⟩
instance : TyD Tryd.prog 3 (.int .i64) := ⟨by kernel_rfl⟩
instance : TyS Tryd.prog 3 1 8 := ⟨by kernel_rfl⟩
instance : TyZ Tryd.prog 3 (.int .i64 0) := ⟨by kernel_rfl⟩
instance : TyC Tryd.prog 3 := ⟨by kernel_rfl, by kernel_rfl, by kernel_rfl⟩
instance : TyD Tryd.prog 4 (.bool) := ⟨by kernel_rfl⟩
instance : TyS Tryd.prog 4 1 1 := ⟨by kernel_rfl⟩
instance : TyZ Tryd.prog 4 (.bool false) := ⟨by kernel_rfl⟩
instance : TyC Tryd.prog 4 := ⟨by kernel_rfl, by kernel_rfl, by kernel_rfl⟩
instance : TyD Tryd.prog 5 (.int .u8) := ⟨by kernel_rfl⟩
instance : TyS Tryd.prog 5 1 1 := ⟨by kernel_rfl⟩
instance : TyZ Tryd.prog 5 (.int .u8 0) := ⟨by kernel_rfl⟩
instance : TyC Tryd.prog 5 := ⟨by kernel_rfl, by kernel_rfl, by kernel_rfl⟩
instance : TyD Tryd.prog 6 (.int .u8) := ⟨by kernel_rfl⟩
instance : TyS Tryd.prog 6 1 1 := ⟨by kernel_rfl⟩
instance : TyZ Tryd.prog 6 (.int .u8 0) := ⟨by kernel_rfl⟩
instance : TyC Tryd.prog 6 := ⟨by kernel_rfl, by kernel_rfl, by kernel_rfl⟩
instance : TyS Tryd.prog 7 4 24 := ⟨by kernel_rfl⟩
instance : TyZ Tryd.prog 7 (.agg #[.int .i64 0, .int .i64 0, .bool false, .int .u8 0]) := ⟨by kernel_rfl⟩
instance : TyA Tryd.prog 7 4 := ⟨by kernel_rfl, by kernel_rfl⟩
instance : TyP Tryd.prog 7 [(0, 1), (1, 1), (2, 1), (3, 1)] [.int .i64 0, .int .i64 0, .bool false, .int .u8 0] := ⟨by kernel_rfl⟩
instance : Fld Tryd.prog 7 0 0 2 := ⟨by kernel_rfl⟩
instance : Fld Tryd.prog 7 1 1 3 := ⟨by kernel_rfl⟩
instance : Fld Tryd.prog 7 2 2 4 := ⟨by kernel_rfl⟩
instance : Fld Tryd.prog 7 3 3 6 := ⟨by kernel_rfl⟩
instance : TyS Tryd.prog 8 4 24 := ⟨by kernel_rfl⟩
instance : TyZ Tryd.prog 8 (.agg #[.int .i64 0, .int .i64 0, .bool false, .int .u8 0]) := ⟨by kernel_rfl⟩
instance : TyA Tryd.prog 8 4 := ⟨by kernel_rfl, by kernel_rfl⟩
instance : TyP Tryd.prog 8 [(0, 1), (1, 1), (2, 1), (3, 1)] [.int .i64 0, .int .i64 0, .bool false, .int .u8 0] := ⟨by kernel_rfl⟩
instance : Fld Tryd.prog 8 0 0 2 := ⟨by kernel_rfl⟩
instance : Fld Tryd.prog 8 1 1 3 := ⟨by kernel_rfl⟩
instance : Fld Tryd.prog 8 2 2 4 := ⟨by kernel_rfl⟩
instance : Fld Tryd.prog 8 3 3 6 := ⟨by kernel_rfl⟩
instance : TyD Tryd.prog 9 (.string) := ⟨by kernel_rfl⟩
instance : TyS Tryd.prog 9 1 16 := ⟨by kernel_rfl⟩
instance : TyZ Tryd.prog 9 (.string ⟨#[]⟩) := ⟨by kernel_rfl⟩
instance : TyC Tryd.prog 9 := ⟨by kernel_rfl, by kernel_rfl, by kernel_rfl⟩
instance : TyD Tryd.prog 10 (.string) := ⟨by kernel_rfl⟩
instance : TyS Tryd.prog 10 1 16 := ⟨by kernel_rfl⟩
instance : TyZ Tryd.prog 10 (.string ⟨#[]⟩) := ⟨by kernel_rfl⟩
instance : TyC Tryd.prog 10 := ⟨by kernel_rfl, by kernel_rfl, by kernel_rfl⟩
instance : TyD Tryd.prog 11 (.string) := ⟨by kernel_rfl⟩
instance : TyS Tryd.prog 11 1 16 := ⟨by kernel_rfl⟩
instance : TyZ Tryd.prog 11 (.string ⟨#[]⟩) := ⟨by kernel_rfl⟩
instance : TyC Tryd.prog 11 := ⟨by kernel_rfl, by kernel_rfl, by kernel_rfl⟩
instance : TyD Tryd.prog 12 (.int .u64) := ⟨by kernel_rfl⟩
instance : TyS Tryd.prog 12 1 8 := ⟨by kernel_rfl⟩
instance : TyZ Tryd.prog 12 (.int .u64 0) := ⟨by kernel_rfl⟩
instance : TyC Tryd.prog 12 := ⟨by kernel_rfl, by kernel_rfl, by kernel_rfl⟩
instance : TyS Tryd.prog 13 2 24 := ⟨by kernel_rfl⟩
instance : TyZ Tryd.prog 13 (.agg #[.string ⟨#[]⟩, .int .u64 0]) := ⟨by kernel_rfl⟩
instance : TyA Tryd.prog 13 2 := ⟨by kernel_rfl, by kernel_rfl⟩
instance : TyP Tryd.prog 13 [(0, 1), (1, 1)] [.string ⟨#[]⟩, .int .u64 0] := ⟨by kernel_rfl⟩
instance : Fld Tryd.prog 13 0 0 9 := ⟨by kernel_rfl⟩
instance : Fld Tryd.prog 13 1 1 12 := ⟨by kernel_rfl⟩
instance : TyS Tryd.prog 14 2 24 := ⟨by kernel_rfl⟩
instance : TyZ Tryd.prog 14 (.agg #[.string ⟨#[]⟩, .int .u64 0]) := ⟨by kernel_rfl⟩
instance : TyA Tryd.prog 14 2 := ⟨by kernel_rfl, by kernel_rfl⟩
instance : TyP Tryd.prog 14 [(0, 1), (1, 1)] [.string ⟨#[]⟩, .int .u64 0] := ⟨by kernel_rfl⟩
instance : Fld Tryd.prog 14 0 0 9 := ⟨by kernel_rfl⟩
instance : Fld Tryd.prog 14 1 1 12 := ⟨by kernel_rfl⟩
instance : TyD Tryd.prog 15 (.pointer 141) := ⟨by kernel_rfl⟩
instance : TyS Tryd.prog 15 1 8 := ⟨by kernel_rfl⟩
instance : TyZ Tryd.prog 15 (.pointer none) := ⟨by kernel_rfl⟩
instance : TyC Tryd.prog 15 := ⟨by kernel_rfl, by kernel_rfl, by kernel_rfl⟩
instance : TyD Tryd.prog 16 (.pointer 144) := ⟨by kernel_rfl⟩
instance : TyS Tryd.prog 16 1 8 := ⟨by kernel_rfl⟩
instance : TyZ Tryd.prog 16 (.pointer none) := ⟨by kernel_rfl⟩
instance : TyC Tryd.prog 16 := ⟨by kernel_rfl, by kernel_rfl, by kernel_rfl⟩
instance : TyD Tryd.prog 17 (.pointer 153) := ⟨by kernel_rfl⟩
instance : TyS Tryd.prog 17 1 8 := ⟨by kernel_rfl⟩
instance : TyZ Tryd.prog 17 (.pointer none) := ⟨by kernel_rfl⟩
instance : TyC Tryd.prog 17 := ⟨by kernel_rfl, by kernel_rfl, by kernel_rfl⟩
instance : TyS Tryd.prog 18 1 8 := ⟨by kernel_rfl⟩
instance : TyZ Tryd.prog 18 (.agg #[.pointer none]) := ⟨by kernel_rfl⟩
instance : TyA Tryd.prog 18 1 := ⟨by kernel_rfl, by kernel_rfl⟩
instance : TyP Tryd.prog 18 [(0, 1)] [.pointer none] := ⟨by kernel_rfl⟩
instance : Fld Tryd.prog 18 0 0 17 := ⟨by kernel_rfl⟩
instance : TyS Tryd.prog 19 1 8 := ⟨by kernel_rfl⟩
instance : TyZ Tryd.prog 19 (.agg #[.pointer none]) := ⟨by kernel_rfl⟩
instance : TyA Tryd.prog 19 1 := ⟨by kernel_rfl, by kernel_rfl⟩
instance : TyP Tryd.prog 19 [(0, 1)] [.pointer none] := ⟨by kernel_rfl⟩
instance : Fld Tryd.prog 19 0 0 17 := ⟨by kernel_rfl⟩
instance : TyD Tryd.prog 21 (.int .i32) := ⟨by kernel_rfl⟩
instance : TyS Tryd.prog 21 1 4 := ⟨by kernel_rfl⟩
instance : TyZ Tryd.prog 21 (.int .i32 0) := ⟨by kernel_rfl⟩
instance : TyC Tryd.prog 21 := ⟨by kernel_rfl, by kernel_rfl, by kernel_rfl⟩
instance : TyD Tryd.prog 22 (.slice 5) := ⟨by kernel_rfl⟩
instance : TyS Tryd.prog 22 1 24 := ⟨by kernel_rfl⟩
instance : TyZ Tryd.prog 22 (.slice none 0 0) := ⟨by kernel_rfl⟩
instance : TyC Tryd.prog 22 := ⟨by kernel_rfl, by kernel_rfl, by kernel_rfl⟩
instance : TyD Tryd.prog 24 (.int .i64) := ⟨by kernel_rfl⟩
instance : TyS Tryd.prog 24 1 8 := ⟨by kernel_rfl⟩
instance : TyZ Tryd.prog 24 (.int .i64 0) := ⟨by kernel_rfl⟩
instance : TyC Tryd.prog 24 := ⟨by kernel_rfl, by kernel_rfl, by kernel_rfl⟩
instance : TyD Tryd.prog 28 (.int .u32) := ⟨by kernel_rfl⟩
instance : TyS Tryd.prog 28 1 4 := ⟨by kernel_rfl⟩
instance : TyZ Tryd.prog 28 (.int .u32 0) := ⟨by kernel_rfl⟩
instance : TyC Tryd.prog 28 := ⟨by kernel_rfl, by kernel_rfl, by kernel_rfl⟩
instance : TyD Tryd.prog 29 (.array 8 28) := ⟨by kernel_rfl⟩
instance : TyS Tryd.prog 29 8 32 := ⟨by kernel_rfl⟩
instance : TyZ Tryd.prog 29 (.agg #[.int .u32 0, .int .u32 0, .int .u32 0, .int .u32 0, .int .u32 0, .int .u32 0, .int .u32 0, .int .u32 0]) := ⟨by kernel_rfl⟩
instance : TyA Tryd.prog 29 8 := ⟨by kernel_rfl, by kernel_rfl⟩
instance : TyD Tryd.prog 30 (.array 8 28) := ⟨by kernel_rfl⟩
instance : TyS Tryd.prog 30 8 32 := ⟨by kernel_rfl⟩
instance : TyZ Tryd.prog 30 (.agg #[.int .u32 0, .int .u32 0, .int .u32 0, .int .u32 0, .int .u32 0, .int .u32 0, .int .u32 0, .int .u32 0]) := ⟨by kernel_rfl⟩
instance : TyA Tryd.prog 30 8 := ⟨by kernel_rfl, by kernel_rfl⟩
instance : TyS Tryd.prog 31 17 68 := ⟨by kernel_rfl⟩
instance : TyZ Tryd.prog 31 (.agg #[.int .u32 0, .int .u32 0, .int .u32 0, .int .u32 0, .int .u32 0, .int .u32 0, .int .u32 0, .int .u32 0, .int .u32 0, .int .u32 0, .int .u32 0, .int .u32 0, .int .u32 0, .int .u32 0, .int .u32 0, .int .u32 0, .bool false]) := ⟨by kernel_rfl⟩
instance : TyA Tryd.prog 31 17 := ⟨by kernel_rfl, by kernel_rfl⟩
instance : TyP Tryd.prog 31 [(0, 8), (8, 8), (16, 1)] [.int .u32 0, .int .u32 0, .int .u32 0, .int .u32 0, .int .u32 0, .int .u32 0, .int .u32 0, .int .u32 0, .int .u32 0, .int .u32 0, .int .u32 0, .int .u32 0, .int .u32 0, .int .u32 0, .int .u32 0, .int .u32 0, .bool false] := ⟨by kernel_rfl⟩
instance : Fld Tryd.prog 31 0 0 30 := ⟨by kernel_rfl⟩
instance : Fld Tryd.prog 31 1 8 30 := ⟨by kernel_rfl⟩
instance : Fld Tryd.prog 31 2 16 4 := ⟨by kernel_rfl⟩
instance : TyS Tryd.prog 32 17 68 := ⟨by kernel_rfl⟩
instance : TyZ Tryd.prog 32 (.agg #[.int .u32 0, .int .u32 0, .int .u32 0, .int .u32 0, .int .u32 0, .int .u32 0, .int .u32 0, .int .u32 0, .int .u32 0, .int .u32 0, .int .u32 0, .int .u32 0, .int .u32 0, .int .u32 0, .int .u32 0, .int .u32 0, .bool false]) := ⟨by kernel_rfl⟩
instance : TyA Tryd.prog 32 17 := ⟨by kernel_rfl, by kernel_rfl⟩
instance : TyP Tryd.prog 32 [(0, 8), (8, 8), (16, 1)] [.int .u32 0, .int .u32 0, .int .u32 0, .int .u32 0, .int .u32 0, .int .u32 0, .int .u32 0, .int .u32 0, .int .u32 0, .int .u32 0, .int .u32 0, .int .u32 0, .int .u32 0, .int .u32 0, .int .u32 0, .int .u32 0, .bool false] := ⟨by kernel_rfl⟩
instance : Fld Tryd.prog 32 0 0 30 := ⟨by kernel_rfl⟩
instance : Fld Tryd.prog 32 1 8 30 := ⟨by kernel_rfl⟩
instance : Fld Tryd.prog 32 2 16 4 := ⟨by kernel_rfl⟩
instance : TyD Tryd.prog 35 (.int .u64) := ⟨by kernel_rfl⟩
instance : TyS Tryd.prog 35 1 8 := ⟨by kernel_rfl⟩
instance : TyZ Tryd.prog 35 (.int .u64 0) := ⟨by kernel_rfl⟩
instance : TyC Tryd.prog 35 := ⟨by kernel_rfl, by kernel_rfl, by kernel_rfl⟩
instance : TyD Tryd.prog 36 (.array 16 35) := ⟨by kernel_rfl⟩
instance : TyS Tryd.prog 36 16 128 := ⟨by kernel_rfl⟩
instance : TyZ Tryd.prog 36 (.agg #[.int .u64 0, .int .u64 0, .int .u64 0, .int .u64 0, .int .u64 0, .int .u64 0, .int .u64 0, .int .u64 0, .int .u64 0, .int .u64 0, .int .u64 0, .int .u64 0, .int .u64 0, .int .u64 0, .int .u64 0, .int .u64 0]) := ⟨by kernel_rfl⟩
instance : TyA Tryd.prog 36 16 := ⟨by kernel_rfl, by kernel_rfl⟩
instance : TyD Tryd.prog 37 (.array 16 35) := ⟨by kernel_rfl⟩
instance : TyS Tryd.prog 37 16 128 := ⟨by kernel_rfl⟩
instance : TyZ Tryd.prog 37 (.agg #[.int .u64 0, .int .u64 0, .int .u64 0, .int .u64 0, .int .u64 0, .int .u64 0, .int .u64 0, .int .u64 0, .int .u64 0, .int .u64 0, .int .u64 0, .int .u64 0, .int .u64 0, .int .u64 0, .int .u64 0, .int .u64 0]) := ⟨by kernel_rfl⟩
instance : TyA Tryd.prog 37 16 := ⟨by kernel_rfl, by kernel_rfl⟩
instance : TyS Tryd.prog 38 48 384 := ⟨by kernel_rfl⟩
instance : TyZ Tryd.prog 38 (.agg #[.int .u64 0, .int .u64 0, .int .u64 0, .int .u64 0, .int .u64 0, .int .u64 0, .int .u64 0, .int .u64 0, .int .u64 0, .int .u64 0, .int .u64 0, .int .u64 0, .int .u64 0, .int .u64 0, .int .u64 0, .int .u64 0, .int .u64 0, .int .u64 0, .int .u64 0, .int .u64 0, .int .u64 0, .int .u64 0, .int .u64 0, .int .u64 0, .int .u64 0, .int .u64 0, .int .u64 0, .int .u64 0, .int .u64 0, .int .u64 0, .int .u64 0, .int .u64 0, .int .u64 0, .int .u64 0, .int .u64 0, .int .u64 0, .int .u64 0, .int .u64 0, .int .u64 0, .int .u64 0, .int .u64 0, .int .u64 0, .int .u64 0, .int .u64 0, .int .u64 0, .int .u64 0, .int .u64 0, .int .u64 0]) := ⟨by kernel_rfl⟩
instance : TyA Tryd.prog 38 48 := ⟨by kernel_rfl, by kernel_rfl⟩
instance : TyP Tryd.prog 38 [(0, 16), (16, 16), (32, 16)] [.int .u64 0, .int .u64 0, .int .u64 0, .int .u64 0, .int .u64 0, .int .u64 0, .int .u64 0, .int .u64 0, .int .u64 0, .int .u64 0, .int .u64 0, .int .u64 0, .int .u64 0, .int .u64 0, .int .u64 0, .int .u64 0, .int .u64 0, .int .u64 0, .int .u64 0, .int .u64 0, .int .u64 0, .int .u64 0, .int .u64 0, .int .u64 0, .int .u64 0, .int .u64 0, .int .u64 0, .int .u64 0, .int .u64 0, .int .u64 0, .int .u64 0, .int .u64 0, .int .u64 0, .int .u64 0, .int .u64 0, .int .u64 0, .int .u64 0, .int .u64 0, .int .u64 0, .int .u64 0, .int .u64 0, .int .u64 0, .int .u64 0, .int .u64 0, .int .u64 0, .int .u64 0, .int .u64 0, .int .u64 0] := ⟨by kernel_rfl⟩
instance : Fld Tryd.prog 38 0 0 37 := ⟨by kernel_rfl⟩
instance : Fld Tryd.prog 38 1 16 37 := ⟨by kernel_rfl⟩
instance : Fld Tryd.prog 38 2 32 37 := ⟨by kernel_rfl⟩
instance : TyS Tryd.prog 39 48 384 := ⟨by kernel_rfl⟩
instance : TyZ Tryd.prog 39 (.agg #[.int .u64 0, .int .u64 0, .int .u64 0, .int .u64 0, .int .u64 0, .int .u64 0, .int .u64 0, .int .u64 0, .int .u64 0, .int .u64 0, .int .u64 0, .int .u64 0, .int .u64 0, .int .u64 0, .int .u64 0, .int .u64 0, .int .u64 0, .int .u64 0, .int .u64 0, .int .u64 0, .int .u64 0, .int .u64 0, .int .u64 0, .int .u64 0, .int .u64 0, .int .u64 0, .int .u64 0, .int .u64 0, .int .u64 0, .int .u64 0, .int .u64 0, .int .u64 0, .int .u64 0, .int .u64 0, .int .u64 0, .int .u64 0, .int .u64 0, .int .u64 0, .int .u64 0, .int .u64 0, .int .u64 0, .int .u64 0, .int .u64 0, .int .u64 0, .int .u64 0, .int .u64 0, .int .u64 0, .int .u64 0]) := ⟨by kernel_rfl⟩
instance : TyA Tryd.prog 39 48 := ⟨by kernel_rfl, by kernel_rfl⟩
instance : TyP Tryd.prog 39 [(0, 16), (16, 16), (32, 16)] [.int .u64 0, .int .u64 0, .int .u64 0, .int .u64 0, .int .u64 0, .int .u64 0, .int .u64 0, .int .u64 0, .int .u64 0, .int .u64 0, .int .u64 0, .int .u64 0, .int .u64 0, .int .u64 0, .int .u64 0, .int .u64 0, .int .u64 0, .int .u64 0, .int .u64 0, .int .u64 0, .int .u64 0, .int .u64 0, .int .u64 0, .int .u64 0, .int .u64 0, .int .u64 0, .int .u64 0, .int .u64 0, .int .u64 0, .int .u64 0, .int .u64 0, .int .u64 0, .int .u64 0, .int .u64 0, .int .u64 0, .int .u64 0, .int .u64 0, .int .u64 0, .int .u64 0, .int .u64 0, .int .u64 0, .int .u64 0, .int .u64 0, .int .u64 0, .int .u64 0, .int .u64 0, .int .u64 0, .int .u64 0] := ⟨by kernel_rfl⟩
instance : Fld Tryd.prog 39 0 0 37 := ⟨by kernel_rfl⟩
instance : Fld Tryd.prog 39 1 16 37 := ⟨by kernel_rfl⟩
instance : Fld Tryd.prog 39 2 32 37 := ⟨by kernel_rfl⟩
instance : TyD Tryd.prog 44 (.slice 22) := ⟨by kernel_rfl⟩
instance : TyS Tryd.prog 44 1 24 := ⟨by kernel_rfl⟩
instance : TyZ Tryd.prog 44 (.slice none 0 0) := ⟨by kernel_rfl⟩
instance : TyC Tryd.prog 44 := ⟨by kernel_rfl, by kernel_rfl, by kernel_rfl⟩
instance : TyD Tryd.prog 45 (.array 32 5) := ⟨by kernel_rfl⟩
instance : TyS Tryd.prog 45 32 32 := ⟨by kernel_rfl⟩
instance : TyZ Tryd.prog 45 (.agg #[.int .u8 0, .int .u8 0, .int .u8 0, .int .u8 0, .int .u8 0, .int .u8 0, .int .u8 0, .int .u8 0, .int .u8 0, .int .u8 0, .int .u8 0, .int .u8 0, .int .u8 0, .int .u8 0, .int .u8 0, .int .u8 0, .int .u8 0, .int .u8 0, .int .u8 0, .int .u8 0, .int .u8 0, .int .u8 0, .int .u8 0, .int .u8 0, .int .u8 0, .int .u8 0, .int .u8 0, .int .u8 0, .int .u8 0, .int .u8 0, .int .u8 0, .int .u8 0]) := ⟨by kernel_rfl⟩
instance : TyA Tryd.prog 45 32 := ⟨by kernel_rfl, by kernel_rfl⟩
instance : TyD Tryd.prog 56 (.pointer 99) := ⟨by kernel_rfl⟩
instance : TyS Tryd.prog 56 1 8 := ⟨by kernel_rfl⟩
instance : TyZ Tryd.prog 56 (.pointer none) := ⟨by kernel_rfl⟩
instance : TyC Tryd.prog 56 := ⟨by kernel_rfl, by kernel_rfl, by kernel_rfl⟩
instance : TyD Tryd.prog 62 (.pointer 106) := ⟨by kernel_rfl⟩
instance : TyS Tryd.prog 62 1 8 := ⟨by kernel_rfl⟩
instance : TyZ Tryd.prog 62 (.pointer none) := ⟨by kernel_rfl⟩
instance : TyC Tryd.prog 62 := ⟨by kernel_rfl, by kernel_rfl, by kernel_rfl⟩
instance : TyD Tryd.prog 67 (.pointer 73) := ⟨by kernel_rfl⟩
instance : TyS Tryd.prog 67 1 8 := ⟨by kernel_rfl⟩
instance : TyZ Tryd.prog 67 (.pointer none) := ⟨by kernel_rfl⟩
instance : TyC Tryd.prog 67 := ⟨by kernel_rfl, by kernel_rfl, by kernel_rfl⟩
instance : TyD Tryd.prog 71 (.array 16 37) := ⟨by kernel_rfl⟩
instance : TyS Tryd.prog 71 256 2048 := ⟨by kernel_rfl⟩
instance : TyA Tryd.prog 71 256 := ⟨by kernel_rfl, by kernel_rfl⟩
instance : TyS Tryd.prog 72 272 2176 := ⟨by kernel_rfl⟩
instance : TyA Tryd.prog 72 272 := ⟨by kernel_rfl, by kernel_rfl⟩
instance : Fld Tryd.prog 72 0 0 37 := ⟨by kernel_rfl⟩
instance : Fld Tryd.prog 72 1 16 71 := ⟨by kernel_rfl⟩
instance : TyS Tryd.prog 73 272 2176 := ⟨by kernel_rfl⟩
instance : TyA Tryd.prog 73 272 := ⟨by kernel_rfl, by kernel_rfl⟩
instance : Fld Tryd.prog 73 0 0 37 := ⟨by kernel_rfl⟩
instance : Fld Tryd.prog 73 1 16 71 := ⟨by kernel_rfl⟩
instance : TyD Tryd.prog 86 (.array 64 5) := ⟨by kernel_rfl⟩
instance : TyS Tryd.prog 86 64 64 := ⟨by kernel_rfl⟩
instance : TyZ Tryd.prog 86 (.agg #[.int .u8 0, .int .u8 0, .int .u8 0, .int .u8 0, .int .u8 0, .int .u8 0, .int .u8 0, .int .u8 0, .int .u8 0, .int .u8 0, .int .u8 0, .int .u8 0, .int .u8 0, .int .u8 0, .int .u8 0, .int .u8 0, .int .u8 0, .int .u8 0, .int .u8 0, .int .u8 0, .int .u8 0, .int .u8 0, .int .u8 0, .int .u8 0, .int .u8 0, .int .u8 0, .int .u8 0, .int .u8 0, .int .u8 0, .int .u8 0, .int .u8 0, .int .u8 0, .int .u8 0, .int .u8 0, .int .u8 0, .int .u8 0, .int .u8 0, .int .u8 0, .int .u8 0, .int .u8 0, .int .u8 0, .int .u8 0, .int .u8 0, .int .u8 0, .int .u8 0, .int .u8 0, .int .u8 0, .int .u8 0, .int .u8 0, .int .u8 0, .int .u8 0, .int .u8 0, .int .u8 0, .int .u8 0, .int .u8 0, .int .u8 0, .int .u8 0, .int .u8 0, .int .u8 0, .int .u8 0, .int .u8 0, .int .u8 0, .int .u8 0, .int .u8 0]) := ⟨by kernel_rfl⟩
instance : TyA Tryd.prog 86 64 := ⟨by kernel_rfl, by kernel_rfl⟩
instance : TyD Tryd.prog 87 (.array 2 86) := ⟨by kernel_rfl⟩
instance : TyS Tryd.prog 87 128 128 := ⟨by kernel_rfl⟩
instance : TyA Tryd.prog 87 128 := ⟨by kernel_rfl, by kernel_rfl⟩
instance : TyD Tryd.prog 88 (.pointer 128) := ⟨by kernel_rfl⟩
instance : TyS Tryd.prog 88 1 8 := ⟨by kernel_rfl⟩
instance : TyZ Tryd.prog 88 (.pointer none) := ⟨by kernel_rfl⟩
instance : TyC Tryd.prog 88 := ⟨by kernel_rfl, by kernel_rfl, by kernel_rfl⟩
instance : TyD Tryd.prog 92 (.slice 35) := ⟨by kernel_rfl⟩
instance : TyS Tryd.prog 92 1 24 := ⟨by kernel_rfl⟩
instance : TyZ Tryd.prog 92 (.slice none 0 0) := ⟨by kernel_rfl⟩
instance : TyC Tryd.prog 92 := ⟨by kernel_rfl, by kernel_rfl, by kernel_rfl⟩
instance : TyD Tryd.prog 94 (.array 64 35) := ⟨by kernel_rfl⟩
instance : TyS Tryd.prog 94 64 512 := ⟨by kernel_rfl⟩
instance : TyZ Tryd.prog 94 (.agg #[.int .u64 0, .int .u64 0, .int .u64 0, .int .u64 0, .int .u64 0, .int .u64 0, .int .u64 0, .int .u64 0, .int .u64 0, .int .u64 0, .int .u64 0, .int .u64 0, .int .u64 0, .int .u64 0, .int .u64 0, .int .u64 0, .int .u64 0, .int .u64 0, .int .u64 0, .int .u64 0, .int .u64 0, .int .u64 0, .int .u64 0, .int .u64 0, .int .u64 0, .int .u64 0, .int .u64 0, .int .u64 0, .int .u64 0, .int .u64 0, .int .u64 0, .int .u64 0, .int .u64 0, .int .u64 0, .int .u64 0, .int .u64 0, .int .u64 0, .int .u64 0, .int .u64 0, .int .u64 0, .int .u64 0, .int .u64 0, .int .u64 0, .int .u64 0, .int .u64 0, .int .u64 0, .int .u64 0, .int .u64 0, .int .u64 0, .int .u64 0, .int .u64 0, .int .u64 0, .int .u64 0, .int .u64 0, .int .u64 0, .int .u64 0, .int .u64 0, .int .u64 0, .int .u64 0, .int .u64 0, .int .u64 0, .int .u64 0, .int .u64 0, .int .u64 0]) := ⟨by kernel_rfl⟩
instance : TyA Tryd.prog 94 64 := ⟨by kernel_rfl, by kernel_rfl⟩
instance : TyD Tryd.prog 96 (.int .u64) := ⟨by kernel_rfl⟩
instance : TyS Tryd.prog 96 1 8 := ⟨by kernel_rfl⟩
instance : TyZ Tryd.prog 96 (.int .u64 0) := ⟨by kernel_rfl⟩
instance : TyC Tryd.prog 96 := ⟨by kernel_rfl, by kernel_rfl, by kernel_rfl⟩
instance : TyS Tryd.prog 98 25 100 := ⟨by kernel_rfl⟩
instance : TyZ Tryd.prog 98 (.agg #[.int .u32 0, .int .u32 0, .int .u32 0, .int .u32 0, .int .u32 0, .int .u32 0, .int .u32 0, .int .u32 0, .int .u32 0, .int .u32 0, .int .u32 0, .int .u32 0, .int .u32 0, .int .u32 0, .int .u32 0, .int .u32 0, .int .u32 0, .int .u32 0, .int .u32 0, .int .u32 0, .int .u32 0, .int .u32 0, .int .u32 0, .int .u32 0, .int .u32 0]) := ⟨by kernel_rfl⟩
instance : TyA Tryd.prog 98 25 := ⟨by kernel_rfl, by kernel_rfl⟩
instance : TyP Tryd.prog 98 [(0, 8), (8, 1), (9, 8), (17, 8)] [.int .u32 0, .int .u32 0, .int .u32 0, .int .u32 0, .int .u32 0, .int .u32 0, .int .u32 0, .int .u32 0, .int .u32 0, .int .u32 0, .int .u32 0, .int .u32 0, .int .u32 0, .int .u32 0, .int .u32 0, .int .u32 0, .int .u32 0, .int .u32 0, .int .u32 0, .int .u32 0, .int .u32 0, .int .u32 0, .int .u32 0, .int .u32 0, .int .u32 0] := ⟨by kernel_rfl⟩
instance : Fld Tryd.prog 98 0 0 30 := ⟨by kernel_rfl⟩
instance : Fld Tryd.prog 98 1 8 28 := ⟨by kernel_rfl⟩
instance : Fld Tryd.prog 98 2 9 30 := ⟨by kernel_rfl⟩
instance : Fld Tryd.prog 98 3 17 30 := ⟨by kernel_rfl⟩
instance : TyS Tryd.prog 99 25 100 := ⟨by kernel_rfl⟩
instance : TyZ Tryd.prog 99 (.agg #[.int .u32 0, .int .u32 0, .int .u32 0, .int .u32 0, .int .u32 0, .int .u32 0, .int .u32 0, .int .u32 0, .int .u32 0, .int .u32 0, .int .u32 0, .int .u32 0, .int .u32 0, .int .u32 0, .int .u32 0, .int .u32 0, .int .u32 0, .int .u32 0, .int .u32 0, .int .u32 0, .int .u32 0, .int .u32 0, .int .u32 0, .int .u32 0, .int .u32 0]) := ⟨by kernel_rfl⟩
instance : TyA Tryd.prog 99 25 := ⟨by kernel_rfl, by kernel_rfl⟩
instance : TyP Tryd.prog 99 [(0, 8), (8, 1), (9, 8), (17, 8)] [.int .u32 0, .int .u32 0, .int .u32 0, .int .u32 0, .int .u32 0, .int .u32 0, .int .u32 0, .int .u32 0, .int .u32 0, .int .u32 0, .int .u32 0, .int .u32 0, .int .u32 0, .int .u32 0, .int .u32 0, .int .u32 0, .int .u32 0, .int .u32 0, .int .u32 0, .int .u32 0, .int .u32 0, .int .u32 0, .int .u32 0, .int .u32 0, .int .u32 0] := ⟨by kernel_rfl⟩
instance : Fld Tryd.prog 99 0 0 30 := ⟨by kernel_rfl⟩
instance : Fld Tryd.prog 99 1 8 28 := ⟨by kernel_rfl⟩
instance : Fld Tryd.prog 99 2 9 30 := ⟨by kernel_rfl⟩
instance : Fld Tryd.prog 99 3 17 30 := ⟨by kernel_rfl⟩
instance : TyD Tryd.prog 102 (.array 10 28) := ⟨by kernel_rfl⟩
instance : TyS Tryd.prog 102 10 40 := ⟨by kernel_rfl⟩
instance : TyZ Tryd.prog 102 (.agg #[.int .u32 0, .int .u32 0, .int .u32 0, .int .u32 0, .int .u32 0, .int .u32 0, .int .u32 0, .int .u32 0, .int .u32 0, .int .u32 0]) := ⟨by kernel_rfl⟩
instance : TyA Tryd.prog 102 10 := ⟨by kernel_rfl, by kernel_rfl⟩
instance : TyD Tryd.prog 104 (.slice 28) := ⟨by kernel_rfl⟩
instance : TyS Tryd.prog 104 1 24 := ⟨by kernel_rfl⟩
instance : TyZ Tryd.prog 104 (.slice none 0 0) := ⟨by kernel_rfl⟩
instance : TyC Tryd.prog 104 := ⟨by kernel_rfl, by kernel_rfl, by kernel_rfl⟩
instance : TyS Tryd.prog 105 9 40 := ⟨by kernel_rfl⟩
instance : TyZ Tryd.prog 105 (.agg #[.pointer none, .int .u32 0, .int .u32 0, .int .u32 0, .int .u32 0, .int .u32 0, .int .u32 0, .int .u32 0, .int .u32 0]) := ⟨by kernel_rfl⟩
instance : TyA Tryd.prog 105 9 := ⟨by kernel_rfl, by kernel_rfl⟩
instance : TyP Tryd.prog 105 [(0, 1), (1, 8)] [.pointer none, .int .u32 0, .int .u32 0, .int .u32 0, .int .u32 0, .int .u32 0, .int .u32 0, .int .u32 0, .int .u32 0] := ⟨by kernel_rfl⟩
instance : Fld Tryd.prog 105 0 0 56 := ⟨by kernel_rfl⟩
instance : Fld Tryd.prog 105 1 1 30 := ⟨by kernel_rfl⟩
instance : TyS Tryd.prog 106 9 40 := ⟨by kernel_rfl⟩
instance : TyZ Tryd.prog 106 (.agg #[.pointer none, .int .u32 0, .int .u32 0, .int .u32 0, .int .u32 0, .int .u32 0, .int .u32 0, .int .u32 0, .int .u32 0]) := ⟨by kernel_rfl⟩
instance : TyA Tryd.prog 106 9 := ⟨by kernel_rfl, by kernel_rfl⟩
instance : TyP Tryd.prog 106 [(0, 1), (1, 8)] [.pointer none, .int .u32 0, .int .u32 0, .int .u32 0, .int .u32 0, .int .u32 0, .int .u32 0, .int .u32 0, .int .u32 0] := ⟨by kernel_rfl⟩
instance : Fld Tryd.prog 106 0 0 56 := ⟨by kernel_rfl⟩
instance : Fld Tryd.prog 106 1 1 30 := ⟨by kernel_rfl⟩
instance : TyS Tryd.prog 107 24 96 := ⟨by kernel_rfl⟩
instance : TyZ Tryd.prog 107 (.agg #[.int .u32 0, .int .u32 0, .int .u32 0, .int .u32 0, .int .u32 0, .int .u32 0, .int .u32 0, .int .u32 0, .int .u32 0, .int .u32 0, .int .u32 0, .int .u32 0, .int .u32 0, .int .u32 0, .int .u32 0, .int .u32 0, .int .u32 0, .int .u32 0, .int .u32 0, .int .u32 0, .int .u32 0, .int .u32 0, .int .u32 0, .int .u32 0]) := ⟨by kernel_rfl⟩
instance : TyA Tryd.prog 107 24 := ⟨by kernel_rfl, by kernel_rfl⟩
instance : TyP Tryd.prog 107 [(0, 8), (8, 8), (16, 8)] [.int .u32 0, .int .u32 0, .int .u32 0, .int .u32 0, .int .u32 0, .int .u32 0, .int .u32 0, .int .u32 0, .int .u32 0, .int .u32 0, .int .u32 0, .int .u32 0, .int .u32 0, .int .u32 0, .int .u32 0, .int .u32 0, .int .u32 0, .int .u32 0, .int .u32 0, .int .u32 0, .int .u32 0, .int .u32 0, .int .u32 0, .int .u32 0] := ⟨by kernel_rfl⟩
instance : Fld Tryd.prog 107 0 0 30 := ⟨by kernel_rfl⟩
instance : Fld Tryd.prog 107 1 8 30 := ⟨by kernel_rfl⟩
instance : Fld Tryd.prog 107 2 16 30 := ⟨by kernel_rfl⟩
instance : TyS Tryd.prog 108 24 96 := ⟨by kernel_rfl⟩
instance : TyZ Tryd.prog 108 (.agg #[.int .u32 0, .int .u32 0, .int .u32 0, .int .u32 0, .int .u32 0, .int .u32 0, .int .u32 0, .int .u32 0, .int .u32 0, .int .u32 0, .int .u32 0, .int .u32 0, .int .u32 0, .int .u32 0, .int .u32 0, .int .u32 0, .int .u32 0, .int .u32 0, .int .u32 0, .int .u32 0, .int .u32 0, .int .u32 0, .int .u32 0, .int .u32 0]) := ⟨by kernel_rfl⟩
instance : TyA Tryd.prog 108 24 := ⟨by kernel_rfl, by kernel_rfl⟩
instance : TyP Tryd.prog 108 [(0, 8), (8, 8), (16, 8)] [.int .u32 0, .int .u32 0, .int .u32 0, .int .u32 0, .int .u32 0, .int .u32 0, .int .u32 0, .int .u32 0, .int .u32 0, .int .u32 0, .int .u32 0, .int .u32 0, .int .u32 0, .int .u32 0, .int .u32 0, .int .u32 0, .int .u32 0, .int .u32 0, .int .u32 0, .int .u32 0, .int .u32 0, .int .u32 0, .int .u32 0, .int .u32 0] := ⟨by kernel_rfl⟩
instance : Fld Tryd.prog 108 0 0 30 := ⟨by kernel_rfl⟩
instance : Fld Tryd.prog 108 1 8 30 := ⟨by kernel_rfl⟩
instance : Fld Tryd.prog 108 2 16 30 := ⟨by kernel_rfl⟩
instance : TyD Tryd.prog 118 (.array 33 35) := ⟨by kernel_rfl⟩
instance : TyS Tryd.prog 118 33 264 := ⟨by kernel_rfl⟩
instance : TyZ Tryd.prog 118 (.agg #[.int .u64 0, .int .u64 0, .int .u64 0, .int .u64 0, .int .u64 0, .int .u64 0, .int .u64 0, .int .u64 0, .int .u64 0, .int .u64 0, .int .u64 0, .int .u64 0, .int .u64 0, .int .u64 0, .int .u64 0, .int .u64 0, .int .u64 0, .int .u64 0, .int .u64 0, .int .u64 0, .int .u64 0, .int .u64 0, .int .u64 0, .int .u64 0, .int .u64 0, .int .u64 0, .int .u64 0, .int .u64 0, .int .u64 0, .int .u64 0, .int .u64 0, .int .u64 0, .int .u64 0]) := ⟨by kernel_rfl⟩
instance : TyA Tryd.prog 118 33 := ⟨by kernel_rfl, by kernel_rfl⟩
instance : TyD Tryd.prog 120 (.pointer 118) := ⟨by kernel_rfl⟩
instance : TyS Tryd.prog 120 1 8 := ⟨by kernel_rfl⟩
instance : TyZ Tryd.prog 120 (.pointer none) := ⟨by kernel_rfl⟩
instance : TyC Tryd.prog 120 := ⟨by kernel_rfl, by kernel_rfl, by kernel_rfl⟩
instance : TyD Tryd.prog 125 (.pointer 134) := ⟨by kernel_rfl⟩
instance : TyS Tryd.prog 125 1 8 := ⟨by kernel_rfl⟩
instance : TyZ Tryd.prog 125 (.pointer none) := ⟨by kernel_rfl⟩
instance : TyC Tryd.prog 125 := ⟨by kernel_rfl, by kernel_rfl, by kernel_rfl⟩
instance : TyS Tryd.prog 127 73 104 := ⟨by kernel_rfl⟩
instance : TyA Tryd.prog 127 73 := ⟨by kernel_rfl, by kernel_rfl⟩
instance : Fld Tryd.prog 127 0 0 29 := ⟨by kernel_rfl⟩
instance : Fld Tryd.prog 127 1 8 86 := ⟨by kernel_rfl⟩
instance : Fld Tryd.prog 127 2 72 35 := ⟨by kernel_rfl⟩
instance : TyS Tryd.prog 128 73 104 := ⟨by kernel_rfl⟩
instance : TyA Tryd.prog 128 73 := ⟨by kernel_rfl, by kernel_rfl⟩
instance : Fld Tryd.prog 128 0 0 29 := ⟨by kernel_rfl⟩
instance : Fld Tryd.prog 128 1 8 86 := ⟨by kernel_rfl⟩
instance : Fld Tryd.prog 128 2 72 35 := ⟨by kernel_rfl⟩
instance : TyD Tryd.prog 130 (.array 17 35) := ⟨by kernel_rfl⟩
instance : TyS Tryd.prog 130 17 136 := ⟨by kernel_rfl⟩
instance : TyZ Tryd.prog 130 (.agg #[.int .u64 0, .int .u64 0, .int .u64 0, .int .u64 0, .int .u64 0, .int .u64 0, .int .u64 0, .int .u64 0, .int .u64 0, .int .u64 0, .int .u64 0, .int .u64 0, .int .u64 0, .int .u64 0, .int .u64 0, .int .u64 0, .int .u64 0]) := ⟨by kernel_rfl⟩
instance : TyA Tryd.prog 130 17 := ⟨by kernel_rfl, by kernel_rfl⟩
instance : TyS Tryd.prog 133 64 64 := ⟨by kernel_rfl⟩
instance : TyZ Tryd.prog 133 (.agg #[.int .u8 0, .int .u8 0, .int .u8 0, .int .u8 0, .int .u8 0, .int .u8 0, .int .u8 0, .int .u8 0, .int .u8 0, .int .u8 0, .int .u8 0, .int .u8 0, .int .u8 0, .int .u8 0, .int .u8 0, .int .u8 0, .int .u8 0, .int .u8 0, .int .u8 0, .int .u8 0, .int .u8 0, .int .u8 0, .int .u8 0, .int .u8 0, .int .u8 0, .int .u8 0, .int .u8 0, .int .u8 0, .int .u8 0, .int .u8 0, .int .u8 0, .int .u8 0, .int .u8 0, .int .u8 0, .int .u8 0, .int .u8 0, .int .u8 0, .int .u8 0, .int .u8 0, .int .u8 0, .int .u8 0, .int .u8 0, .int .u8 0, .int .u8 0, .int .u8 0, .int .u8 0, .int .u8 0, .int .u8 0, .int .u8 0, .int .u8 0, .int .u8 0, .int .u8 0, .int .u8 0, .int .u8 0, .int .u8 0, .int .u8 0, .int .u8 0, .int .u8 0, .int .u8 0, .int .u8 0, .int .u8 0, .int .u8 0, .int .u8 0, .int .u8 0]) := ⟨by kernel_rfl⟩
instance : TyA Tryd.prog 133 64 := ⟨by kernel_rfl, by kernel_rfl⟩
instance : TyP Tryd.prog 133 [(0, 32), (32, 32)] [.int .u8 0, .int .u8 0, .int .u8 0, .int .u8 0, .int .u8 0, .int .u8 0, .int .u8 0, .int .u8 0, .int .u8 0, .int .u8 0, .int .u8 0, .int .u8 0, .int .u8 0, .int .u8 0, .int .u8 0, .int .u8 0, .int .u8 0, .int .u8 0, .int .u8 0, .int .u8 0, .int .u8 0, .int .u8 0, .int .u8 0, .int .u8 0, .int .u8 0, .int .u8 0, .int .u8 0, .int .u8 0, .int .u8 0, .int .u8 0, .int .u8 0, .int .u8 0, .int .u8 0, .int .u8 0, .int .u8 0, .int .u8 0, .int .u8 0, .int .u8 0, .int .u8 0, .int .u8 0, .int .u8 0, .int .u8 0, .int .u8 0, .int .u8 0, .int .u8 0, .int .u8 0, .int .u8 0, .int .u8 0, .int .u8 0, .int .u8 0, .int .u8 0, .int .u8 0, .int .u8 0, .int .u8 0, .int .u8 0, .int .u8 0, .int .u8 0, .int .u8 0, .int .u8 0, .int .u8 0, .int .u8 0, .int .u8 0, .int .u8 0, .int .u8 0] := ⟨by kernel_rfl⟩
instance : Fld Tryd.prog 133 0 0 45 := ⟨by kernel_rfl⟩
instance : Fld Tryd.prog 133 1 32 45 := ⟨by kernel_rfl⟩
instance : TyS Tryd.prog 134 64 64 := ⟨by kernel_rfl⟩
instance : TyZ Tryd.prog 134 (.agg #[.int .u8 0, .int .u8 0, .int .u8 0, .int .u8 0, .int .u8 0, .int .u8 0, .int .u8 0, .int .u8 0, .int .u8 0, .int .u8 0, .int .u8 0, .int .u8 0, .int .u8 0, .int .u8 0, .int .u8 0, .int .u8 0, .int .u8 0, .int .u8 0, .int .u8 0, .int .u8 0, .int .u8 0, .int .u8 0, .int .u8 0, .int .u8 0, .int .u8 0, .int .u8 0, .int .u8 0, .int .u8 0, .int .u8 0, .int .u8 0, .int .u8 0, .int .u8 0, .int .u8 0, .int .u8 0, .int .u8 0, .int .u8 0, .int .u8 0, .int .u8 0, .int .u8 0, .int .u8 0, .int .u8 0, .int .u8 0, .int .u8 0, .int .u8 0, .int .u8 0, .int .u8 0, .int .u8 0, .int .u8 0, .int .u8 0, .int .u8 0, .int .u8 0, .int .u8 0, .int .u8 0, .int .u8 0, .int .u8 0, .int .u8 0, .int .u8 0, .int .u8 0, .int .u8 0, .int .u8 0, .int .u8 0, .int .u8 0, .int .u8 0, .int .u8 0]) := ⟨by kernel_rfl⟩
instance : TyA Tryd.prog 134 64 := ⟨by kernel_rfl, by kernel_rfl⟩
instance : TyP Tryd.prog 134 [(0, 32), (32, 32)] [.int .u8 0, .int .u8 0, .int .u8 0, .int .u8 0, .int .u8 0, .int .u8 0, .int .u8 0, .int .u8 0, .int .u8 0, .int .u8 0, .int .u8 0, .int .u8 0, .int .u8 0, .int .u8 0, .int .u8 0, .int .u8 0, .int .u8 0, .int .u8 0, .int .u8 0, .int .u8 0, .int .u8 0, .int .u8 0, .int .u8 0, .int .u8 0, .int .u8 0, .int .u8 0, .int .u8 0, .int .u8 0, .int .u8 0, .int .u8 0, .int .u8 0, .int .u8 0, .int .u8 0, .int .u8 0, .int .u8 0, .int .u8 0, .int .u8 0, .int .u8 0, .int .u8 0, .int .u8 0, .int .u8 0, .int .u8 0, .int .u8 0, .int .u8 0, .int .u8 0, .int .u8 0, .int .u8 0, .int .u8 0, .int .u8 0, .int .u8 0, .int .u8 0, .int .u8 0, .int .u8 0, .int .u8 0, .int .u8 0, .int .u8 0, .int .u8 0, .int .u8 0, .int .u8 0, .int .u8 0, .int .u8 0, .int .u8 0, .int .u8 0, .int .u8 0] := ⟨by kernel_rfl⟩
instance : Fld Tryd.prog 134 0 0 45 := ⟨by kernel_rfl⟩
instance : Fld Tryd.prog 134 1 32 45 := ⟨by kernel_rfl⟩
instance : TyD Tryd.prog 135 (.array 64 28) := ⟨by kernel_rfl⟩
instance : TyS Tryd.prog 135 64 256 := ⟨by kernel_rfl⟩
instance : TyZ Tryd.prog 135 (.agg #[.int .u32 0, .int .u32 0, .int .u32 0, .int .u32 0, .int .u32 0, .int .u32 0, .int .u32 0, .int .u32 0, .int .u32 0, .int .u32 0, .int .u32 0, .int .u32 0, .int .u32 0, .int .u32 0, .int .u32 0, .int .u32 0, .int .u32 0, .int .u32 0, .int .u32 0, .int .u32 0, .int .u32 0, .int .u32 0, .int .u32 0, .int .u32 0, .int .u32 0, .int .u32 0, .int .u32 0, .int .u32 0, .int .u32 0, .int .u32 0, .int .u32 0, .int .u32 0, .int .u32 0, .int .u32 0, .int .u32 0, .int .u32 0, .int .u32 0, .int .u32 0, .int .u32 0, .int .u32 0, .int .u32 0, .int .u32 0, .int .u32 0, .int .u32 0, .int .u32 0, .int .u32 0, .int .u32 0, .int .u32 0, .int .u32 0, .int .u32 0, .int .u32 0, .int .u32 0, .int .u32 0, .int .u32 0, .int .u32 0, .int .u32 0, .int .u32 0, .int .u32 0, .int .u32 0, .int .u32 0, .int .u32 0, .int .u32 0, .int .u32 0, .int .u32 0]) := ⟨by kernel_rfl⟩
instance : TyA Tryd.prog 135 64 := ⟨by kernel_rfl, by kernel_rfl⟩
instance : TyD Tryd.prog 138 (.array 8 35) := ⟨by kernel_rfl⟩
instance : TyS Tryd.prog 138 8 64 := ⟨by kernel_rfl⟩
instance : TyZ Tryd.prog 138 (.agg #[.int .u64 0, .int .u64 0, .int .u64 0, .int .u64 0, .int .u64 0, .int .u64 0, .int .u64 0, .int .u64 0]) := ⟨by kernel_rfl⟩
instance : TyA Tryd.prog 138 8 := ⟨by kernel_rfl, by kernel_rfl⟩
instance : TyS Tryd.prog 140 4 40 := ⟨by kernel_rfl⟩
instance : TyZ Tryd.prog 140 (.agg #[.pointer none, .pointer none, .pointer none, .string ⟨#[]⟩]) := ⟨by kernel_rfl⟩
instance : TyA Tryd.prog 140 4 := ⟨by kernel_rfl, by kernel_rfl⟩
instance : TyP Tryd.prog 140 [(0, 1), (1, 1), (2, 1), (3, 1)] [.pointer none, .pointer none, .pointer none, .string ⟨#[]⟩] := ⟨by kernel_rfl⟩
instance : Fld Tryd.prog 140 0 0 17 := ⟨by kernel_rfl⟩
instance : Fld Tryd.prog 140 1 1 17 := ⟨by kernel_rfl⟩
instance : Fld Tryd.prog 140 2 2 17 := ⟨by kernel_rfl⟩
instance : Fld Tryd.prog 140 3 3 9 := ⟨by kernel_rfl⟩
instance : TyS Tryd.prog 141 4 40 := ⟨by kernel_rfl⟩
instance : TyZ Tryd.prog 141 (.agg #[.pointer none, .pointer none, .pointer none, .string ⟨#[]⟩]) := ⟨by kernel_rfl⟩
instance : TyA Tryd.prog 141 4 := ⟨by kernel_rfl, by kernel_rfl⟩
instance : TyP Tryd.prog 141 [(0, 1), (1, 1), (2, 1), (3, 1)] [.pointer none, .pointer none, .pointer none, .string ⟨#[]⟩] := ⟨by kernel_rfl⟩
instance : Fld Tryd.prog 141 0 0 17 := ⟨by kernel_rfl⟩
instance : Fld Tryd.prog 141 1 1 17 := ⟨by kernel_rfl⟩
instance : Fld Tryd.prog 141 2 2 17 := ⟨by kernel_rfl⟩
instance : Fld Tryd.prog 141 3 3 9 := ⟨by kernel_rfl⟩
instance : TyD Tryd.prog 142 (.array 0 16) := ⟨by kernel_rfl⟩
instance : TyS Tryd.prog 142 0 0 := ⟨by kernel_rfl⟩
instance : TyZ Tryd.prog 142 (.agg #[]) := ⟨by kernel_rfl⟩
instance : TyA Tryd.prog 142 0 := ⟨by kernel_rfl, by kernel_rfl⟩
instance : TyS Tryd.prog 143 0 0 := ⟨by kernel_rfl⟩
instance : TyZ Tryd.prog 143 (.agg #[]) := ⟨by kernel_rfl⟩
instance : TyA Tryd.prog 143 0 := ⟨by kernel_rfl, by kernel_rfl⟩
instance : TyP Tryd.prog 143 [(0, 0)] [] := ⟨by kernel_rfl⟩
instance : TyS Tryd.prog 144 0 0 := ⟨by kernel_rfl⟩
instance : TyZ Tryd.prog 144 (.agg #[]) := ⟨by kernel_rfl⟩
instance : TyA Tryd.prog 144 0 := ⟨by kernel_rfl, by kernel_rfl⟩
instance : TyP Tryd.prog 144 [(0, 0)] [] := ⟨by kernel_rfl⟩
instance : TyD Tryd.prog 146 (.int .u8) := ⟨by kernel_rfl⟩
instance : TyS Tryd.prog 146 1 1 := ⟨by kernel_rfl⟩
instance : TyZ Tryd.prog 146 (.int .u8 0) := ⟨by kernel_rfl⟩
instance : TyC Tryd.prog 146 := ⟨by kernel_rfl, by kernel_rfl, by kernel_rfl⟩
instance : TyD Tryd.prog 147 (.int .u8) := ⟨by kernel_rfl⟩
instance : TyS Tryd.prog 147 1 1 := ⟨by kernel_rfl⟩
instance : TyZ Tryd.prog 147 (.int .u8 0) := ⟨by kernel_rfl⟩
instance : TyC Tryd.prog 147 := ⟨by kernel_rfl, by kernel_rfl, by kernel_rfl⟩
instance : TyD Tryd.prog 149 (.pointer 5) := ⟨by kernel_rfl⟩
instance : TyS Tryd.prog 149 1 8 := ⟨by kernel_rfl⟩
instance : TyZ Tryd.prog 149 (.pointer none) := ⟨by kernel_rfl⟩
instance : TyC Tryd.prog 149 := ⟨by kernel_rfl, by kernel_rfl, by kernel_rfl⟩
instance : TyD Tryd.prog 150 (.int .i32) := ⟨by kernel_rfl⟩
instance : TyS Tryd.prog 150 1 4 := ⟨by kernel_rfl⟩
instance : TyZ Tryd.prog 150 (.int .i32 0) := ⟨by kernel_rfl⟩
instance : TyC Tryd.prog 150 := ⟨by kernel_rfl, by kernel_rfl, by kernel_rfl⟩
instance : TyD Tryd.prog 151 (.int .i32) := ⟨by kernel_rfl⟩
instance : TyS Tryd.prog 151 1 4 := ⟨by kernel_rfl⟩
instance : TyZ Tryd.prog 151 (.int .i32 0) := ⟨by kernel_rfl⟩
instance : TyC Tryd.prog 151 := ⟨by kernel_rfl, by kernel_rfl, by kernel_rfl⟩
instance : TyS Tryd.prog 152 11 48 := ⟨by kernel_rfl⟩
instance : TyZ Tryd.prog 152 (.agg #[.int .u64 0, .int .u64 0, .int .u32 0, .int .u8 0, .int .u8 0, .int .u8 0, .int .u8 0, .nilFunc, .pointer none, .int .i32 0, .int .i32 0]) := ⟨by kernel_rfl⟩
instance : TyA Tryd.prog 152 11 := ⟨by kernel_rfl, by kernel_rfl⟩
instance : Fld Tryd.prog 152 0 0 12 := ⟨by kernel_rfl⟩
instance : Fld Tryd.prog 152 1 1 12 := ⟨by kernel_rfl⟩
instance : Fld Tryd.prog 152 2 2 28 := ⟨by kernel_rfl⟩
instance : Fld Tryd.prog 152 3 3 146 := ⟨by kernel_rfl⟩
instance : Fld Tryd.prog 152 4 4 5 := ⟨by kernel_rfl⟩
instance : Fld Tryd.prog 152 5 5 5 := ⟨by kernel_rfl⟩
instance : Fld Tryd.prog 152 6 6 147 := ⟨by kernel_rfl⟩
instance : Fld Tryd.prog 152 8 8 149 := ⟨by kernel_rfl⟩
instance : Fld Tryd.prog 152 9 9 150 := ⟨by kernel_rfl⟩
instance : Fld Tryd.prog 152 10 10 151 := ⟨by kernel_rfl⟩
instance : TyS Tryd.prog 153 11 48 := ⟨by kernel_rfl⟩
instance : TyZ Tryd.prog 153 (.agg #[.int .u64 0, .int .u64 0, .int .u32 0, .int .u8 0, .int .u8 0, .int .u8 0, .int .u8 0, .nilFunc, .pointer none, .int .i32 0, .int .i32 0]) := ⟨by kernel_rfl⟩
instance : TyA Tryd.prog 153 11 := ⟨by kernel_rfl, by kernel_rfl⟩
instance : Fld Tryd.prog 153 0 0 12 := ⟨by kernel_rfl⟩
instance : Fld Tryd.prog 153 1 1 12 := ⟨by kernel_rfl⟩
instance : Fld Tryd.prog 153 2 2 28 := ⟨by kernel_rfl⟩
instance : Fld Tryd.prog 153 3 3 146 := ⟨by kernel_rfl⟩
instance : Fld Tryd.prog 153 4 4 5 := ⟨by kernel_rfl⟩
instance : Fld Tryd.prog 153 5 5 5 := ⟨by kernel_rfl⟩
instance : Fld Tryd.prog 153 6 6 147 := ⟨by kernel_rfl⟩
instance : Fld Tryd.prog 153 8 8 149 := ⟨by kernel_rfl⟩
instance : Fld Tryd.prog 153 9 9 150 := ⟨by kernel_rfl⟩
instance : Fld Tryd.prog 153 10 10 151 := ⟨by kernel_rfl⟩
instance : TyS Tryd.prog 154 1 8 := ⟨by kernel_rfl⟩
instance : TyZ Tryd.prog 154 (.pointer none) := ⟨by kernel_rfl⟩
instance : TyC Tryd.prog 154 := ⟨by kernel_rfl, by kernel_rfl, by kernel_rfl⟩
instance : Ent Tryd.prog 3 := ent_of Tryd.func3 (by kernel_rfl) (by kernel_rfl)
instance : Ent Tryd.prog 4 := ent_of Tryd.func4 (by kernel_rfl) (by kernel_rfl)
instance : Ent Tryd.prog 5 := ent_of Tryd.func5 (by kernel_rfl) (by kernel_rfl)
instance : Ent Tryd.prog 6 := ent_of Tryd.func6 (by kernel_rfl) (by kernel_rfl)
instance : Ent Tryd.prog 7 := ent_of Tryd.func7 (by kernel_rfl) (by kernel_rfl)
instance : Ent Tryd.prog 8 := ent_of Tryd.func8 (by kernel_rfl) (by kernel_rfl)
instance : Ent Tryd.prog 9 := ent_of Tryd.func9 (by kernel_rfl) (by kernel_rfl)
instance : Ent Tryd.prog 10 := ent_of Tryd.func10 (by kernel_rfl) (by kernel_rfl)
instance : Ent Tryd.prog 11 := ent_of Tryd.func11 (by kernel_rfl) (by kernel_rfl)
instance : Ent Tryd.prog 12 := ent_of Tryd.func12 (by kernel_rfl) (by kernel_rfl)
instance : Ent Tryd.prog 13 := ent_of Tryd.func13 (by kernel_rfl) (by kernel_rfl)
instance : Ent Tryd.prog 14 := ent_of Tryd.func14 (by kernel_rfl) (by kernel_rfl)
instance : Ent Tryd.prog 15 := ent_of Tryd.func15 (by kernel_rfl) (by kernel_rfl)
instance : Ent Tryd.prog 16 := ent_of Tryd.func16 (by kernel_rfl) (by kernel_rfl)
instance : Ent Tryd.prog 17 := ent_of Tryd.func17 (by kernel_rfl) (by kernel_rfl)
instance : Ent Tryd.prog 18 := ent_of Tryd.func18 (by kernel_rfl) (by kernel_rfl)
instance : Ent Tryd.prog 19 := ent_of Tryd.func19 (by kernel_rfl) (by kernel_rfl)
instance : Ent Tryd.prog 20 := ent_of Tryd.func20 (by kernel_rfl) (by kernel_rfl)
instance : Ent Tryd.prog 21 := ent_of Tryd.func21 (by kernel_rfl) (by kernel_rfl)
instance : Ent Tryd.prog 22 := ent_of Tryd.func22 (by kernel_rfl) (by kernel_rfl)
instance : Ent Tryd.prog 23 := ent_of Tryd.func23 (by kernel_rfl) (by kernel_rfl)
instance : Ent Tryd.prog 24 := ent_of Tryd.func24 (by kernel_rfl) (by kernel_rfl)
instance : Ent Tryd.prog 25 := ent_of Tryd.func25 (by kernel_rfl) (by kernel_rfl)
instance : Ent Tryd.prog 26 := ent_of Tryd.func26 (by kernel_rfl) (by kernel_rfl)
instance : Ent Tryd.prog 27 := ent_of Tryd.func27 (by kernel_rfl) (by kernel_rfl)
instance : Ent Tryd.prog 28 := ent_of Tryd.func28 (by kernel_rfl) (by kernel_rfl)
instance : Ent Tryd.prog 29 := ent_of Tryd.func29 (by kernel_rfl) (by kernel_rfl)
instance : Ent Tryd.prog 30 := ent_of Tryd.func30 (by kernel_rfl) (by kernel_rfl)
instance : Ent Tryd.prog 31 := ent_of Tryd.func31 (by kernel_rfl) (by kernel_rfl)
instance : Ent Tryd.prog 32 := ent_of Tryd.func32 (by kernel_rfl) (by kernel_rfl)
instance : Ent Tryd.prog 33 := ent_of Tryd.func33 (by kernel_rfl) (by kernel_rfl)
instance : Ent Tryd.prog 34 := ent_of Tryd.func34 (by kernel_rfl) (by kernel_rfl)
instance : Ent Tryd.prog 35 := ent_of Tryd.func35 (by kernel_rfl) (by kernel_rfl)
instance : Ent Tryd.prog 36 := ent_of Tryd.func36 (by kernel_rfl) (by kernel_rfl)
instance : Ent Tryd.prog 37 := ent_of Tryd.func37 (by kernel_rfl) (by kernel_rfl)
instance : Ent Tryd.prog 38 := ent_of Tryd.func38 (by kernel_rfl) (by kernel_rfl)
instance : Ent Tryd.prog 39 := ent_of Tryd.func39 (by kernel_rfl) (by kernel_rfl)
instance : Ent Tryd.prog 40 := ent_of Tryd.func40 (by kernel_rfl) (by kernel_rfl)
instance : Ent Tryd.prog 41 := ent_of Tryd.func41 (by kernel_rfl) (by kernel_rfl)
instance : Ent Tryd.prog 42 := ent_of Tryd.func42 (by kernel_rfl) (by kernel_rfl)
instance : Ent Tryd.prog 43 := ent_of Tryd.func43 (by kernel_rfl) (by kernel_rfl)
instance : Ent Tryd.prog 44 := ent_of Tryd.func44 (by kernel_rfl) (by kernel_rfl)
instance : Ent Tryd.prog 45 := ent_of Tryd.func45 (by kernel_rfl) (by kernel_rfl)
instance : Ent Tryd.prog 46 := ent_of Tryd.func46 (by kernel_rfl) (by kernel_rfl)
instance : Ent Tryd.prog 47 := ent_of Tryd.func47 (by kernel_rfl) (by kernel_rfl)
instance : Ent Tryd.prog 48 := ent_of Tryd.func48 (by kernel_rfl) (by kernel_rfl)
instance : Ent Tryd.prog 49 := ent_of Tryd.func49 (by kernel_rfl) (by kernel_rfl)
instance : Ent Tryd.prog 50 := ent_of Tryd.func50 (by kernel_rfl) (by kernel_rfl)
instance : Ent Tryd.prog 51 := ent_of Tryd.func51 (by kernel_rfl) (by kernel_rfl)
instance : Ent Tryd.prog 52 := ent_of Tryd.func52 (by kernel_rfl) (by kernel_rfl)
instance : Ent Tryd.prog 53 := ent_of Tryd.func53 (by kernel_rfl) (by kernel_rfl)
instance : Ent Tryd.prog 54 := ent_of Tryd.func54 (by kernel_rfl) (by kernel_rfl)
instance : Ent Tryd.prog 55 := ent_of Tryd.func55 (by kernel_rfl) (by kernel_rfl)
instance : Ent Tryd.prog 56 := ent_of Tryd.func56 (by kernel_rfl) (by kernel_rfl)
instance : Ent Tryd.prog 57 := ent_of Tryd.func57 (by kernel_rfl) (by kernel_rfl)
instance : Ent Tryd.prog 58 := ent_of Tryd.func58 (by kernel_rfl) (by kernel_rfl)
instance : Ent Tryd.prog 59 := ent_of Tryd.func59 (by kernel_rfl) (by kernel_rfl)
instance : Ent Tryd.prog 60 := ent_of Tryd.func60 (by kernel_rfl) (by kernel_rfl)
instance : Ent Tryd.prog 61 := ent_of Tryd.func61 (by kernel_rfl) (by kernel_rfl)
instance : Ent Tryd.prog 62 := ent_of Tryd.func62 (by kernel_rfl) (by kernel_rfl)
instance : Ent Tryd.prog 63 := ent_of Tryd.func63 (by kernel_rfl) (by kernel_rfl)
instance : Ent Tryd.prog 64 := ent_of Tryd.func64 (by kernel_rfl) (by kernel_rfl)
instance : Ent Tryd.prog 65 := ent_of Tryd.func65 (by kernel_rfl) (by kernel_rfl)
instance : Ent Tryd.prog 66 := ent_of Tryd.func66 (by kernel_rfl) (by kernel_rfl)
instance : Ent Tryd.prog 67 := ent_of Tryd.func67 (by kernel_rfl) (by kernel_rfl)
instance : Ent Tryd.prog 68 := ent_of Tryd.func68 (by kernel_rfl) (by kernel_rfl)
instance : Ent Tryd.prog 69 := ent_of Tryd.func69 (by kernel_rfl) (by kernel_rfl)
instance : Ent Tryd.prog 70 := ent_of Tryd.func70 (by kernel_rfl) (by kernel_rfl)
instance : Ent Tryd.prog 71 := ent_of Tryd.func71 (by kernel_rfl) (by kernel_rfl)
instance : Ent Tryd.prog 72 := ent_of Tryd.func72 (by kernel_rfl) (by kernel_rfl)
instance : Ent Tryd.prog 73 := ent_of Tryd.func73 (by kernel_rfl) (by kernel_rfl)
instance : Ent Tryd.prog 74 := ent_of Tryd.func74 (by kernel_rfl) (by kernel_rfl)
instance : Ent Tryd.prog 75 := ent_of Tryd.func75 (by kernel_rfl) (by kernel_rfl)
instance : Ent Tryd.prog 76 := ent_of Tryd.func76 (by kernel_rfl) (by kernel_rfl)
instance : Ent Tryd.prog 77 := ent_of Tryd.func77 (by kernel_rfl) (by kernel_rfl)
instance : Ent Tryd.prog 78 := ent_of Tryd.func78 (by kernel_rfl) (by kernel_rfl)
instance : Ent Tryd.prog 79 := ent_of Tryd.func79 (by kernel_rfl) (by kernel_rfl)
instance : Ent Tryd.prog 80 := ent_of Tryd.func80 (by kernel_rfl) (by kernel_rfl)
instance : Ent Tryd.prog 81 := ent_of Tryd.func81 (by kernel_rfl) (by kernel_rfl)
instance : Ent Tryd.prog 82 := ent_of Tryd.func82 (by kernel_rfl) (by kernel_rfl)
instance : Ent Tryd.prog 83 := ent_of Tryd.func83 (by kernel_rfl) (by kernel_rfl)
instance : Ent Tryd.prog 84 := ent_of Tryd.func84 (by kernel_rfl) (by kernel_rfl)
instance : Ent Tryd.prog 85 := ent_of Tryd.func85 (by kernel_rfl) (by kernel_rfl)
instance : Ent Tryd.prog 86 := ent_of Tryd.func86 (by kernel_rfl) (by kernel_rfl)
instance : Ent Tryd.prog 87 := ent_of Tryd.func87 (by kernel_rfl) (by kernel_rfl)
instance : Ent Tryd.prog 88 := ent_of Tryd.func88 (by kernel_rfl) (by kernel_rfl)
instance : Ent Tryd.prog 89 := ent_of Tryd.func89 (by kernel_rfl) (by kernel_rfl)
instance : Ent Tryd.prog 90 := ent_of Tryd.func90 (by kernel_rfl) (by kernel_rfl)
instance : Ent Tryd.prog 91 := ent_of Tryd.func91 (by kernel_rfl) (by kernel_rfl)
instance : Ent Tryd.prog 93 := ent_of Tryd.func93 (by kernel_rfl) (by kernel_rfl)
theorem mixed : Tryd.prog.follows .mixedOrders = true := by kernel_rfl
end Go.Proofs.YtfaobdakpbpkbaaDoor
end
