/-
 10 texts, one behind the other; each says what it proves. Conditions: as each text says.
-/
import Derived.WalkKit
import Derived.WalkSpells
import Derived.WalkLawsBesides
import Derived.ProofKit
import Derived.Lib.SmallJoins
import Derived.Lib.Hide
import Derived.Deep.Quiet
import Derived.Laws.Slices
import Derived.LoopN
import Derived.Test.YtmjlceimjlabpaaDoorProg
import Derived.KernelRfl
section
namespace Go.Pt
open Go.RowKit
structure Upd (S : Nat → Prop) (w w' : World) : Prop where
 os : w'.os = w.os
 tape : w'.tape = w.tape
 output : w'.output = w.output
 size : w.heap.size ≤ w'.heap.size
 block : ∀ k, k < w.heap.size → ¬ S k → w'.heap[k]? = w.heap[k]?
theorem Upd.refl (S : Nat → Prop) (w : World) : Upd S w w := ⟨rfl, rfl, rfl, Nat.le_refl _, fun _ _ _ => rfl⟩
theorem Upd.trans {S : Nat → Prop} {a b c : World} (h : Upd S a b) (k : Upd S b c) : Upd S a c :=
 ⟨k.os.trans h.os, k.tape.trans h.tape, k.output.trans h.output, Nat.le_trans h.size k.size,
 fun i hi hs => (k.block i (Nat.lt_of_lt_of_le hi h.size) hs).trans (h.block i hi hs)⟩
theorem Upd.mono {S S' : Nat → Prop} {a b : World} (h : Upd S a b) (hs : ∀ k, k < a.heap.size → S k → S' k) : Upd S' a b :=
 ⟨h.os, h.tape, h.output, h.size, fun k hk hn => h.block k hk fun x => hn (hs k hk x)⟩
theorem Upd.comp {S S' T : Nat → Prop} {a b c : World} (h : Upd S a b) (k : Upd S' b c) (ht : ∀ k, k < a.heap.size → S k ∨ S' k → T k) : Upd T a c :=
 ⟨k.os.trans h.os, k.tape.trans h.tape, k.output.trans h.output, Nat.le_trans h.size k.size,
 fun i hi hs => (k.block i (Nat.lt_of_lt_of_le hi h.size) fun x => hs (ht i hi (.inr x))).trans (h.block i hi fun x => hs (ht i hi (.inl x)))⟩
theorem Upd.drew (S : Nat → Prop) (w : World) : Upd S w w.drew := ⟨rfl, rfl, rfl, Nat.le_refl _, fun _ _ _ => rfl⟩
theorem Upd.alloc (S : Nat → Prop) (w : World) (o : Obj) : Upd S w (w.alloc o) :=
 ⟨rfl, rfl, rfl, by simp, fun k hk _ => Below.heap_alloc _ _ _ hk⟩
theorem Upd.setCell {S : Nat → Prop} (w : World) (p : Addr) (u : Value) (hp : S p.block) : Upd S w (w.setCell p u) :=
 ⟨rfl, rfl, rfl, by simp [World.setCell], fun k _ hs => Below.heap_setCell _ _ _ _ fun e => hs (e ▸ hp)⟩
theorem Upd.grown {S : Nat → Prop} {w w' : World} {row : Option Nat} (hg : w.grownBy w' row) (hr : ∀ k, row = some k → S k) : Upd S w w' :=
 ⟨hg.os, hg.tape, hg.output, hg.size, fun k hk hs => hg.block k hk fun e => hs (hr k e.symm)⟩
theorem Upd.toBelow {S : Nat → Prop} {B : Nat} {w w' : World} (h : Upd S w w') (hB : B ≤ w.heap.size) (hs : ∀ k, k < B → ¬ S k) : Below B w w' :=
 ⟨h.os, h.tape, h.output, h.size, fun k hk => h.block k (Nat.lt_of_lt_of_le hk hB) (hs k hk)⟩
theorem Upd.cell {S : Nat → Prop} {w w' : World} (h : Upd S w w') {p : Addr} {v : Value} (hc : w.cell? p = some v) (hs : ¬ S p.block) : w'.cell? p = some v :=
 (World.cell?_of_block (w := w) (h.block p.block (World.block_lt_of_cell? w p hc) hs)).trans hc
theorem Upd.heap {S : Nat → Prop} {w w' : World} (h : Upd S w w') {k : Nat} {o : Obj} (hc : w.heap[k]? = some o) (hs : ¬ S k) : w'.heap[k]? = some o :=
 (h.block k (lt_of_block hc) hs).trans hc
theorem cellAt {w : World} {g : Nat} {cs : Array Value} {t : TypeId} {fr : Nat × Nat} (h : w.heap[g]? = some (.cells cs t fr)) (i : Nat) : w.cell? ⟨g, i, none⟩ = cs[i]? := by simp [World.cell?, h]
theorem freeAt {w : World} {g : Nat} {cs : Array Value} {t : TypeId} (h : w.heap[g]? = some (.cells cs t (0, 0))) (i : Nat) : w.frozen? ⟨g, i, none⟩ = false := by simp [World.frozen?, h]
theorem blockSet {w : World} {g i : Nat} {cs : Array Value} {t : TypeId} {fr : Nat × Nat} (h : w.heap[g]? = some (.cells cs t fr)) (v : Value) : (w.setCell ⟨g, i, none⟩ v).heap[g]? = some (.cells (cs.setIfInBounds i v) t fr) := by
 have hlt := lt_of_block h
 have h' : w.heap[g] = .cells cs t fr := by simpa [Array.getElem?_eq_getElem hlt] using h
 show (w.heap.modify g _)[g]? = _
 rw [Array.getElem?_eq_getElem (by simpa using hlt), Array.getElem_modify_self, h']
 rfl
def Sv (w : World) (sz n : Nat) (v : Value) (cs : List Value) : Prop :=
 cs.length = n * sz ∧ ∃ a cap, v = .slice a n cap ∧ n ≤ cap ∧ cap ≤ maxLen ∧ (a = none → cap = 0) ∧
  (cs ≠ [] → ∃ b off, a = some ⟨b, off, none⟩ ∧ ∀ i (h : i < cs.length), w.cell? ⟨b, off + i, none⟩ = some cs[i])
theorem Sv.nil (w : World) (sz : Nat) : Sv w sz 0 (.slice none 0 0) [] := ⟨by simp, none, 0, rfl, Nat.le_refl _, by simp [maxLen], fun _ => rfl, fun h => (h rfl).elim⟩
theorem Sv.upd {S : Nat → Prop} {w w' : World} {sz n : Nat} {v : Value} {cs : List Value} (h : Sv w sz n v cs) (u : Upd S w w')
  (hs : ∀ k, v.ownBlock = some k → k < w.heap.size → cs ≠ [] → ¬ S k) : Sv w' sz n v cs := by
 obtain ⟨hl, a, cap, rfl, h1, h2, h0, h3⟩ := h
 refine ⟨hl, a, cap, rfl, h1, h2, h0, fun hne => ?_⟩
 obtain ⟨b, off, rfl, hc⟩ := h3 hne
 refine ⟨b, off, rfl, fun i hi => u.cell (hc i hi) ?_⟩
 exact hs b rfl (World.block_lt_of_cell? w _ (hc i hi)) hne
theorem Sv.ofOwn {w : World} {base : Nat} {e : TypeId} {sz n : Nat} {v : Value} {cs : List Value} (h : w.ownsRow base e sz v n cs) : Sv w sz n v cs := by
 obtain ⟨hl, h⟩ := h
 rcases h with ⟨rfl, rfl⟩ | ⟨g, cap, cur, rfl, hb, hh, hn, hc, hs, ht⟩
 ·have : cs = [] := by simpa using hl
  subst this; exact Sv.nil w sz
 ·refine ⟨hl, _, cap, rfl, hn, hc, fun e => (by cases e), fun _ => ⟨g, 0, rfl, fun i hi => ?_⟩⟩
  rw [cellAt hh]
  subst ht
  simp only [List.length_take] at hi
  have hi' : i < cur.size := by simp at hi; omega
  simp [hi']
def byteCells (l : List UInt8) : List Value := l.map fun c => .int .u8 (c.toNat : Int)
theorem byteCells_length (l : List UInt8) : (byteCells l).length = l.length := by simp [byteCells]
def Bs (w : World) (v : Value) (l : List UInt8) : Prop := Sv w 1 l.length v (byteCells l)
theorem byteCells_ne {l : List UInt8} : byteCells l ≠ [] ↔ l ≠ [] := by simp [byteCells]
theorem Bs.nil (w : World) : Bs w (.slice none 0 0) [] := Sv.nil w 1
theorem Bs.upd {S : Nat → Prop} {w w' : World} {v : Value} {l : List UInt8} (h : Bs w v l) (u : Upd S w w')
  (hs : ∀ k, v.ownBlock = some k → k < w.heap.size → l ≠ [] → ¬ S k) : Bs w' v l :=
 Sv.upd h u fun k h1 h2 h3 => hs k h1 h2 (byteCells_ne.1 h3)
theorem Bs.shape {w : World} {v : Value} {l : List UInt8} (h : Bs w v l) : ∃ a cap, v = .slice a l.length cap ∧ l.length ≤ cap ∧ cap ≤ maxLen := by
 obtain ⟨_, a, cap, h1, h2, h3, _, _⟩ := h; exact ⟨a, cap, h1, h2, h3⟩
theorem Bs.cells {w : World} {a : Option Addr} {n cap : Nat} {l : List UInt8} (h : Bs w (.slice a n cap) l) (hne : l ≠ []) :
  ∃ b off, a = some ⟨b, off, none⟩ ∧ ∀ i (hi : i < l.length), w.cell? ⟨b, off + i, none⟩ = some (.int .u8 (l[i].toNat : Int)) := by
 obtain ⟨_, a', cap', h1, _, _, _, h3⟩ := h
 cases h1
 obtain ⟨b, off, rfl, hc⟩ := h3 (byteCells_ne.2 hne)
 refine ⟨b, off, rfl, fun i hi => ?_⟩
 have := hc i (by simpa [byteCells] using hi)
 simpa [byteCells] using this
theorem Bs.len {w : World} {a : Option Addr} {n cap : Nat} {l : List UInt8} (h : Bs w (.slice a n cap) l) : l.length = n ∧ n ≤ cap ∧ cap ≤ maxLen := by
 obtain ⟨a', cap', h1, h2, h3⟩ := h.shape
 cases h1; exact ⟨rfl, h2, h3⟩
theorem Bs.nilcap {w : World} {a : Option Addr} {n cap : Nat} {l : List UInt8} (h : Bs w (.slice a n cap) l) (ha : a = none) : cap = 0 := by
 obtain ⟨_, a', cap', h1, _, _, h2, _⟩ := h
 cases h1; exact h2 ha
theorem Bs.ofBlk {w : World} {b : Nat} {l : List UInt8} {t : TypeId} {fr : Nat × Nat} (h : w.heap[b]? = some (.cells (byteCells l).toArray t fr)) (hl : l.length ≤ maxLen) : Bs w (.slice (some ⟨b, 0, none⟩) l.length l.length) l := by
 refine ⟨by simp [byteCells], _, _, rfl, Nat.le_refl _, hl, fun e => (by cases e), fun _ => ⟨b, 0, rfl, fun i hi => ?_⟩⟩
 rw [cellAt h]
 simp [hi]
theorem Bs.sub {w : World} {a : Option Addr} {n cap lo hi mx : Nat} {l : List UInt8} (h : Bs w (.slice a n cap) l) (h1 : lo ≤ hi) (h2 : hi ≤ l.length) (h3 : hi ≤ mx) (h4 : mx ≤ cap) :
  Bs w (.slice (if mx = lo then a else a.map (·.add (lo * 1))) (hi - lo) (mx - lo)) ((l.take hi).drop lo) := by
 rw [Nat.mul_one]
 obtain ⟨hn, hc, hm⟩ := h.len
 have hlen : ((l.take hi).drop lo).length = hi - lo := by simp; omega
 refine ⟨by simp [byteCells_length], _, mx - lo, by rw [hlen], by omega, by omega, fun e => ?_, fun hne => ?_⟩
 ·split at e
  ·omega
  ·have := h.nilcap (by simpa using e); omega
 have hne' : (l.take hi).drop lo ≠ [] := byteCells_ne.1 hne
 have hlt : lo < hi := by
  rcases Nat.lt_or_ge lo hi with x | x
  ·exact x
  ·exact (hne' (by apply List.eq_nil_of_length_eq_zero; omega)).elim
 obtain ⟨b, off, rfl, hcell⟩ := h.cells (fun e => by subst e; simp at h2; omega)
 refine ⟨b, off + lo, ?_, fun i hi' => ?_⟩
 ·rw [if_neg (by omega)]
  simp only [Option.map_some, Addr.add]
  split
  ·subst lo; rfl
  ·rfl
 ·have hi2 : i < hi - lo := by rw [byteCells_length, hlen] at hi'; exact hi'
  have := hcell (lo + i) (by omega)
  rw [show off + lo + i = off + (lo + i) by omega, this]
  simp [byteCells]
def leN : List UInt8 → Nat
 | [] => 0
 | c :: r => c.toNat + 256 * leN r
theorem leN_lt (l : List UInt8) : leN l < 256 ^ l.length := by
 induction l with
 | nil => simp [leN]
 | cons c r ih =>
  have := c.toNat_lt
  simp only [leN, List.length_cons, Nat.pow_succ]
  omega
theorem leN_append (l m : List UInt8) : leN (l ++ m) = leN l + 256 ^ l.length * leN m := by
 induction l with
 | nil => simp [leN]
 | cons c r ih => simp only [List.cons_append, leN, ih, List.length_cons, Nat.pow_succ]; rw [Nat.mul_add, Nat.mul_comm (256 ^ r.length) 256, Nat.mul_assoc]; omega
theorem bitsOr_nat (k : IntKind) (hk : k.signed = false) (x y : Nat) (hx : x < 2 ^ k.bits) (hy : y < 2 ^ k.bits) : bits .or k (x : Int) (y : Int) = ((x ||| y : Nat) : Int) := by
 have h1 : (BitVec.ofInt k.bits (x : Int)).toNat = x := by simp [Int.emod_eq_of_lt, Nat.mod_eq_of_lt hx]
 have h2 : (BitVec.ofInt k.bits (y : Int)).toNat = y := by simp [Int.emod_eq_of_lt, Nat.mod_eq_of_lt hy]
 have h3 : x ||| y < 2 ^ k.bits := Nat.or_lt_two_pow hx hy
 simp only [bits, BitVec.toNat_or, h1, h2, IntKind.wrap, hk]
 simp
 exact_mod_cast Nat.mod_eq_of_lt h3
theorem or_disjoint (a b i : Nat) (ha : a < 2 ^ i) : a ||| (b * 2 ^ i) = a + b * 2 ^ i := by
 have := Nat.shiftLeft_add_eq_or_of_lt ha b
 rw [Nat.shiftLeft_eq] at this
 rw [Nat.or_comm, ← this, Nat.add_comm]
end Go.Pt
end
section
namespace Go.Pt
open Go.RowKit
abbrev Env := List (Nat × Value)
def look : Env → Nat → Option Value
 | [], _ => none
 | (d, v) :: r, t => bif Nat.beq t d then some v else look r t
def ev (Γ : Env) : Operand → Option Value
 | .tmp t => look Γ t
 | .const v => some v
 | .global g => some (.pointer (some ⟨g, 0, none⟩))
 | .func f => some (.func (.func f) #[] #[])
theorem beqFalse {a b : Nat} (h : ¬ a = b) : Nat.beq a b = false := by
 cases e : Nat.beq a b
 ·rfl
 ·exact (h (Nat.eq_of_beq_eq_true e)).elim
structure Fr (N : Nat) (a : Act) (Γ : Env) : Prop where
 defers : a.defers = []
 size : a.tmps.size = N
 get : ∀ t v, look Γ t = some v → a.tmps[t]? = some v
theorem Fr.ev {N : Nat} {a : Act} {Γ : Env} (h : Fr N a Γ) {x : Operand} {v : Value} (hx : ev Γ x = some v) : a.eval x = v := by
 cases x with
 | tmp t => simp only [Go.Pt.ev] at hx; simp [Act.eval, h.get t v hx]
 | const c => simp only [Go.Pt.ev] at hx; cases hx; rfl
 | global g => simp only [Go.Pt.ev] at hx; cases hx; rfl
 | func f => simp only [Go.Pt.ev] at hx; cases hx; rfl
theorem Fr.put {N : Nat} {a : Act} {Γ : Env} (h : Fr N a Γ) {d : Nat} (hd : Nat.blt d N = true) (v : Value) : Fr N (a.put (some d) v) ((d, v) :: Γ) := by
 have hlt : d < N := Nat.le_of_ble_eq_true hd
 refine ⟨h.defers, by simp [Act.put, h.size], fun t u hu => ?_⟩
 simp only [look] at hu
 by_cases e : t = d
 ·subst e
  simp at hu
  subst hu
  simp [Act.put, h.size, hlt]
 ·have : Nat.beq t d = false := beqFalse e
  rw [this] at hu
  simp at hu
  have := h.get t u hu
  simp [Act.put, Array.getElem?_setIfInBounds_ne (Ne.symm e), this]
inductive Sub (Γ : Env) : Env → Prop
 | nil : Sub Γ []
 | cons {t : Nat} {v : Value} {r : Env} (h : look Γ t = some v) (hs : Sub Γ r) : Sub Γ ((t, v) :: r)
theorem Sub.look {Γ Γ' : Env} (h : Sub Γ Γ') {t : Nat} {v : Value} (ht : look Γ' t = some v) : look Γ t = some v := by
 induction h with
 | nil => simp [Go.Pt.look] at ht
 | @cons d u r h hs ih =>
  simp only [Go.Pt.look] at ht
  by_cases e : t = d
  ·subst e; simp at ht; subst ht; exact h
  ·have : Nat.beq t d = false := beqFalse e
   rw [this] at ht; exact ih (by simpa using ht)
theorem Sub.cons' {Γ r : Env} {t : Nat} {v u : Value} (h : Pt.look Γ t = some u) (e : u = v) (hs : Sub Γ r) : Sub Γ ((t, v) :: r) := Sub.cons (e ▸ h) hs
theorem Fr.sub {N : Nat} {a : Act} {Γ Γ' : Env} (h : Fr N a Γ) (hs : Sub Γ Γ') : Fr N a Γ' := ⟨h.defers, h.size, fun t v ht => h.get t v (hs.look ht)⟩
structure Blk where
 b : Nat
 cs : List Value
 t : TypeId
def Off : List Blk → Nat → Prop
 | [], _ => True
 | x :: r, b => x.b ≠ b ∧ Off r b
def Apart : List Blk → Prop
 | [] => True
 | x :: r => Off r x.b ∧ Apart r
def Own (w : World) : List Blk → Prop
 | [] => True
 | x :: r => w.heap[x.b]? = some (.cells x.cs.toArray x.t (0, 0)) ∧ Own w r
structure Hp (w0 : World) (H : List Blk) (w : World) : Prop where
 upd : Upd (fun k => ¬ Off H k) w0 w
 own : Own w H
 apart : Apart H
theorem Hp.start (w : World) : Hp w [] w := ⟨Upd.refl _ _, trivial, trivial⟩
theorem Hp.rebase {w0 w : World} {H : List Blk} (h : Hp w0 H w) : Hp w H w := ⟨Upd.refl _ _, h.own, h.apart⟩
theorem Hp.open {w0 w : World} {H : List Blk} (h : Hp w0 H w) {c : Nat} {cs : List Value} {t : TypeId} (hc : w0.heap[c]? = some (.cells cs.toArray t (0, 0))) (ho : Off H c := by exact trivial) : Hp w0 (⟨c, cs, t⟩ :: H) w :=
 ⟨h.upd.mono fun _ _ hn ho => hn ho.2, ⟨h.upd.heap hc fun x => x ho, h.own⟩, ⟨ho, h.apart⟩⟩
theorem Hp.drew {w0 w : World} {H : List Blk} (h : Hp w0 H w) : Hp w0 H w.drew := ⟨h.upd.trans (Upd.drew _ _), by
 have := h.own
 clear h
 induction H with
 | nil => trivial
 | cons x r ih => exact ⟨this.1, ih this.2⟩, h.apart⟩
theorem Off.of {H : List Blk} {b : Nat} (h : ∀ x ∈ H, x.b ≠ b) : Off H b := by
 induction H with
 | nil => trivial
 | cons x r ih => exact ⟨h x (by simp), ih fun y hy => h y (by simp [hy])⟩
theorem Off.at {H : List Blk} {b : Nat} (h : Off H b) {x : Blk} (hx : x ∈ H) : x.b ≠ b := by
 induction H with
 | nil => cases hx
 | cons y r ih => cases hx with
  | head => exact h.1
  | tail _ hx => exact ih h.2 hx
theorem off1 {c k : Nat} {cs : List Value} {t : TypeId} (h : k < c) : Off [⟨c, cs, t⟩] k := ⟨fun e => by simp only at e; omega, trivial⟩
theorem Own.at {w : World} {H : List Blk} (h : Own w H) {x : Blk} (hx : x ∈ H) : w.heap[x.b]? = some (.cells x.cs.toArray x.t (0, 0)) := by
 induction H with
 | nil => cases hx
 | cons y r ih => cases hx with
  | head => exact h.1
  | tail _ hx => exact ih h.2 hx
theorem Own.of {w : World} {H : List Blk} (h : ∀ x ∈ H, w.heap[x.b]? = some (.cells x.cs.toArray x.t (0, 0))) : Own w H := by
 induction H with
 | nil => trivial
 | cons x r ih => exact ⟨h x (by simp), ih fun y hy => h y (by simp [hy])⟩
theorem Own.lt {w : World} {H : List Blk} (h : Own w H) {x : Blk} (hx : x ∈ H) : x.b < w.heap.size := lt_of_block (h.at hx)
theorem Own.upd {S : Nat → Prop} {w w' : World} {H : List Blk} (h : Own w H) (u : Upd S w w') (hs : ∀ x ∈ H, ¬ S x.b) : Own w' H :=
 Own.of fun x hx => u.heap (h.at hx) (hs x hx)
theorem Hp.step {S : Nat → Prop} {w0 w w' : World} {H : List Blk} (h : Hp w0 H w) (u : Upd S w w') (hs : ∀ x ∈ H, ¬ S x.b) (ho : ∀ k, k < w0.heap.size → S k → ¬ Off H k) : Hp w0 H w' :=
 ⟨⟨u.os.trans h.upd.os, u.tape.trans h.upd.tape, u.output.trans h.upd.output, Nat.le_trans h.upd.size u.size, fun k hk hn =>
   (u.block k (Nat.lt_of_lt_of_le hk h.upd.size) fun s => hn (ho k hk s)).trans (h.upd.block k hk hn)⟩, h.own.upd u hs, h.apart⟩
theorem Off.lt {w : World} {H : List Blk} (h : Own w H) : Off H w.heap.size := Off.of fun x hx => by have := h.lt hx; omega
theorem Hp.alloc {w0 w : World} {H : List Blk} (h : Hp w0 H w) (cs : List Value) (t : TypeId) : Hp w0 (⟨w.heap.size, cs, t⟩ :: H) (w.alloc (.cells cs.toArray t)) := by
 refine ⟨(h.upd.mono fun k _ hn => fun ho => hn ho.2).trans (Upd.alloc _ _ _), ⟨heap_alloc_new w _, h.own.upd (Upd.alloc (fun _ => False) w _) fun _ _ h => h⟩, ⟨Off.lt h.own, h.apart⟩⟩
theorem Hp.set {w0 w : World} {A B : List Blk} {c : Nat} {cs cs' : List Value} {t : TypeId} (h : Hp w0 (A ++ ⟨c, cs, t⟩ :: B) w) {w' : World} (u : Upd (· = c) w w') (hc : w'.heap[c]? = some (.cells cs'.toArray t (0, 0))) :
  Hp w0 (A ++ ⟨c, cs', t⟩ :: B) w' := by
 have offs : ∀ (A : List Blk) k, Off (A ++ ⟨c, cs', t⟩ :: B) k ↔ Off (A ++ ⟨c, cs, t⟩ :: B) k := by
  intro A k
  induction A with
  | nil => exact Iff.rfl
  | cons x r ih => simp only [List.cons_append, Off, ih]
 have aparts : ∀ (A : List Blk), Apart (A ++ ⟨c, cs, t⟩ :: B) → Apart (A ++ ⟨c, cs', t⟩ :: B) := by
  intro A
  induction A with
  | nil => exact fun h => h
  | cons x r ih => exact fun h => ⟨(offs r x.b).2 h.1, ih h.2⟩
 have ne : ∀ x ∈ A ++ B, x.b ≠ c := by
  have hap := h.apart
  clear h offs aparts
  induction A with
  | nil => intro x hx; exact hap.1.at hx
  | cons y r ih =>
   intro x hx
   cases hx with
   | head => exact fun e => (hap.1.at (x := ⟨c, cs, t⟩) (by simp)) e.symm
   | tail _ hx => exact ih hap.2 x hx
 refine ⟨⟨u.os.trans h.upd.os, u.tape.trans h.upd.tape, u.output.trans h.upd.output, Nat.le_trans h.upd.size u.size, fun k hk hn => ?_⟩, Own.of fun x hx => ?_, aparts A h.apart⟩
 ·have hoff : Off (A ++ ⟨c, cs, t⟩ :: B) k := by
   rcases Classical.em (Off (A ++ ⟨c, cs, t⟩ :: B) k) with e | e
   ·exact e
   ·exact (hn fun e' => e ((offs A k).1 e')).elim
  have hkc : k ≠ c := fun e => hoff.at (x := ⟨c, cs, t⟩) (by simp) e.symm
  exact (u.block k (Nat.lt_of_lt_of_le hk h.upd.size) hkc).trans (h.upd.block k hk fun x => x hoff)
 ·simp only [List.mem_append, List.mem_cons] at hx
  rcases hx with hx | rfl | hx
  ·exact u.heap (h.own.at (by simp [hx])) (ne x (by simp [hx]))
  ·exact hc
  ·exact u.heap (h.own.at (by simp [hx])) (ne x (by simp [hx]))
inductive HSet (c : Nat) (cs cs' : List Value) (t : TypeId) : List Blk → List Blk → Prop
 | here {r : List Blk} : HSet c cs cs' t (⟨c, cs, t⟩ :: r) (⟨c, cs', t⟩ :: r)
 | there {x : Blk} {r r' : List Blk} (h : HSet c cs cs' t r r') : HSet c cs cs' t (x :: r) (x :: r')
theorem HSet.split {c : Nat} {cs cs' : List Value} {t : TypeId} {H H' : List Blk} (h : HSet c cs cs' t H H') : ∃ A B, H = A ++ ⟨c, cs, t⟩ :: B ∧ H' = A ++ ⟨c, cs', t⟩ :: B := by
 induction h with
 | here => exact ⟨[], _, rfl, rfl⟩
 | @there x r r' h ih => obtain ⟨A, B, rfl, rfl⟩ := ih; exact ⟨x :: A, B, rfl, rfl⟩
theorem HSet.mem {c : Nat} {cs cs' : List Value} {t : TypeId} {H H' : List Blk} (h : HSet c cs cs' t H H') : (⟨c, cs, t⟩ : Blk) ∈ H := by
 obtain ⟨A, B, rfl, rfl⟩ := h.split; simp
theorem Hp.hset {w0 w w' : World} {H H' : List Blk} {c : Nat} {cs cs' : List Value} {t : TypeId} (h : Hp w0 H w) (hs : HSet c cs cs' t H H') (u : Upd (· = c) w w') (hc : w'.heap[c]? = some (.cells cs'.toArray t (0, 0))) : Hp w0 H' w' := by
 obtain ⟨A, B, rfl, rfl⟩ := hs.split
 exact h.set u hc
theorem Hp.callSet {w0 w w' : World} {H H' : List Blk} {c : Nat} {cs cs' : List Value} {t : TypeId} (h : Hp w0 H w) (hs : HSet c cs cs' t H H') (k : Hp w [⟨c, cs', t⟩] w') : Hp w0 H' w' :=
 h.hset hs (k.upd.mono fun j _ hj => Classical.byContradiction fun e => hj ⟨fun x => e x.symm, trivial⟩) k.own.1
theorem Hp.drop {w0 w : World} {H : List Blk} (h : Hp w0 H w) (hn : ∀ x ∈ H, w0.heap.size ≤ x.b) : Hp w0 [] w :=
 ⟨h.upd.mono fun _ hk hs => (hs (Off.of fun x hx e => by have := hn x hx; omega)).elim, trivial, trivial⟩
theorem Hp.keep {w0 w w' : World} {H : List Blk} (h : Hp w0 H w) (k : Hp w [] w') : Hp w0 H w' := h.step k.upd (fun _ _ x => x trivial) (fun _ _ x => (x trivial).elim)
theorem Hp.callNew {w0 w w' : World} {H : List Blk} {c : Nat} {cs : List Value} {t : TypeId} (h : Hp w0 H w) (k : Hp w [⟨c, cs, t⟩] w') (hc : w.heap.size ≤ c) : Hp w0 (⟨c, cs, t⟩ :: H) w' := by
 refine ⟨h.upd.comp k.upd fun j hj hs => ?_, ⟨k.own.1, h.own.upd k.upd fun x hx e => e (off1 (by have := h.own.lt hx; omega))⟩, ⟨Off.of fun x hx e => by have h2 := h.own.lt hx; simp only at e; omega, h.apart⟩⟩
 rcases hs with hs | hs
 ·exact fun e => hs e.2
 ·exact fun _ => hs (off1 (by have := h.upd.size; omega))
theorem Hp.cell {w0 w : World} {H : List Blk} (h : Hp w0 H w) {c i : Nat} {cs : List Value} {t : TypeId} {v : Value} (hm : (⟨c, cs, t⟩ : Blk) ∈ H) (hi : cs[i]? = some v) : w.cell? ⟨c, i, none⟩ = some v := by
 rw [cellAt (h.own.at hm)]; simpa using hi
theorem Hp.free {w0 w : World} {H : List Blk} (h : Hp w0 H w) {c i : Nat} {cs : List Value} {t : TypeId} (hm : (⟨c, cs, t⟩ : Blk) ∈ H) : w.frozen? ⟨c, i, none⟩ = false := freeAt (h.own.at hm) i
theorem Hp.old {w0 w : World} {H : List Blk} (h : Hp w0 H w) {a : Addr} {v : Value} (hc : w0.cell? a = some v) (ho : Off H a.block) : w.cell? a = some v := h.upd.cell hc fun x => x ho
end Go.Pt
end
section
namespace Go.Pt
def effB (o : Oper) : Bool := match o.op with
 | .call { callee := .builtin .len, .. } => false
 | .call _ | .store .. | .alloc _ | .box .. | .buildSlice .. | .makeSlice .. | .makeMap .. | .mapUpdate .. | .insert .. | .mapEntry .. | .entryStore .. => true
 | _ => false
section
variable {P : Program} {ops : Array Oper} {C : World → Prop}
def wpE (P : Program) (ops : Array Oper) (C : World → Prop) (Q : Act → World → Prop) : List Oper → Act → World → Prop
 | [], a, w => Q a w
 | o :: rest, a, w =>
  if Region.wanted o (yielded ops a.tmps) then
   if effB o then o.wp P a w (fun a' w' => C w' ∧ wpE P ops C Q rest a' w') (fun _ _ _ => False)
   else ∃ v, (∀ w', C w' → (execOp a.eval o).run P w' = .ok (.value v) w') ∧ wpE P ops C Q rest (a.put o.dst v) w
  else wpE P ops C Q rest (a.put o.dst undef) w
def onlyN (Q : Act → World → Prop) : Exit → Act → World → Prop
 | .normal, a, w => Q a w
 | _, _, _ => False
def wpAnyC (P : Program) (ops : Array Oper) (C : World → Prop) (Q : Act → World → Prop) : Nat → Array Bool → Act → World → Prop
 | 0, listed, a, w => C w ∧ Region.ready .any ops listed = [] ∧ Q a w
 | n + 1, listed, a, w => C w ∧ (Region.ready .any ops listed = [] → Q a w) ∧ ∀ i ∈ Region.ready .any ops listed, wpOp P ops (onlyN Q) i (wpAnyC P ops C Q n (listed.setIfInBounds i true)) a w
theorem wpAny_of_C {Q : Act → World → Prop} : ∀ (n : Nat) (listed : Array Bool) (a : Act) (w : World), wpAnyC P ops C Q n listed a w → wpAny P .any ops (onlyN Q) n listed a w
 | 0, _, _, _, h => ⟨h.2.1, h.2.2⟩
 | n + 1, _, _, _, h => ⟨h.2.1, fun i hi => wpOp_mono (fun a' w' hh => wpAny_of_C n _ a' w' hh) (h.2.2 i hi)⟩
def YC (P : Program) (ops : Array Oper) (C : World → Prop) (o : Oper) (v : Value) (a : Act) : Prop :=
 (Region.wanted o (yielded ops a.tmps) = true ∧ ∀ w, C w → (execOp a.eval o).run P w = .ok (.value v) w) ∨ (Region.wanted o (yielded ops a.tmps) = false ∧ v = undef)
theorem YC.same {o : Oper} {v : Value} {a a' : Act} (hy : YC P ops C o v a) (he : execOp a'.eval o = execOp a.eval o) (hw : Region.wanted o (yielded ops a'.tmps) = Region.wanted o (yielded ops a.tmps)) : YC P ops C o v a' := by
 unfold YC at *; rw [he, hw]; exact hy
theorem YC.now {i : Nat} {o : Oper} {v : Value} {a : Act} {w : World} (hi : ops[i]? = some o) (hy : YC P ops C o v a) (hC : C w) {Q : Exit → Act → World → Prop} {K : Act → World → Prop} (h : K (a.put o.dst v) w) : wpOp P ops Q i K a w := by
 unfold wpOp
 simp only [hi]
 rcases hy with ⟨hw, hv⟩ | ⟨hw, rfl⟩
 ·rw [if_pos hw]; refine .inl ?_; simp only [Oper.wp, hv w hC, Oper.upon]; exact h
 ·rw [hw]; exact h
theorem wpOp_swap {j : Nat} {oi oj : Oper} {v : Value} {Q : Act → World → Prop} (hj : ops[j]? = some oj) (hap : oi.apart ops oj = true) (hsi : ∀ cs b, oi.op ≠ .select cs b) (hsj : ∀ cs b, oj.op ≠ .select cs b)
  {K : Act → World → Prop} {a : Act} {w : World} (hy : YC P ops C oi v a) (h : wpOp P ops (onlyN Q) j K (a.put oi.dst v) w) :
  wpOp P ops (onlyN Q) j (fun a' w' => YC P ops C oi v a' ∧ K (a'.put oi.dst v) w') a w := by
 obtain ⟨h1, h2, h3⟩ := Oper.apart_spec hap
 have keep : ∀ (a : Act), YC P ops C oi v a → ∀ u, YC P ops C oi v (a.put oj.dst u) := fun a hy u => hy.same (execOp_put oi hsi a oj.dst u h3) (wanted_put oi a oj.dst u h3)
 have keepD : ∀ d, YC P ops C oi v { a with defers := d :: a.defers } := fun d => hy.same rfl rfl
 have noOut : ¬ LetsOut (onlyN Q) := fun ⟨_, _, h⟩ => h
 unfold wpOp at *
 simp only [hj] at *
 rw [wanted_put oj a oi.dst v h1] at h
 by_cases hw : Region.wanted oj (yielded ops a.tmps) = true
 ·rw [if_pos hw] at h ⊢
  rcases h with h | ⟨_, hout⟩
  case inr => exact (noOut hout).elim
  refine .inl ?_
  unfold Oper.wp at *
  rw [execOp_put oj hsj a oi.dst v h1] at h
  generalize (execOp a.eval oj).run P w = r at *
  cases r with
  | halt x w' => cases x <;> simp only [Oper.upon, onlyN] at h
  | ok n w' =>
   cases n <;> simp only [Oper.upon] at h ⊢
   case value u => exact ⟨keep a hy u, by rw [← Act.put_comm a v u h2]; exact h⟩
   case skip => exact ⟨keep a hy _, by rw [← Act.put_comm a v undef h2]; exact h⟩
   case defer d => exact ⟨keep _ (keepD d) _, by rw [← Act.put_comm _ v undef h2, ← Act.put_defers]; exact h⟩
   case enter f args =>
    refine Calls.mono h fun e w'' he => ?_
    cases e with
    | returned u => exact ⟨keep a hy u, by rw [← Act.put_comm a v u h2]; exact he⟩
    | panicked c => exact he.elim
    | outgrown => exact (noOut he).elim
   case row row args => exact Rows.mono h fun u w'' he => ⟨keep a hy u, by rw [← Act.put_comm a v u h2]; exact he⟩
 ·rw [if_neg hw] at h ⊢
  exact ⟨keep a hy _, by rw [← Act.put_comm a v undef h2]; exact h⟩
theorem firstC {Q : Act → World → Prop} {i : Nat} {oi : Oper} {v : Value} (hi : ops[i]? = some oi) (hsel : Region.noSelect ops = true) :
  ∀ (n : Nat) (listed : Array Bool) (a : Act) (w : World),
   (∀ j oj, ops[j]? = some oj → j ≠ i → listed.getD j true = false → (∀ e ∈ oj.after, Region.binds .any e = true → e.on ≠ i) → oi.apart ops oj = true) →
   i ∈ Region.ready .any ops listed → YC P ops C oi v a → wpAnyC P ops C Q n (listed.setIfInBounds i true) (a.put oi.dst v) w → wpAnyC P ops C Q (n + 1) listed a w := by
 have hs := fun j o cs b => Region.noSelect_spec hsel j o cs b
 intro n
 induction n with
 | zero =>
  intro listed a w _ hr hy H
  refine ⟨H.1, fun h => (by rw [h] at hr; cases hr), fun j hj => ?_⟩
  by_cases hji : j = i
  ·subst hji; exact hy.now hi H.1 H
  ·have := ready_mono hj hji
   rw [H.2.1] at this
   cases this
 | succ n ih =>
  intro listed a w hfree hr hy H
  refine ⟨H.1, fun h => (by rw [h] at hr; cases hr), fun j hj => ?_⟩
  by_cases hji : j = i
  ·subst hji; exact hy.now hi H.1 H
  ·have h1 := H.2.2 j (ready_mono hj hji)
   obtain ⟨hjun, oj, hoj, hall⟩ := mem_ready.1 hj
   have hnot : ∀ e ∈ oj.after, Region.binds .any e = true → e.on ≠ i := fun e he hb heq => by
    have h1 := hall e he hb
    have h0 := (mem_ready.1 hr).1
    rw [heq] at h1
    rcases Nat.lt_or_ge i listed.size with h' | h'
    ·simp [h'] at h0 h1; rw [h0] at h1; cases h1
    ·simp [Array.getElem?_eq_none h'] at h1
   have h2 := wpOp_swap hoj (hfree j oj hoj hji hjun hnot) (fun cs b => hs i oi cs b hi) (fun cs b => hs j oj cs b hoj) hy h1
   have hfree' : ∀ k ok, ops[k]? = some ok → k ≠ i → (listed.setIfInBounds j true).getD k true = false → (∀ e ∈ ok.after, Region.binds .any e = true → e.on ≠ i) → oi.apart ops ok = true := fun k ok hk hki hun hno => by
    refine hfree k ok hk hki ?_ hno
    by_cases hjk : j = k
    ·subst hjk; exact hjun
    ·rw [getD_set_ne true hjk] at hun; exact hun
   refine wpOp_mono (fun a' w' h3 => ih (listed.setIfInBounds j true) a' w' hfree' (ready_mono hr (Ne.symm hji)) h3.1 ?_) h2
   rw [Array.setIfInBounds_comm _ _ hji]
   exact h3.2
def orderB (ops : Array Oper) : List Nat → Array Bool → Bool
 | [], listed => (Region.ready .any ops listed).isEmpty
 | i :: r, listed =>
  (match ops[i]? with
  | some o => if effB o then (match Region.ready .any ops listed with | [j] => Nat.beq j i | _ => false) else (Region.ready .any ops listed).contains i && Region.free .any ops listed i
  | none => false) && orderB ops r (listed.setIfInBounds i true)
theorem wpAnyC_of {Q : Act → World → Prop} (hs : Region.noSelect ops = true) : ∀ (π : List Nat) (l : List Oper) (listed : Array Bool) (a : Act) (w : World), π.map (ops[·]?) = l.map some →
  orderB ops π listed = true → C w → wpE P ops C Q l a w → wpAnyC P ops C Q π.length listed a w
 | [], l, listed, a, w, hl, hB, hC, h => by
  cases l with
  | nil => exact ⟨hC, by simpa [orderB] using hB, h⟩
  | cons o l => simp at hl
 | i :: π, [], listed, a, w, hl, hB, hC, h => by simp at hl
 | i :: π, o :: l, listed, a, w, hl, hB, hC, h => by
  simp only [List.map_cons, List.cons.injEq] at hl
  obtain ⟨h0, hl⟩ := hl
  simp only [orderB, h0, Bool.and_eq_true] at hB
  obtain ⟨hB1, hB2⟩ := hB
  have ih := fun a w => wpAnyC_of (Q := Q) hs π l (listed.setIfInBounds i true) a w hl hB2
  simp only [List.length_cons]
  by_cases he : effB o = true
  ·rw [if_pos he] at hB1
   have hr : Region.ready .any ops listed = [i] := by
    split at hB1
    ·rename_i j hj; have := Nat.eq_of_beq_eq_true hB1; subst this; exact hj
    ·cases hB1
   refine ⟨hC, fun h => (by rw [hr] at h; cases h), fun j hj => ?_⟩
   rw [hr] at hj
   have hji : j = i := by simpa using hj
   subst hji
   unfold wpOp
   simp only [h0]
   simp only [wpE, he, if_true] at h
   split
   ·rename_i hw
    rw [if_pos hw] at h
    refine .inl ?_
    unfold Oper.wp at *
    generalize (execOp a.eval o).run P w = r at *
    cases r with
    | halt x w' => cases x <;> simp only [Oper.upon] at h
    | ok n w' =>
     cases n <;> simp only [Oper.upon] at h ⊢
     case value u => exact ih _ _ h.1 h.2
     case skip => exact ih _ _ h.1 h.2
     case defer d => exact ih _ _ h.1 h.2
     case enter f args =>
      refine Calls.mono h fun e w'' he => ?_
      cases e with
      | returned u => exact ih _ _ he.1 he.2
      | panicked c => exact he.elim
      | outgrown => obtain ⟨_, _, hf⟩ := he; exact hf.elim
     case row row args => exact Rows.mono h fun u w'' he => ih _ _ he.1 he.2
   ·rename_i hw
    rw [if_neg hw] at h
    exact ih _ _ hC h
  ·rw [if_neg he, Bool.and_eq_true] at hB1
   obtain ⟨hr, hf⟩ := hB1
   simp only [wpE, he] at h
   by_cases hw : Region.wanted o (yielded ops a.tmps) = true
   ·rw [if_pos hw] at h
    obtain ⟨v, hv, h⟩ := h
    exact firstC h0 hs π.length listed a w (Region.free_spec h0 hf) (by simpa using hr) (.inl ⟨hw, hv⟩) (ih _ _ hC h)
   ·rw [if_neg hw] at h
    exact firstC h0 hs π.length listed a w (Region.free_spec h0 hf) (by simpa using hr) (.inr ⟨by simpa using hw, rfl⟩) (ih _ _ hC h)
theorem wp_region_mix {id : Nat} {Q : Exit → Act → World → Prop} {a : Act} {w : World} {l : List Oper} (π : List Nat) (l' : List Oper) (hm : P.follows .mixedOrders = true) (hs : Region.noSelect l.toArray = true)
  (hl : π.map (l.toArray[·]?) = l'.map some) (hn : Nat.beq π.length l.length = true) (hB : orderB l.toArray π (Array.replicate l.length false) = true) (hC : C { w with drawn := w.drawn + 1 })
  (h : wpE P l.toArray C (fun a' w' => Q .normal a' w') l' a { w with drawn := w.drawn + 1 }) : (Code.region id l.toArray true).wp P Q a w := by
 refine wp_mono (wp_region_any (Q := onlyN fun a' w' => Q .normal a' w') hm ?_) ?_
 ·have := wpAnyC_of (C := C) hs π l' (Array.replicate l.length false) a _ hl hB hC h
  have := wpAny_of_C _ _ _ _ this
  rw [Nat.eq_of_beq_eq_true hn] at this
  simpa using this
 ·intro e a w h
  cases e <;> first | exact h | exact h.elim
end
end Go.Pt
end
section
namespace Go.Pt
open Go.RowKit
inductive LSet : List Value → Nat → Value → List Value → Prop
 | z {x v : Value} {r : List Value} : LSet (x :: r) 0 v (v :: r)
 | s {x v : Value} {r r' : List Value} {n : Nat} (h : LSet r n v r') : LSet (x :: r) (n + 1) v (x :: r')
theorem LSet.out {l l' : List Value} {i : Nat} {v : Value} (h : LSet l i v l') : i < l.length ∧ l.set i v = l' := by
 induction h with
 | z => simp
 | s h ih => simpa using ih
inductive LOver : List Value → List Value → List Value → Prop
 | nil {l : List Value} : LOver l [] l
 | cons {x y : Value} {r r' xs : List Value} (h : LOver r xs r') : LOver (y :: r) (x :: xs) (x :: r')
inductive LPut : List Value → Nat → List Value → List Value → Prop
 | z {l l' xs : List Value} (h : LOver l xs l') : LPut l 0 xs l'
 | s {x : Value} {r r' xs : List Value} {n : Nat} (h : LPut r n xs r') : LPut (x :: r) (n + 1) xs (x :: r')
theorem LOver.out {l l' xs : List Value} (h : LOver l xs l') : xs.length ≤ l.length ∧ l' = xs ++ l.drop xs.length := by
 induction h with
 | nil => simp
 | cons h ih => obtain ⟨h1, h2⟩ := ih; exact ⟨by simpa using h1, by simpa using h2⟩
theorem LPut.out {l l' xs : List Value} {n : Nat} (h : LPut l n xs l') : n + xs.length ≤ l.length ∧ l.take n ++ xs ++ l.drop (n + xs.length) = l' := by
 induction h with
 | z h => obtain ⟨h1, h2⟩ := h.out; exact ⟨by simpa using h1, by simp [h2]⟩
 | @s x r r' xs n h ih =>
  obtain ⟨h1, h2⟩ := ih
  refine ⟨by simp; omega, ?_⟩
  rw [← h2, show n + 1 + xs.length = (n + xs.length) + 1 by omega]
  simp
inductive LSub : List Value → Nat → Nat → List Value → Prop
 | z {l : List Value} : LSub l 0 0 []
 | t {x : Value} {r xs : List Value} {n : Nat} (h : LSub r 0 n xs) : LSub (x :: r) 0 (n + 1) (x :: xs)
 | s {x : Value} {r xs : List Value} {i n : Nat} (h : LSub r i n xs) : LSub (x :: r) (i + 1) n xs
theorem LSub.out {l xs : List Value} {i n : Nat} (h : LSub l i n xs) : (l.drop i).take n = xs ∧ xs.length = n := by
 induction h with
 | z => simp
 | t h ih => simpa using ih
 | s h ih => simpa using ih
def aggB (P : Program) (t : Nat) : Bool := match P.underlying t with | some (.struct _) | some (.array _ _) => true | _ => false
def sizeB (P : Program) (t : Nat) : Nat := ((P.info? t).map (·.size)).getD 0
def fieldB (P : Program) (t i : Nat) : Option (Nat × Nat × Bool) := match P.underlying t with
 | some (.struct fs) => (fs[i]?).map fun f => (f.offset, f.type, !(Nat.beq (sizeB P f.type) 0))
 | _ => none
class TyD (P : Program) (t : Nat) (d : outParam TypeDesc) : Prop where
 out : P.underlying t = some d
class TyS (P : Program) (t : Nat) (size bytes : outParam Nat) : Prop where
 out : (P.info? t).map (fun i => (i.size, i.bytes)) = some (size, bytes)
class TyZ (P : Program) (t : Nat) (z : outParam Value) : Prop where
 out : (P.info? t).bind (fun i => i.zero) = some z
class TyC (P : Program) (t : Nat) : Prop where
 out : (P.underlying t).isSome = true ∧ aggB P t = false ∧ (P.info? t).map (fun i => i.size) = some 1
class TyA (P : Program) (t : Nat) (n : outParam Nat) : Prop where
 out : aggB P t = true ∧ (P.info? t).map (fun i => i.size) = some n
class Fld (P : Program) (t i : Nat) (off ft : outParam Nat) : Prop where
 out : fieldB P t i = some (off, ft, true)
class Ent (P : Program) (f : Nat) : Prop where
 out : ∀ args w, (callFunc f args).run P w = .ok (.enter f args) w
section
variable {P : Program} {w : World}
theorem ent_of {P : Program} {f : Nat} {fn : Func} (h1 : P.funcs[f]? = some fn) (h2 : (fn.name == "runtime.NumGoroutine") = false) (h3 : fn.body.isNone = false) : Ent P f :=
 ⟨fun args w => by
  have h2' : ¬ fn.name = "runtime.NumGoroutine" := by simpa using h2
  have h3' : ¬ fn.body = none := by cases hb : fn.body <;> simp_all
  simp [callFunc, h1, h2', h3']⟩
theorem run_size {t s b : Nat} [h : TyS P t s b] : (sizeOf t).run P w = .ok s w := by
 have h := h.out
 cases e : P.info? t with
 | none => rw [e] at h; cases h
 | some i => rw [e] at h; simp at h; simp [sizeOf, typeInfo, e, h.1]
theorem run_sizeA {t n : Nat} [h : TyA P t n] : (sizeOf t).run P w = .ok n w := by
 have h := h.out.2
 cases e : P.info? t with
 | none => rw [e] at h; cases h
 | some i => rw [e] at h; simp at h; simp [sizeOf, typeInfo, e, h]
theorem run_zero {t : Nat} {z : Value} [h : TyZ P t z] : (zeroValue t).run P w = .ok z w := by
 have h := h.out
 cases e : P.info? t with
 | none => rw [e] at h; cases h
 | some i => rw [e] at h; simp at h; simp [zeroValue, typeInfo, e, h]
theorem run_aggC {t : Nat} [h : TyC P t] : (isAgg t).run P w = .ok false w := by
 obtain ⟨h1, h2, _⟩ := h.out
 unfold aggB at h2
 cases e : P.underlying t with
 | none => rw [e] at h1; cases h1
 | some d => rw [e] at h2; cases d <;> simp_all [isAgg, run_underlying e]
theorem run_aggA {t n : Nat} [h : TyA P t n] : (isAgg t).run P w = .ok true w := by
 obtain ⟨h2, _⟩ := h.out
 unfold aggB at h2
 cases e : P.underlying t with
 | none => rw [e] at h2; cases h2
 | some d => rw [e] at h2; cases d <;> simp_all [isAgg, run_underlying e]
theorem run_loadC {t : Nat} [TyC P t] {a : Addr} {v : Value} (h : w.cell? a = some v) : (loadVar t a).run P w = .ok v w := by
 simp [loadVar, run_aggC, h]
theorem run_loadA {t n : Nat} [TyA P t n] {a : Addr} {xs : List Value} (hn : xs.length = n) (h : ∀ i v, xs[i]? = some v → w.cell? (a.add i) = some v) : (loadVar t a).run P w = .ok (.agg xs.toArray) w := by
 have := run_loadCells_list (P := P) w a xs h
 subst hn
 simp [loadVar, run_aggA, run_sizeA, this]
end
inductive Parts (Γ : Env) : List (Nat × Operand) → List (Nat × Value) → Prop
 | nil : Parts Γ [] []
 | cons {i : Nat} {x : Operand} {v : Value} {r : List (Nat × Operand)} {r' : List (Nat × Value)} (h : ev Γ x = some v) (hs : Parts Γ r r') : Parts Γ ((i, x) :: r) ((i, v) :: r')
theorem Parts.map {N : Nat} {a : Act} {Γ : Env} {parts : Array (Nat × Operand)} {ps : List (Nat × Value)} (hp : Parts Γ parts.toList ps) (ha : Fr N a Γ) : (parts.map fun (i, x) => (i, a.eval x)) = ps.toArray := by
 obtain ⟨l⟩ := parts
 simp only at hp
 simp only [List.map_toArray]
 congr 1
 induction hp with
 | nil => rfl
 | cons h hs ih => simp [ha.ev h, ih]
inductive Evs (Γ : Env) : List Operand → List Value → Prop
 | nil : Evs Γ [] []
 | cons {x : Operand} {v : Value} {r : List Operand} {r' : List Value} (h : ev Γ x = some v) (hs : Evs Γ r r') : Evs Γ (x :: r) (v :: r')
theorem Evs.map {N : Nat} {a : Act} {Γ : Env} {xs : List Operand} {vs : List Value} (hp : Evs Γ xs vs) (ha : Fr N a Γ) : (xs.map a.eval) = vs := by
 induction hp with
 | nil => rfl
 | cons h hs ih => simp [ha.ev h, ih]
inductive BoundIs (Γ : Env) : Option Operand → Nat → Nat → Prop
 | no {n : Nat} : BoundIs Γ none n n
 | yes {x : Operand} {k : IntKind} {j : Int} {n : Nat} (h : ev Γ x = some (.int k j)) (h0 : 0 ≤ j) : BoundIs Γ (some x) n j.toNat
theorem bounds_run {P : Program} {w : World} {N : Nat} {a : Act} {Γ : Env} (ha : Fr N a Γ) {lo hi mx : Option Operand} {n c l h' m : Nat} (hlo : BoundIs Γ lo 0 l) (hhi : BoundIs Γ hi n h') (hmx : BoundIs Γ mx c m)
  (hs : mx.isSome = true → hi.isSome = true) (h1 : l ≤ h') (h2 : h' ≤ m) (h3 : m ≤ c) : (Instr.sliceBounds true n c (lo.map a.eval) (hi.map a.eval) (mx.map a.eval)).run P w = .ok (l, h', m) w := by
 have bd : ∀ (x : Operand) (k : IntKind) (j : Int) (y : Nat) (code : BoundsCode), ev Γ x = some (.int k j) → 0 ≤ j → j.toNat ≤ y → (Instr.sliceBound (a.eval x) y code).run P w = .ok j.toNat w := by
  intro x k j y code hx h0 hy
  simp only [Instr.sliceBound, ha.ev hx, asIntOf, pure_bind]
  rw [if_pos (by omega)]
  simp
 cases hmx with
 | no =>
  cases hhi with
  | no => cases hlo with
   | no => simp [Instr.sliceBounds]
   | yes hx h0 => simp [Instr.sliceBounds, bd _ _ _ _ _ hx h0 h1]
  | yes hy g0 => cases hlo with
   | no => simp [Instr.sliceBounds, bd _ _ _ _ _ hy g0 h2]
   | yes hx h0 => simp [Instr.sliceBounds, bd _ _ _ _ _ hy g0 h2, bd _ _ _ _ _ hx h0 h1]
 | yes hz k0 =>
  cases hhi with
  | no => simp at hs
  | yes hy g0 => cases hlo with
   | no => simp [Instr.sliceBounds, bd _ _ _ _ _ hz k0 h3, bd _ _ _ _ _ hy g0 h2]
   | yes hx h0 => simp [Instr.sliceBounds, bd _ _ _ _ _ hz k0 h3, bd _ _ _ _ _ hy g0 h2, bd _ _ _ _ _ hx h0 h1]
theorem run_eql_nilp {P : Program} {w : World} {t e : TypeId} (h : P.underlying t = some (.pointer e)) (p : Option Addr) : (binOp .eql t (.pointer p) (.pointer none)).run P w = .ok (.bool p.isNone) w :=
 run_eql_pointer_nil w t p (by rw [h]; simp [Program.pointee, h])
inductive Fills (place : Nat → Option (Nat × Nat)) : List Value → List (Nat × Value) → List Value → Prop
 | nil {cs : List Value} : Fills place cs [] cs
 | one {i off : Nat} {v : Value} {cs cs1 cs2 : List Value} {r : List (Nat × Value)} (hp : place i = some (off, 1)) (h1 : v.oneCell' = true) (hs : LSet cs off v cs1) (h : Fills place cs1 r cs2) : Fills place cs ((i, v) :: r) cs2
 | agg {i off n : Nat} {xs cs cs1 cs2 : List Value} {r : List (Nat × Value)} (hp : place i = some (off, n)) (hn : Nat.beq xs.length n = true) (hs : LPut cs off xs cs1) (h : Fills place cs1 r cs2) : Fills place cs ((i, .agg xs.toArray) :: r) cs2
theorem foldl_set (xs : List Value) : ∀ (off k : Nat) (cs : Array Value), off + k + xs.length ≤ cs.size →
  ((xs.zipIdx k).foldl (fun cs (x : Value × Nat) => cs.setIfInBounds (off + x.2) x.1) cs) = (cs.toList.take (off + k) ++ xs ++ cs.toList.drop (off + k + xs.length)).toArray := by
 induction xs with
 | nil => intro off k cs _; simp
 | cons x xs ih =>
  intro off k cs h
  simp only [List.length_cons] at h
  simp only [List.zipIdx_cons, List.foldl_cons]
  rw [ih off (k + 1) _ (by simp; omega)]
  congr 1
  have e := list_seg_step cs.toList (off + k) x xs (by simp; omega)
  simpa [Array.toList_setIfInBounds, Nat.add_assoc] using e
theorem fill_step {place : Nat → Option (Nat × Nat)} {i off : Nat} {cs cs1 : Array Value} {v : Value} {xs : List Value} {r : List (Nat × Value)} (hv : v.cells = xs.toArray) (hp : place i = some (off, xs.length)) (hle : off + xs.length ≤ cs.size)
  (h1 : (cs.toList.take off ++ xs ++ cs.toList.drop (off + xs.length)).toArray = cs1) : Instr.fill place cs ((i, v) :: r) = Instr.fill place cs1 r := by
 simp only [Instr.fill, hp, hv]
 have : ¬ (off + xs.length > cs.size) := by omega
 simp [this]
 have e := foldl_set xs off 0 cs (by omega)
 simp only [Nat.add_zero] at e
 rw [← h1, ← e]
theorem fill_of {cs cs' : List Value} {ps : List (Nat × Value)} {place : Nat → Option (Nat × Nat)} (h : Fills place cs ps cs') : Instr.fill place cs.toArray ps = some cs'.toArray := by
 induction h with
 | nil => rfl
 | @one i off v cs cs1 cs2 r hp h1 hset h ih =>
  obtain ⟨hlt, hset⟩ := hset.out
  rw [fill_step (v := v) (xs := [v]) (cs1 := cs1.toArray) (by cases v <;> simp_all [Value.cells, Value.oneCell']) hp (by simp; omega) ?_, ih]
  rw [← hset]
  simp only [List.length_singleton]
  rw [List.set_eq_take_append_cons_drop]
  simp [hlt]
 | @agg i off n xs cs cs1 cs2 r hp hn hput h ih =>
  have hn : xs.length = n := Nat.eq_of_beq_eq_true hn
  obtain ⟨hle, hput⟩ := hput.out
  rw [fill_step (v := .agg xs.toArray) (xs := xs) (cs1 := cs1.toArray) rfl (by rw [hp, hn]) (by simpa using hle) (by rw [← hput]), ih]
inductive LApp : List Value → List Value → List Value → Prop
 | nil {l : List Value} : LApp [] l l
 | cons {x : Value} {xs l r : List Value} (h : LApp xs l r) : LApp (x :: xs) l (x :: r)
theorem LApp.out {xs l r : List Value} (h : LApp xs l r) : r = xs ++ l := by
 induction h with
 | nil => rfl
 | cons h ih => rw [ih]; rfl
inductive CatP (sz : Nat) : Nat → List (Nat × Value) → List Value → Prop
 | nil {i : Nat} : CatP sz i [] []
 | one {i : Nat} {v : Value} {r : List (Nat × Value)} {cs : List Value} (h1 : v.oneCell' = true) (hs : Nat.beq sz 1 = true) (h : CatP sz (i + 1) r cs) : CatP sz i ((i, v) :: r) (v :: cs)
 | agg {i : Nat} {xs : List Value} {r : List (Nat × Value)} {cs ys : List Value} (hs : Nat.beq xs.length sz = true) (h : CatP sz (i + 1) r cs) (ha : LApp xs cs ys) : CatP sz i ((i, .agg xs.toArray) :: r) ys
theorem CatP.fill {sz i : Nat} {ps : List (Nat × Value)} {cs : List Value} (h : CatP sz i ps cs) : ∀ (pre rest : List Value), pre.length = i * sz → rest.length = ps.length * sz →
  Instr.fill (fun j => some (j * sz, sz)) (pre ++ rest).toArray ps = some (pre ++ cs).toArray := by
 induction h with
 | nil => intro pre rest h1 h2; simp at h2; subst h2; rfl
 | @one i v r cs h1 hs h ih =>
  intro pre rest hp hr
  have := Nat.eq_of_beq_eq_true hs
  subst this
  simp at hp hr
  obtain ⟨y, rest, rfl⟩ := List.exists_cons_of_length_eq_add_one hr
  rw [fill_step (v := v) (xs := [v]) (off := i * 1) (cs1 := ((pre ++ [v]) ++ rest).toArray) (by cases v <;> simp_all [Value.cells, Value.oneCell']) rfl (by simp; omega) ?_, ih (pre ++ [v]) rest (by simp; omega) (by simpa using hr)]
  ·simp
  ·simp [← hp]
 | @agg i xs r cs ys hs h ha ih =>
  intro pre rest hp hr
  have hx := Nat.eq_of_beq_eq_true hs
  have hr' : rest.length = r.length * sz + sz := by rw [hr, List.length_cons, Nat.succ_mul]
  rw [fill_step (v := .agg xs.toArray) (xs := xs) (off := i * sz) (cs1 := ((pre ++ xs) ++ rest.drop sz).toArray) rfl (by rw [hx]) (by simp; omega) ?_, ih (pre ++ xs) (rest.drop sz) (by simp [hp, hx, Nat.succ_mul]) (by simp; omega)]
  ·rw [ha.out]; simp
  ·rw [← hp, hx]; simp
theorem run_buildSlice_cat {P : Program} {w : World} {t e sz by_ n : Nat} {z : Value} {ps : List (Nat × Value)} {cs : List Value} [hd : TyD P t (.slice e)] [hs : TyS P e sz by_] [hz : TyZ P e z] (hn : Nat.beq ps.length n = true) (hb : Nat.ble (n * sz) 16777216 = true) (hF : CatP sz 0 ps cs) :
  (Instr.buildSlice t n ps.toArray).run P w = .ok (.slice (some ⟨w.heap.size, 0, none⟩) n n) (w.alloc (.cells cs.toArray e)) := by
 have hn := Nat.eq_of_beq_eq_true hn
 have hb' := Nat.le_of_ble_eq_true hb
 have key : ∀ zc : Array Value, Instr.fill (fun i => some (i * sz, sz)) ((Array.range (n * sz)).map (zc[· % zc.size]!)) ps = some cs.toArray := by
  intro zc
  have := hF.fill [] (((Array.range (n * sz)).map (zc[· % zc.size]!)).toList) (by simp) (by simp [hn])
  rw [List.nil_append, Array.toArray_toList, List.nil_append] at this
  exact this
 have hgt : ¬ (n * sz > 2 ^ 24) := by simp; omega
 simp only [Instr.buildSlice, Sem.run_bind, run_underlying hd.out, Result.andThen_ok, run_size (P := P) (t := e), if_neg hgt, pure_bind]
 by_cases h0 : n * sz = 0
 ·have k := key #[]
  simp only [if_pos h0, pure_bind, k, newRow, Sem.run_bind, run_newObj, Result.andThen_ok, Sem.run_pure]
  rfl
 ·simp [h0, run_zero (P := P) (t := e), key, newRow]
def placesB (P : Program) (t : Nat) : Option (List (Nat × Nat) × Value) :=
 match P.info? t, P.underlying t with
 | some it, some (.struct fields) => match it.zero, fields.toList.mapM (fun f => (P.info? f.type).map fun i => (f.offset, i.size)) with
  | some z, some pl => some (pl, z)
  | _, _ => none
 | _, _ => none
class TyP (P : Program) (t : Nat) (pl : outParam (List (Nat × Nat))) (z : outParam (List Value)) : Prop where
 out : placesB P t = some (pl, .agg z.toArray)
theorem run_build_struct {P : Program} {w : World} {t : Nat} {pl : List (Nat × Nat)} {z cs : List Value} {ps : List (Nat × Value)} [h : TyP P t pl z] (hF : Fills (pl.toArray[·]?) z ps cs) : (Instr.build t ps.toArray).run P w = .ok (.agg cs.toArray) w := by
 refine run_build w t _ _ ?_
 have h := h.out
 unfold placesB at h
 unfold Program.built
 split at h <;> try cases h
 rename_i it fields e1 e2
 split at h <;> try cases h
 rename_i z' pl' e3 e4
 simp only [e1, e2, e3, e4]
 simpa [Value.cells] using fill_of hF
theorem run_build_array {P : Program} {w : World} {t n e sz by_ : Nat} {z cs : List Value} {ps : List (Nat × Value)} [hd : TyD P t (.array n e)] [hs : TyS P e sz by_] [hz : TyZ P t (.agg z.toArray)] (hF : Fills (fun i => some (i * sz, sz)) z ps cs) : (Instr.build t ps.toArray).run P w = .ok (.agg cs.toArray) w := by
 refine run_build w t _ _ ?_
 have h1 := hz.out
 have h2 := hs.out
 unfold Program.built
 cases e1 : P.info? t with
 | none => rw [e1] at h1; cases h1
 | some it =>
  cases e2 : P.info? e with
  | none => rw [e2] at h2; cases h2
  | some ie =>
   rw [e1] at h1; rw [e2] at h2
   simp at h1 h2
   simp only [hd.out, h1, e2, h2.1]
   simpa [Value.cells] using fill_of hF
def strOf (l : List UInt8) : ByteArray := ⟨l.toArray⟩
theorem strBeq (a b : List UInt8) : ((strOf a).toList == (strOf b).toList) = decide (a = b) := by
 rw [ByteArray.toList_eq, ByteArray.toList_eq]
 show (a == b) = decide (a = b)
 rw [Bool.eq_iff_iff]; simp
inductive Md where
 | seq
 | quiet
 | mix (D : World → Prop)
def Wl (l : List Oper) (P : Program) (md : Md) (ops : Array Oper) (N : Nat) (Γ : Env) (C : World → Prop) (Q : Exit → Act → World → Prop) : Prop :=
 match md with
 | .seq => ∀ a w, Fr N a Γ → C w → wpList P ops Q l a w
 | .quiet => ∀ a, Fr N a Γ → wpQuiet P ops C (fun a' => ∀ w', C w' → Q .normal a' w') l a
 | .mix D => ∀ a w, Fr N a Γ → D w → C w → wpE P ops C (fun a' w' => Q .normal a' w') l a w
def St (c : Code) (P : Program) (N : Nat) (Γ : Env) (C : World → Prop) (Q : Exit → Act → World → Prop) : Prop := ∀ a w, Fr N a Γ → C w → c.wp P Q a w
def Gt (N : Nat) (e : Exit) (Γ : Env) (C : World → Prop) (Q : Exit → Act → World → Prop) : Prop := ∀ a w, Fr N a Γ → C w → Q e a w
section
variable {P : Program} {md : Md} {ops : Array Oper} {N : Nat} {rest l : List Oper} {Γ : Env} {C : World → Prop} {Q K : Exit → Act → World → Prop}
theorem Wl.nil (h : Gt N .normal Γ C Q) : Wl [] P .seq ops N Γ C Q := fun a w ha hw => h a w ha hw
theorem Wl.nilQ (h : Gt N .normal Γ C Q) : Wl [] P .quiet ops N Γ C Q := fun a ha w hw => h a w ha hw
theorem Wl.nilM {D : World → Prop} (h : Gt N .normal Γ D Q) : Wl [] P (.mix D) ops N Γ C Q := fun a w ha hd _ => h a w ha hd
theorem Wl.val {d : Nat} {op : Op} {ty : TypeId} {pos : String} {af : Array Edge} {v : Value} (hd : Nat.blt d N = true)
  (hr : ∀ a w, Fr N a Γ → C w → (execOp a.eval ⟨some d, op, ty, pos, af, none⟩).run P w = .ok (.value v) w)
  (h : Wl rest P md ops N ((d, v) :: Γ) C Q) : Wl (⟨some d, op, ty, pos, af, none⟩ :: rest) P md ops N Γ C Q := by
 cases md
 ·intro a w ha hw
  refine wpList_plain rfl fun K hK => ?_
  simp only [Oper.wp, hr a w ha hw, Oper.upon]
  exact hK _ _ (h _ _ (ha.put hd v) hw)
 ·intro a ha
  simp only [wpQuiet, Region.wanted, if_true]
  exact ⟨v, fun w hw => by simp [Oper.quietAt, hr a w ha hw, Oper.quietUpon], h _ (ha.put hd v)⟩
 ·intro a w ha hD hw
  simp only [wpE, Region.wanted, if_true]
  split
  ·simp only [Oper.wp, hr a w ha hw, Oper.upon]; exact ⟨hw, h _ _ (ha.put hd v) hD hw⟩
  ·exact ⟨v, fun w' hw' => hr a w' ha hw', h _ _ (ha.put hd v) hD hw⟩
theorem Wl.eff {d : Option Nat} {op : Op} {ty : TypeId} {pos : String} {af : Array Edge}
  (hr : ∀ a w, Fr N a Γ → C w → ∃ v w', ((execOp a.eval ⟨d, op, ty, pos, af, none⟩).run P w = .ok (.value v) w' ∨ ((execOp a.eval ⟨d, op, ty, pos, af, none⟩).run P w = .ok .skip w' ∧ v = undef)) ∧
   wpList P ops Q rest (a.put d v) w') : Wl (⟨d, op, ty, pos, af, none⟩ :: rest) P .seq ops N Γ C Q := by
 intro a w ha hw
 obtain ⟨v, w', h1, h2⟩ := hr a w ha hw
 refine wpList_plain rfl fun K hK => ?_
 rcases h1 with h1 | ⟨h1, rfl⟩
 ·simp only [Oper.wp, h1, Oper.upon]; exact hK _ _ h2
 ·simp only [Oper.wp, h1, Oper.upon]; exact hK _ _ h2
theorem Wl.reb {H' : List Blk} (h : ∀ w, C w → Own w H' ∧ Apart H' ∧ Wl l P .seq ops N Γ (Hp w H') Q) : Wl l P .seq ops N Γ C Q := fun a w ha hw => by
 obtain ⟨h1, h2, h3⟩ := h w hw
 exact h3 a w ha ⟨Upd.refl _ _, h1, h2⟩
theorem yielded_of {a : Act} (ha : Fr N a Γ) {j t : Nat} {b : Bool} (hj : (ops[j]?).bind (·.dst) = some t) (ht : look Γ t = some (.bool b)) : yielded ops a.tmps j = some b := by
 simp [yielded, hj, ha.get t _ ht]
theorem Wl.on {d : Option Nat} {op : Op} {ty : TypeId} {pos : String} {af : Array Edge} {j t : Nat} {want b : Bool} (hj : (ops[j]?).bind (·.dst) = some t) (ht : look Γ t = some (.bool b)) (hb : b = want)
  (h : Wl (⟨d, op, ty, pos, af, none⟩ :: rest) P md ops N Γ C Q) : Wl (⟨d, op, ty, pos, af, some (j, want)⟩ :: rest) P md ops N Γ C Q := by
 subst hb
 cases md
 ·intro a w ha hw
  have hy := yielded_of (ops := ops) ha hj ht
  have h := h a w ha hw
  simp only [wpList, Region.wanted, if_true] at h
  simp only [wpList, Region.wanted, hy, beq_self_eq_true, if_true]
  exact h
 ·intro a ha
  have hy := yielded_of (ops := ops) ha hj ht
  have h := h a ha
  simp only [wpQuiet, Region.wanted, if_true] at h
  simp only [wpQuiet, Region.wanted, hy, beq_self_eq_true, if_true]
  exact h
 ·intro a w ha hD hw
  have hy := yielded_of (ops := ops) ha hj ht
  have h := h a w ha hD hw
  simp only [wpE, Region.wanted, if_true] at h
  simp only [wpE, Region.wanted, hy, beq_self_eq_true, if_true]
  exact h
theorem Wl.off {d : Nat} {op : Op} {ty : TypeId} {pos : String} {af : Array Edge} {j t : Nat} {want b : Bool} (hd : Nat.blt d N = true) (hj : (ops[j]?).bind (·.dst) = some t) (ht : look Γ t = some (.bool b)) (hb : b = !want)
  (h : Wl rest P md ops N ((d, undef) :: Γ) C Q) : Wl (⟨some d, op, ty, pos, af, some (j, want)⟩ :: rest) P md ops N Γ C Q := by
 subst hb
 cases md
 ·intro a w ha hw
  have hy := yielded_of (ops := ops) ha hj ht
  have e : ((some (!want) : Option Bool) == some want) = false := by cases want <;> rfl
  simp only [wpList, Region.wanted, hy, e]
  exact h _ _ (ha.put hd _) hw
 ·intro a ha
  have hy := yielded_of (ops := ops) ha hj ht
  have e : ((some (!want) : Option Bool) == some want) = false := by cases want <;> rfl
  simp only [wpQuiet, Region.wanted, hy, e]
  exact h _ (ha.put hd _)
 ·intro a w ha hD hw
  have hy := yielded_of (ops := ops) ha hj ht
  have e : ((some (!want) : Option Bool) == some want) = false := by cases want <;> rfl
  simp only [wpE, Region.wanted, hy, e]
  exact h _ _ (ha.put hd _) hD hw
theorem Wl.offU {d : Nat} {op : Op} {ty : TypeId} {pos : String} {af : Array Edge} {j t : Nat} {want : Bool} (hd : Nat.blt d N = true) (hj : (ops[j]?).bind (·.dst) = some t) (ht : look Γ t = some undef)
  (h : Wl rest P md ops N ((d, undef) :: Γ) C Q) : Wl (⟨some d, op, ty, pos, af, some (j, want)⟩ :: rest) P md ops N Γ C Q := by
 have e : ((none : Option Bool) == some want) = false := by cases want <;> rfl
 cases md
 ·intro a w ha hw
  have hy : yielded ops a.tmps j = none := by simp [yielded, hj, ha.get t _ ht, undef]
  simp only [wpList, Region.wanted, hy, e]
  exact h _ _ (ha.put hd _) hw
 ·intro a ha
  have hy : yielded ops a.tmps j = none := by simp [yielded, hj, ha.get t _ ht, undef]
  simp only [wpQuiet, Region.wanted, hy, e]
  exact h _ (ha.put hd _)
 ·intro a w ha hD hw
  have hy : yielded ops a.tmps j = none := by simp [yielded, hj, ha.get t _ ht, undef]
  simp only [wpE, Region.wanted, hy, e]
  exact h _ _ (ha.put hd _) hD hw
theorem Wl.splitB {d : Option Nat} {op : Op} {ty : TypeId} {pos : String} {af : Array Edge} {j t : Nat} {want b : Bool} (_hj : (ops[j]?).bind (·.dst) = some t) (_ht : look Γ t = some (.bool b))
  (h1 : b = true → Wl (⟨d, op, ty, pos, af, some (j, want)⟩ :: rest) P md ops N Γ C Q) (h2 : b = false → Wl (⟨d, op, ty, pos, af, some (j, want)⟩ :: rest) P md ops N Γ C Q) :
  Wl (⟨d, op, ty, pos, af, some (j, want)⟩ :: rest) P md ops N Γ C Q := by
 cases hb : b
 ·exact h2 hb
 ·exact h1 hb
theorem Wl.splitP {d : Option Nat} {op : Op} {ty : TypeId} {pos : String} {af : Array Edge} {j t : Nat} {want : Bool} {p : Prop} {_i : Decidable p} (_hj : (ops[j]?).bind (·.dst) = some t) (_ht : look Γ t = some (.bool (decide p)))
  (h1 : p → decide p = true → Wl (⟨d, op, ty, pos, af, some (j, want)⟩ :: rest) P md ops N Γ C Q) (h2 : ¬ p → decide p = false → Wl (⟨d, op, ty, pos, af, some (j, want)⟩ :: rest) P md ops N Γ C Q) :
  Wl (⟨d, op, ty, pos, af, some (j, want)⟩ :: rest) P md ops N Γ C Q := by
 by_cases hp : p
 ·exact h1 hp (decide_eq_true hp)
 ·exact h2 hp (decide_eq_false hp)
section ops
variable {d : Nat} {ty : TypeId} {pos : String} {af : Array Edge}
theorem Wl.move {x : Operand} {v : Value} (hd : Nat.blt d N = true) (hx : ev Γ x = some v) (h : Wl rest P md ops N ((d, v) :: Γ) C Q) : Wl (⟨some d, .move x, ty, pos, af, none⟩ :: rest) P md ops N Γ C Q :=
 Wl.val hd (fun a w ha _ => by simp [execOp, ha.ev hx]) h
theorem Wl.assign {x : Operand} {v : Value} (hd : Nat.blt d N = true) (hx : ev Γ x = some v) (h : Wl rest P md ops N ((d, v) :: Γ) C Q) : Wl (⟨some d, .assign x, ty, pos, af, none⟩ :: rest) P md ops N Γ C Q :=
 Wl.val hd (fun a w ha _ => by simp [execOp, ha.ev hx]) h
theorem Wl.pickT {c x y : Operand} {b : Bool} {v : Value} (hd : Nat.blt d N = true) (hc : ev Γ c = some (.bool b)) (hb : b = true) (hx : ev Γ x = some v) (h : Wl rest P md ops N ((d, v) :: Γ) C Q) :
  Wl (⟨some d, .pick c x y, ty, pos, af, none⟩ :: rest) P md ops N Γ C Q :=
 Wl.val hd (fun a w ha _ => by simp [execOp, ha.ev hc, ha.ev hx, asBool, hb]) h
theorem Wl.pickF {c x y : Operand} {b : Bool} {v : Value} (hd : Nat.blt d N = true) (hc : ev Γ c = some (.bool b)) (hb : b = false) (hy : ev Γ y = some v) (h : Wl rest P md ops N ((d, v) :: Γ) C Q) :
  Wl (⟨some d, .pick c x y, ty, pos, af, none⟩ :: rest) P md ops N Γ C Q :=
 Wl.val hd (fun a w ha _ => by simp [execOp, ha.ev hc, ha.ev hy, asBool, hb]) h
theorem Wl.not {t : TypeId} {x : Operand} {b : Bool} (hd : Nat.blt d N = true) (hx : ev Γ x = some (.bool b)) (h : Wl rest P md ops N ((d, .bool (!b)) :: Γ) C Q) : Wl (⟨some d, .unOp .not t x, ty, pos, af, none⟩ :: rest) P md ops N Γ C Q :=
 Wl.val hd (fun a w ha _ => by simp [execOp, ha.ev hx, Op.unary]) h
theorem Wl.neg {t : TypeId} {x : Operand} {k : IntKind} {n : Int} (hd : Nat.blt d N = true) (hx : ev Γ x = some (.int k n)) (h : Wl rest P md ops N ((d, .int k (k.wrap (0 - n))) :: Γ) C Q) : Wl (⟨some d, .unOp .neg t x, ty, pos, af, none⟩ :: rest) P md ops N Γ C Q :=
 Wl.val hd (fun a w ha _ => by simp [execOp, ha.ev hx, Op.unary, Op.intArith]) h
section bin
variable {t u : TypeId} {x y : Operand} {k : IntKind} {m n : Int}
theorem Wl.add (hd : Nat.blt d N = true) (hx : ev Γ x = some (.int k m)) (hy : ev Γ y = some (.int k n)) (h : Wl rest P md ops N ((d, .int k (k.wrap (m + n))) :: Γ) C Q) : Wl (⟨some d, .binOp .add t x y u, ty, pos, af, none⟩ :: rest) P md ops N Γ C Q :=
 Wl.val hd (fun a w ha _ => by simp [execOp, ha.ev hx, ha.ev hy, eqGuard_add, binOp_add, Op.intArith]) h
theorem Wl.sub' (hd : Nat.blt d N = true) (hx : ev Γ x = some (.int k m)) (hy : ev Γ y = some (.int k n)) (h : Wl rest P md ops N ((d, .int k (k.wrap (m - n))) :: Γ) C Q) : Wl (⟨some d, .binOp .sub t x y u, ty, pos, af, none⟩ :: rest) P md ops N Γ C Q :=
 Wl.val hd (fun a w ha _ => by simp [execOp, ha.ev hx, ha.ev hy, eqGuard_sub, binOp_sub, Op.intArith]) h
theorem Wl.mul (hd : Nat.blt d N = true) (hx : ev Γ x = some (.int k m)) (hy : ev Γ y = some (.int k n)) (h : Wl rest P md ops N ((d, .int k (k.wrap (m * n))) :: Γ) C Q) : Wl (⟨some d, .binOp .mul t x y u, ty, pos, af, none⟩ :: rest) P md ops N Γ C Q :=
 Wl.val hd (fun a w ha _ => by simp [execOp, ha.ev hx, ha.ev hy, eqGuard_mul, binOp_mul, Op.intArith]) h
theorem Wl.addI (hd : Nat.blt d N = true) (hx : ev Γ x = some (.int .i64 m)) (hy : ev Γ y = some (.int .i64 n)) (hb : -9223372036854775808 ≤ m + n ∧ m + n ≤ 9223372036854775807) (h : Wl rest P md ops N ((d, .int .i64 (m + n)) :: Γ) C Q) : Wl (⟨some d, .binOp .add t x y u, ty, pos, af, none⟩ :: rest) P md ops N Γ C Q :=
 Wl.add hd hx hy (by rw [IntWalk.i64_in _ hb]; exact h)
theorem Wl.subI (hd : Nat.blt d N = true) (hx : ev Γ x = some (.int .i64 m)) (hy : ev Γ y = some (.int .i64 n)) (hb : -9223372036854775808 ≤ m - n ∧ m - n ≤ 9223372036854775807) (h : Wl rest P md ops N ((d, .int .i64 (m - n)) :: Γ) C Q) : Wl (⟨some d, .binOp .sub t x y u, ty, pos, af, none⟩ :: rest) P md ops N Γ C Q :=
 Wl.sub' hd hx hy (by rw [IntWalk.i64_in _ hb]; exact h)
theorem Wl.mulI (hd : Nat.blt d N = true) (hx : ev Γ x = some (.int .i64 m)) (hy : ev Γ y = some (.int .i64 n)) (hb : -9223372036854775808 ≤ m * n ∧ m * n ≤ 9223372036854775807) (h : Wl rest P md ops N ((d, .int .i64 (m * n)) :: Γ) C Q) : Wl (⟨some d, .binOp .mul t x y u, ty, pos, af, none⟩ :: rest) P md ops N Γ C Q :=
 Wl.mul hd hx hy (by rw [IntWalk.i64_in _ hb]; exact h)
theorem Wl.addU (hd : Nat.blt d N = true) (hx : ev Γ x = some (.int .u64 m)) (hy : ev Γ y = some (.int .u64 n)) (hb : 0 ≤ m + n ∧ m + n ≤ 18446744073709551615) (h : Wl rest P md ops N ((d, .int .u64 (m + n)) :: Γ) C Q) : Wl (⟨some d, .binOp .add t x y u, ty, pos, af, none⟩ :: rest) P md ops N Γ C Q :=
 Wl.add hd hx hy (by rw [IntWalk.u64_in _ hb]; exact h)
theorem Wl.quo (hd : Nat.blt d N = true) (hx : ev Γ x = some (.int k m)) (hy : ev Γ y = some (.int k n)) (hn : n ≠ 0) (h : Wl rest P md ops N ((d, .int k (k.wrap (m.tdiv n))) :: Γ) C Q) : Wl (⟨some d, .binOp .quo t x y u, ty, pos, af, none⟩ :: rest) P md ops N Γ C Q :=
 Wl.val hd (fun a w ha _ => by simp [execOp, ha.ev hx, ha.ev hy, eqGuard_quo, binOp_quo, Op.intDiv, hn]) h
theorem Wl.rem (hd : Nat.blt d N = true) (hx : ev Γ x = some (.int k m)) (hy : ev Γ y = some (.int k n)) (hn : n ≠ 0) (h : Wl rest P md ops N ((d, .int k (m.tmod n)) :: Γ) C Q) : Wl (⟨some d, .binOp .rem t x y u, ty, pos, af, none⟩ :: rest) P md ops N Γ C Q :=
 Wl.val hd (fun a w ha _ => by simp [execOp, ha.ev hx, ha.ev hy, eqGuard_rem, binOp_rem, Op.intDiv, hn]) h
theorem Wl.and (hd : Nat.blt d N = true) (hx : ev Γ x = some (.int k m)) (hy : ev Γ y = some (.int k n)) (h : Wl rest P md ops N ((d, .int k (bits .and k m n)) :: Γ) C Q) : Wl (⟨some d, .binOp .and t x y u, ty, pos, af, none⟩ :: rest) P md ops N Γ C Q :=
 Wl.val hd (fun a w ha _ => by simp [execOp, ha.ev hx, ha.ev hy, eqGuard_and, binOp_and, intBits_and]) h
theorem Wl.or (hd : Nat.blt d N = true) (hx : ev Γ x = some (.int k m)) (hy : ev Γ y = some (.int k n)) (h : Wl rest P md ops N ((d, .int k (bits .or k m n)) :: Γ) C Q) : Wl (⟨some d, .binOp .or t x y u, ty, pos, af, none⟩ :: rest) P md ops N Γ C Q :=
 Wl.val hd (fun a w ha _ => by simp [execOp, ha.ev hx, ha.ev hy, eqGuard_or, binOp_or, intBits_or]) h
theorem Wl.xor (hd : Nat.blt d N = true) (hx : ev Γ x = some (.int k m)) (hy : ev Γ y = some (.int k n)) (h : Wl rest P md ops N ((d, .int k (bits .xor k m n)) :: Γ) C Q) : Wl (⟨some d, .binOp .xor t x y u, ty, pos, af, none⟩ :: rest) P md ops N Γ C Q :=
 Wl.val hd (fun a w ha _ => by simp [execOp, ha.ev hx, ha.ev hy, eqGuard_xor, binOp_xor, intBits_xor]) h
theorem Wl.shl {k' : IntKind} (hd : Nat.blt d N = true) (hx : ev Γ x = some (.int k m)) (hy : ev Γ y = some (.int k' n)) (hn : 0 ≤ n) (h : Wl rest P md ops N ((d, .int k (k.wrap (m * 2 ^ min n.toNat k.bits))) :: Γ) C Q) : Wl (⟨some d, .binOp .shl t x y u, ty, pos, af, none⟩ :: rest) P md ops N Γ C Q :=
 Wl.val hd (fun a w ha _ => by simp [execOp, ha.ev hx, ha.ev hy, eqGuard_shl, binOp_shl, Op.shift, show ¬ n < 0 by omega]) h
theorem Wl.shr {k' : IntKind} (hd : Nat.blt d N = true) (hx : ev Γ x = some (.int k m)) (hy : ev Γ y = some (.int k' n)) (hn : 0 ≤ n) (h : Wl rest P md ops N ((d, .int k (m.fdiv (2 ^ min n.toNat k.bits))) :: Γ) C Q) : Wl (⟨some d, .binOp .shr t x y u, ty, pos, af, none⟩ :: rest) P md ops N Γ C Q :=
 Wl.val hd (fun a w ha _ => by simp [execOp, ha.ev hx, ha.ev hy, eqGuard_shr, binOp_shr, Op.shift, show ¬ n < 0 by omega]) h
theorem Wl.eql (hd : Nat.blt d N = true) (hx : ev Γ x = some (.int k m)) (hy : ev Γ y = some (.int k n)) (h : Wl rest P md ops N ((d, .bool (decide (m = n))) :: Γ) C Q) : Wl (⟨some d, .binOp .eql t x y u, ty, pos, af, none⟩ :: rest) P md ops N Γ C Q :=
 Wl.val hd (fun a w ha _ => by simp only [execOp, ha.ev hx, ha.ev hy, eqGuard_at_int, binOp_eql, pure_bind]; simp; rfl) h
theorem Wl.neq (hd : Nat.blt d N = true) (hx : ev Γ x = some (.int k m)) (hy : ev Γ y = some (.int k n)) (h : Wl rest P md ops N ((d, .bool (decide (m ≠ n))) :: Γ) C Q) : Wl (⟨some d, .binOp .neq t x y u, ty, pos, af, none⟩ :: rest) P md ops N Γ C Q :=
 Wl.val hd (fun a w ha _ => by simp only [execOp, ha.ev hx, ha.ev hy, eqGuard_at_int, binOp_neq, pure_bind]; simp [bne]; rfl) h
theorem Wl.neqIs (hd : Nat.blt d N = true) (hx : ev Γ x = some (.int k m)) (hy : ev Γ y = some (.int k n)) (e : m = n) (h : Wl rest P md ops N ((d, .bool false) :: Γ) C Q) : Wl (⟨some d, .binOp .neq t x y u, ty, pos, af, none⟩ :: rest) P md ops N Γ C Q :=
 Wl.neq hd hx hy (by rw [decide_eq_false (fun h => h e)]; exact h)
theorem Wl.lss (hd : Nat.blt d N = true) (hx : ev Γ x = some (.int k m)) (hy : ev Γ y = some (.int k n)) (h : Wl rest P md ops N ((d, .bool (decide (m < n))) :: Γ) C Q) : Wl (⟨some d, .binOp .lss t x y u, ty, pos, af, none⟩ :: rest) P md ops N Γ C Q :=
 Wl.val hd (fun a w ha _ => by simp [execOp, ha.ev hx, ha.ev hy, eqGuard_lss, binOp_lss]) h
theorem Wl.leq (hd : Nat.blt d N = true) (hx : ev Γ x = some (.int k m)) (hy : ev Γ y = some (.int k n)) (h : Wl rest P md ops N ((d, .bool (decide (m ≤ n))) :: Γ) C Q) : Wl (⟨some d, .binOp .leq t x y u, ty, pos, af, none⟩ :: rest) P md ops N Γ C Q :=
 Wl.val hd (fun a w ha _ => by simp [execOp, ha.ev hx, ha.ev hy, eqGuard_leq, binOp_leq]) h
theorem Wl.gtr (hd : Nat.blt d N = true) (hx : ev Γ x = some (.int k m)) (hy : ev Γ y = some (.int k n)) (h : Wl rest P md ops N ((d, .bool (decide (n < m))) :: Γ) C Q) : Wl (⟨some d, .binOp .gtr t x y u, ty, pos, af, none⟩ :: rest) P md ops N Γ C Q :=
 Wl.val hd (fun a w ha _ => by simp [execOp, ha.ev hx, ha.ev hy, eqGuard_gtr, binOp_gtr]) h
theorem Wl.geq (hd : Nat.blt d N = true) (hx : ev Γ x = some (.int k m)) (hy : ev Γ y = some (.int k n)) (h : Wl rest P md ops N ((d, .bool (decide (n ≤ m))) :: Γ) C Q) : Wl (⟨some d, .binOp .geq t x y u, ty, pos, af, none⟩ :: rest) P md ops N Γ C Q :=
 Wl.val hd (fun a w ha _ => by simp [execOp, ha.ev hx, ha.ev hy, eqGuard_geq, binOp_geq]) h
theorem Wl.eqlS {p q : ByteArray} (hd : Nat.blt d N = true) (hx : ev Γ x = some (.string p)) (hy : ev Γ y = some (.string q)) (h : Wl rest P md ops N ((d, .bool (p.toList == q.toList)) :: Γ) C Q) : Wl (⟨some d, .binOp .eql t x y u, ty, pos, af, none⟩ :: rest) P md ops N Γ C Q :=
 Wl.val hd (fun a w ha _ => by simp only [execOp, ha.ev hx, ha.ev hy, eqGuard_at_string, pure_bind, binOp, Op.stringOp, Sem.run_pure]) h
theorem Wl.neqS {p q : ByteArray} (hd : Nat.blt d N = true) (hx : ev Γ x = some (.string p)) (hy : ev Γ y = some (.string q)) (h : Wl rest P md ops N ((d, .bool (!(p.toList == q.toList))) :: Γ) C Q) : Wl (⟨some d, .binOp .neq t x y u, ty, pos, af, none⟩ :: rest) P md ops N Γ C Q :=
 Wl.val hd (fun a w ha _ => by simp only [execOp, ha.ev hx, ha.ev hy, eqGuard_at_string, pure_bind, binOp, Op.stringOp, Sem.run_pure]) h
theorem Wl.eqlSB {p q : List UInt8} (hd : Nat.blt d N = true) (hx : ev Γ x = some (.string (strOf p))) (hy : ev Γ y = some (.string (strOf q))) (h : Wl rest P md ops N ((d, .bool (decide (p = q))) :: Γ) C Q) : Wl (⟨some d, .binOp .eql t x y u, ty, pos, af, none⟩ :: rest) P md ops N Γ C Q :=
 Wl.eqlS hd hx hy (by rw [strBeq]; exact h)
theorem Wl.neqSB {p q : List UInt8} (hd : Nat.blt d N = true) (hx : ev Γ x = some (.string (strOf p))) (hy : ev Γ y = some (.string (strOf q))) (h : Wl rest P md ops N ((d, .bool (decide (p ≠ q))) :: Γ) C Q) : Wl (⟨some d, .binOp .neq t x y u, ty, pos, af, none⟩ :: rest) P md ops N Γ C Q :=
 Wl.neqS hd hx hy (by rw [strBeq]; simpa using h)
theorem Wl.eqlPN {e : TypeId} [ht : TyD P t (.pointer e)] {a0 : Addr} (hd : Nat.blt d N = true) (hx : ev Γ x = some (.pointer (some a0))) (hy : ev Γ y = some (.pointer none)) (h : Wl rest P md ops N ((d, .bool false) :: Γ) C Q) : Wl (⟨some d, .binOp .eql t x y u, ty, pos, af, none⟩ :: rest) P md ops N Γ C Q :=
 Wl.val hd (fun a w ha _ => by simp only [execOp, ha.ev hx, ha.ev hy, eqGuard_at_pointer, pure_bind, Sem.run_bind, run_eql_nilp ht.out]; rfl) h
end bin
theorem Wl.convI {s t : TypeId} {x : Operand} {k k' : IntKind} {n : Int} [hs : TyD P s (.int k)] [ht : TyD P t (.int k')] (hd : Nat.blt d N = true) (hx : ev Γ x = some (.int k n)) (h : Wl rest P md ops N ((d, .int k' (k'.wrap n)) :: Γ) C Q) :
  Wl (⟨some d, .convert s t x, ty, pos, af, none⟩ :: rest) P md ops N Γ C Q :=
 Wl.val hd (fun a w ha _ => by simp [execOp, ha.ev hx, convert, run_underlying hs.out, run_underlying ht.out, Conv.intToInt]) h
theorem Wl.convI64 {s t : TypeId} {x : Operand} {k : IntKind} {n : Int} [hs : TyD P s (.int k)] [ht : TyD P t (.int .i64)] (hd : Nat.blt d N = true) (hx : ev Γ x = some (.int k n)) (hb : -9223372036854775808 ≤ n ∧ n ≤ 9223372036854775807) (h : Wl rest P md ops N ((d, .int .i64 n) :: Γ) C Q) :
  Wl (⟨some d, .convert s t x, ty, pos, af, none⟩ :: rest) P md ops N Γ C Q := Wl.convI hd hx (by rw [IntWalk.i64_in _ hb]; exact h)
theorem Wl.convU64 {s t : TypeId} {x : Operand} {k : IntKind} {n : Int} [hs : TyD P s (.int k)] [ht : TyD P t (.int .u64)] (hd : Nat.blt d N = true) (hx : ev Γ x = some (.int k n)) (hb : 0 ≤ n ∧ n ≤ 18446744073709551615) (h : Wl rest P md ops N ((d, .int .u64 n) :: Γ) C Q) :
  Wl (⟨some d, .convert s t x, ty, pos, af, none⟩ :: rest) P md ops N Γ C Q := Wl.convI hd hx (by rw [IntWalk.u64_in _ hb]; exact h)
theorem Wl.convU32 {s t : TypeId} {x : Operand} {k : IntKind} {n : Int} [hs : TyD P s (.int k)] [ht : TyD P t (.int .u32)] (hd : Nat.blt d N = true) (hx : ev Γ x = some (.int k n)) (hb : 0 ≤ n ∧ n ≤ 4294967295) (h : Wl rest P md ops N ((d, .int .u32 n) :: Γ) C Q) :
  Wl (⟨some d, .convert s t x, ty, pos, af, none⟩ :: rest) P md ops N Γ C Q := Wl.convI hd hx (by rw [IntWalk.u32_in _ hb]; exact h)
theorem Wl.convU8 {s t : TypeId} {x : Operand} {k : IntKind} {n : Int} [hs : TyD P s (.int k)] [ht : TyD P t (.int .u8)] (hd : Nat.blt d N = true) (hx : ev Γ x = some (.int k n)) (hb : 0 ≤ n ∧ n ≤ 255) (h : Wl rest P md ops N ((d, .int .u8 n) :: Γ) C Q) :
  Wl (⟨some d, .convert s t x, ty, pos, af, none⟩ :: rest) P md ops N Γ C Q := Wl.convI hd hx (by rw [IntWalk.u8_in _ hb]; exact h)
theorem Wl.nilCheck {x : Operand} {p : Addr} (hd : Nat.blt d N = true) (hx : ev Γ x = some (.pointer (some p))) (h : Wl rest P md ops N ((d, .pointer (some p)) :: Γ) C Q) : Wl (⟨some d, .nilCheck x, ty, pos, af, none⟩ :: rest) P md ops N Γ C Q :=
 Wl.val hd (fun a w ha _ => by simp [execOp, ha.ev hx]) h
theorem Wl.extract {x : Operand} {i : Nat} {vs : List Value} {v : Value} (hd : Nat.blt d N = true) (hx : ev Γ x = some (.tuple vs.toArray)) (hi : vs[i]? = some v) (h : Wl rest P md ops N ((d, v) :: Γ) C Q) : Wl (⟨some d, .extract x i, ty, pos, af, none⟩ :: rest) P md ops N Γ C Q :=
 Wl.val hd (fun a w ha _ => by simp [execOp, ha.ev hx, Instr.extract, hi]) h
theorem Wl.fieldAddr0 {s i ft : Nat} [hf : Fld P s i 0 ft] {x : Operand} {a0 : Addr} (hd : Nat.blt d N = true) (hx : ev Γ x = some (.pointer (some a0))) (h : Wl rest P md ops N ((d, .pointer (some a0)) :: Γ) C Q) :
  Wl (⟨some d, .fieldAddr s x i, ty, pos, af, none⟩ :: rest) P md ops N Γ C Q :=
 Wl.val hd (fun a w ha _ => by
  have h := hf.out
  unfold fieldB at h
  split at h <;> try cases h
  rename_i fs hfs
  cases e : fs[i]? with
  | none => rw [e] at h; cases h
  | some f =>
   rw [e] at h; simp at h
   obtain ⟨h1, h2, h3⟩ := h
   have h3 : ¬ sizeB P f.type = 0 := fun e0 => by rw [e0] at h3; cases h3
   cases e2 : P.info? f.type with
   | none => simp [sizeB, e2] at h3
   | some inf =>
    have h4 : ¬ inf.size = 0 := by simpa [sizeB, e2] using h3
    simp [execOp, ha.ev hx, Instr.fieldAt, run_underlying hfs, e, Instr.sureAddr, fieldPlace, sizeOf, typeInfo, e2, h4, h1, Addr.add]) h
theorem Wl.fieldAddr {s i off ft : Nat} [hf : Fld P s i off ft] {x : Operand} {b o : Nat} (hd : Nat.blt d N = true) (hx : ev Γ x = some (.pointer (some ⟨b, o, none⟩))) (h : Wl rest P md ops N ((d, .pointer (some ⟨b, o + off, none⟩)) :: Γ) C Q) :
  Wl (⟨some d, .fieldAddr s x i, ty, pos, af, none⟩ :: rest) P md ops N Γ C Q :=
 Wl.val hd (fun a w ha _ => by
  have h := hf.out
  unfold fieldB at h
  split at h <;> try cases h
  rename_i fs hfs
  cases e : fs[i]? with
  | none => rw [e] at h; cases h
  | some f =>
   rw [e] at h; simp at h
   obtain ⟨h1, h2, h3⟩ := h
   have h3 : ¬ sizeB P f.type = 0 := fun e0 => by rw [e0] at h3; cases h3
   cases e2 : P.info? f.type with
   | none => simp [sizeB, e2] at h3
   | some inf =>
    have h4 : ¬ inf.size = 0 := by simpa [sizeB, e2] using h3
    simp [execOp, ha.ev hx, Instr.fieldAt, run_underlying hfs, e, Instr.sureAddr, fieldPlace, sizeOf, typeInfo, e2, h4, h1, Addr.add_lit]) h
theorem Wl.fieldAddrZ {s i off ft : Nat} [hf : Fld P s i off ft] {x : Operand} {b : Nat} (hd : Nat.blt d N = true) (hx : ev Γ x = some (.pointer (some ⟨b, 0, none⟩))) (h : Wl rest P md ops N ((d, .pointer (some ⟨b, off, none⟩)) :: Γ) C Q) :
  Wl (⟨some d, .fieldAddr s x i, ty, pos, af, none⟩ :: rest) P md ops N Γ C Q :=
 Wl.fieldAddr (o := 0) hd hx (by rw [Nat.zero_add]; exact h)
theorem Wl.len {t : TypeId} {e : TypeId} {x : Operand} {a0 : Option Addr} {n c : Nat} [ht : TyD P t (.slice e)] (hd : Nat.blt d N = true) (hx : ev Γ x = some (.slice a0 n c)) (h : Wl rest P md ops N ((d, .int .i64 (n : Int)) :: Γ) C Q) :
  Wl (⟨some d, .call { callee := .builtin .len, args := #[x], argTypes := #[t] }, ty, pos, af, none⟩ :: rest) P md ops N Γ C Q :=
 Wl.val hd (fun a w ha _ => by simp [execOp, resolve, invoke, builtin, Builtin.len_, ha.ev hx, run_underlying ht.out, goInt]) h
theorem Wl.lenS {t : TypeId} {x : Operand} {s : ByteArray} [ht : TyD P t .string] (hd : Nat.blt d N = true) (hx : ev Γ x = some (.string s)) (h : Wl rest P md ops N ((d, .int .i64 (s.size : Int)) :: Γ) C Q) :
  Wl (⟨some d, .call { callee := .builtin .len, args := #[x], argTypes := #[t] }, ty, pos, af, none⟩ :: rest) P md ops N Γ C Q :=
 Wl.val hd (fun a w ha _ => by simp [execOp, resolve, invoke, builtin, Builtin.len_, ha.ev hx, run_underlying ht.out, goInt]) h
theorem Wl.loadF {t : TypeId} [TyC P t] {x : Operand} {a0 : Addr} {v : Value} (hd : Nat.blt d N = true) (hx : ev Γ x = some (.pointer (some a0))) (hc : ∀ w, C w → w.cell? a0 = some v) (h : Wl rest P md ops N ((d, v) :: Γ) C Q) :
  Wl (⟨some d, .load t x, ty, pos, af, none⟩ :: rest) P md ops N Γ C Q :=
 Wl.val hd (fun a w ha hw => by simp [execOp, ha.ev hx, Instr.loadAt, Instr.sureAddr, run_loadC (P := P) (t := t) (hc w hw)]) h
theorem Wl.loadH {w0 : World} {H : List Blk} {t bt : TypeId} [TyC P t] {x : Operand} {c i : Nat} {cs : List Value} {v : Value} (hd : Nat.blt d N = true) (hx : ev Γ x = some (.pointer (some ⟨c, i, none⟩)))
  (hm : (⟨c, cs, bt⟩ : Blk) ∈ H) (hi : cs[i]? = some v) (h : Wl rest P md ops N ((d, v) :: Γ) (Hp w0 H) Q) : Wl (⟨some d, .load t x, ty, pos, af, none⟩ :: rest) P md ops N Γ (Hp w0 H) Q :=
 Wl.loadF hd hx (fun _ hw => hw.cell hm hi) h
theorem Wl.loadO {w0 : World} {H : List Blk} {t : TypeId} [TyC P t] {x : Operand} {a0 : Addr} {v : Value} (hd : Nat.blt d N = true) (hx : ev Γ x = some (.pointer (some a0)))
  (hc : w0.cell? a0 = some v) (ho : Off H a0.block) (h : Wl rest P md ops N ((d, v) :: Γ) (Hp w0 H) Q) : Wl (⟨some d, .load t x, ty, pos, af, none⟩ :: rest) P md ops N Γ (Hp w0 H) Q :=
 Wl.loadF hd hx (fun _ hw => hw.old hc ho) h
theorem Wl.loadAF {t n : TypeId} [TyA P t n] {x : Operand} {a0 : Addr} {xs : List Value} (hd : Nat.blt d N = true) (hx : ev Γ x = some (.pointer (some a0))) (hn : xs.length = n) (hc : ∀ w, C w → ∀ i v, xs[i]? = some v → w.cell? (a0.add i) = some v)
  (h : Wl rest P md ops N ((d, .agg xs.toArray) :: Γ) C Q) : Wl (⟨some d, .load t x, ty, pos, af, none⟩ :: rest) P md ops N Γ C Q :=
 Wl.val hd (fun a w ha hw => by simp [execOp, ha.ev hx, Instr.loadAt, Instr.sureAddr, run_loadA (P := P) (t := t) hn (hc w hw)]) h
theorem addLit (b o n : Nat) : Addr.add ⟨b, o, none⟩ n = ⟨b, o + n, none⟩ := Addr.add_lit b o n
theorem Wl.loadAH {w0 : World} {H : List Blk} {t n bt : TypeId} [TyA P t n] {x : Operand} {c i : Nat} {cs xs : List Value} (hd : Nat.blt d N = true) (hx : ev Γ x = some (.pointer (some ⟨c, i, none⟩)))
  (hm : (⟨c, cs, bt⟩ : Blk) ∈ H) (hi' : LSub cs i n xs) (h : Wl rest P md ops N ((d, .agg xs.toArray) :: Γ) (Hp w0 H) Q) : Wl (⟨some d, .load t x, ty, pos, af, none⟩ :: rest) P md ops N Γ (Hp w0 H) Q :=
 have hi := hi'.out.1
 have hn := hi'.out.2
 Wl.loadAF hd hx hn (fun w hw j v hj => by
  rw [addLit]
  refine hw.cell hm ?_
  subst hi
  rw [List.getElem?_take] at hj
  split at hj
  ·simpa [List.getElem?_drop] using hj
  ·cases hj) h
theorem Wl.store {w0 : World} {H H' : List Blk} {t bt : TypeId} {b1 : Nat} [ht : TyS P t 1 b1] {x y : Operand} {c i : Nat} {cs cs' : List Value} {v : Value} (hx : ev Γ x = some (.pointer (some ⟨c, i, none⟩))) (hy : ev Γ y = some v) (h1 : v.oneCell' = true)
  (hs : HSet c cs cs' bt H H') (hc' : LSet cs i v cs') (h : Wl rest P .seq ops N Γ (Hp w0 H') Q) : Wl (⟨none, .store t x y, ty, pos, af, none⟩ :: rest) P .seq ops N Γ (Hp w0 H) Q :=
 Wl.eff fun a w ha hw => by
  have hi : i < cs.length := hc'.out.1
  have hc := hc'.out.2
  have hcell : w.cell? ⟨c, i, none⟩ = some cs[i] := hw.cell hs.mem (by simp [hi])
  have hfr : w.frozen? ⟨c, i, none⟩ = false := hw.free hs.mem
  have hcs : v.cells = #[v] := by cases v <;> simp_all [Value.cells, Value.oneCell']
  refine ⟨undef, w.setCell ⟨c, i, none⟩ v, .inr ⟨?_, rfl⟩, h _ _ ha (hw.hset hs (Upd.setCell w _ v rfl) ?_)⟩
  ·simp [execOp, ha.ev hx, ha.ev hy, Instr.storeAt, Instr.sureAddr, storeVar, run_size (P := P) (t := t), hcs, storeCells, run_store P w _ v _ h1, hcell, hfr, Addr.add]
  ·rw [blockSet (hw.own.at hs.mem)]
   subst hc
   simp
theorem Wl.storeA {w0 : World} {H H' : List Blk} {t n bt : TypeId} [ht : TyA P t n] {x y : Operand} {c i : Nat} {cs cs' xs : List Value} (hx : ev Γ x = some (.pointer (some ⟨c, i, none⟩))) (hy : ev Γ y = some (.agg xs.toArray)) (hn : xs.length = n) (h1' : xs.all Value.oneCell' = true)
  (hs : HSet c cs cs' bt H H') (hc' : LPut cs i xs cs') (h : Wl rest P .seq ops N Γ (Hp w0 H') Q) : Wl (⟨none, .store t x y, ty, pos, af, none⟩ :: rest) P .seq ops N Γ (Hp w0 H) Q :=
 Wl.eff fun a w ha hw => by
  have h1 : ∀ v ∈ xs, v.oneCell' = true := fun v hv => List.all_eq_true.1 h1' v hv
  have hi : i + n ≤ cs.length := hn ▸ hc'.out.1
  have hc : cs.take i ++ xs ++ cs.drop (i + n) = cs' := hn ▸ hc'.out.2
  have hb := hw.own.at hs.mem
  have hst := run_storeCells_at P c i bt xs 0 cs.toArray w hb (by simp; omega) h1
  simp only [Nat.add_zero] at hst
  refine ⟨undef, w.setRow c cs'.toArray, .inr ⟨?_, rfl⟩, h _ _ ha (hw.hset hs ⟨rfl, rfl, rfl, by simp, fun k hk hne => ?_⟩ ?_)⟩
  ·have e : (List.take i cs ++ xs ++ List.drop (i + xs.length) cs).toArray = cs'.toArray := by rw [hn, hc]
   rw [← e]
   simp only [execOp, ha.ev hx, ha.ev hy, Instr.storeAt, Instr.sureAddr, storeVar, Sem.run_bind, pure_bind, run_sizeA (P := P) (t := t), Value.cells, Result.andThen]
   simp [hn] at hst ⊢
   rw [hst]
  ·exact setRow_other w c k _ hne
  ·exact setRow_heap w c _ _ bt _ hb
theorem Wl.box {w0 : World} {H : List Blk} {t : TypeId} {x : Operand} {v : Value} (hd : Nat.blt d N = true) (hx : ev Γ x = some v)
  (h : ∀ c, w0.heap.size ≤ c → Off H c → Wl rest P .seq ops N ((d, .pointer (some ⟨c, 0, none⟩)) :: Γ) (Hp w0 (⟨c, v.cells.toList, t⟩ :: H)) Q) : Wl (⟨some d, .box t x, ty, pos, af, none⟩ :: rest) P .seq ops N Γ (Hp w0 H) Q :=
 Wl.eff fun a w ha hw => ⟨.pointer (some ⟨w.heap.size, 0, none⟩), w.alloc (.cells v.cells t), .inl (by
  simp [execOp, ha.ev hx, Instr.box, newVar, newRow]), h _ hw.upd.size (Off.lt hw.own) _ _ (ha.put hd _) (by simpa using hw.alloc v.cells.toList t)⟩
theorem Wl.boxA {w0 : World} {H : List Blk} {t : TypeId} {x : Operand} {xs : List Value} (hd : Nat.blt d N = true) (hx : ev Γ x = some (.agg xs.toArray))
  (h : ∀ c, w0.heap.size ≤ c → Off H c → Wl rest P .seq ops N ((d, .pointer (some ⟨c, 0, none⟩)) :: Γ) (Hp w0 (⟨c, xs, t⟩ :: H)) Q) : Wl (⟨some d, .box t x, ty, pos, af, none⟩ :: rest) P .seq ops N Γ (Hp w0 H) Q :=
 Wl.box hd hx h
theorem Wl.alloc {w0 : World} {H : List Blk} {t : TypeId} {z : Value} [TyZ P t z] (hd : Nat.blt d N = true)
  (h : ∀ c, w0.heap.size ≤ c → Off H c → Wl rest P .seq ops N ((d, .pointer (some ⟨c, 0, none⟩)) :: Γ) (Hp w0 (⟨c, z.cells.toList, t⟩ :: H)) Q) : Wl (⟨some d, .alloc t, ty, pos, af, none⟩ :: rest) P .seq ops N Γ (Hp w0 H) Q :=
 Wl.eff fun a w ha hw => ⟨.pointer (some ⟨w.heap.size, 0, none⟩), w.alloc (.cells z.cells t), .inl (by
  simp [execOp, Instr.alloc, newVar, newRow, run_zero (P := P) (t := t)]), h _ hw.upd.size (Off.lt hw.own) _ _ (ha.put hd _) (by simpa using hw.alloc z.cells.toList t)⟩
theorem Wl.build {t : TypeId} {parts : Array (Nat × Operand)} {ps : List (Nat × Value)} {v : Value} (hd : Nat.blt d N = true) (hp : Parts Γ parts.toList ps) (hr : ∀ w : World, (Instr.build t ps.toArray).run P w = .ok v w)
  (h : Wl rest P md ops N ((d, v) :: Γ) C Q) : Wl (⟨some d, .build t parts, ty, pos, af, none⟩ :: rest) P md ops N Γ C Q :=
 Wl.val hd (fun a w ha _ => by simp [execOp, hp.map ha, hr]) h
theorem Wl.buildS {t : TypeId} {parts : Array (Nat × Operand)} {ps : List (Nat × Value)} {pl : List (Nat × Nat)} {z cs : List Value} [TyP P t pl z] (hd : Nat.blt d N = true) (hp : Parts Γ parts.toList ps) (hF : Fills (pl.toArray[·]?) z ps cs)
  (h : Wl rest P md ops N ((d, .agg cs.toArray) :: Γ) C Q) : Wl (⟨some d, .build t parts, ty, pos, af, none⟩ :: rest) P md ops N Γ C Q := Wl.build hd hp (fun _ => run_build_struct hF) h
theorem Wl.buildA {t n e sz by_ : TypeId} {parts : Array (Nat × Operand)} {ps : List (Nat × Value)} {z cs : List Value} [TyD P t (.array n e)] [TyS P e sz by_] [TyZ P t (.agg z.toArray)] (hd : Nat.blt d N = true) (hp : Parts Γ parts.toList ps) (hF : Fills (fun i => some (i * sz, sz)) z ps cs)
  (h : Wl rest P md ops N ((d, .agg cs.toArray) :: Γ) C Q) : Wl (⟨some d, .build t parts, ty, pos, af, none⟩ :: rest) P md ops N Γ C Q := Wl.build hd hp (fun _ => run_build_array hF) h
theorem Wl.buildSlice {w0 : World} {H : List Blk} {t e n : TypeId} {parts : Array (Nat × Operand)} {ps : List (Nat × Value)} {cs : List Value} (hd : Nat.blt d N = true) (hp : Parts Γ parts.toList ps)
  (hr : ∀ w : World, (Instr.buildSlice t n ps.toArray).run P w = .ok (.slice (some ⟨w.heap.size, 0, none⟩) n n) (w.alloc (.cells cs.toArray e)))
  (h : ∀ c, w0.heap.size ≤ c → Off H c → Wl rest P .seq ops N ((d, .slice (some ⟨c, 0, none⟩) n n) :: Γ) (Hp w0 (⟨c, cs, e⟩ :: H)) Q) : Wl (⟨some d, .buildSlice t n parts, ty, pos, af, none⟩ :: rest) P .seq ops N Γ (Hp w0 H) Q :=
 Wl.eff fun a w ha hw => ⟨_, _, .inl (by simp [execOp, hp.map ha, hr]), h _ hw.upd.size (Off.lt hw.own) _ _ (ha.put hd _) (hw.alloc cs e)⟩
theorem Wl.lit {w0 : World} {H : List Blk} {t e sz by_ n : Nat} {z : Value} {parts : Array (Nat × Operand)} {ps : List (Nat × Value)} {cs : List Value} [TyD P t (.slice e)] [TyS P e sz by_] [TyZ P e z] (hd : Nat.blt d N = true) (hp : Parts Γ parts.toList ps)
  (hn : Nat.beq ps.length n = true) (hb : Nat.ble (n * sz) 16777216 = true) (hF : CatP sz 0 ps cs)
  (h : ∀ c, w0.heap.size ≤ c → Off H c → Wl rest P .seq ops N ((d, .slice (some ⟨c, 0, none⟩) n n) :: Γ) (Hp w0 (⟨c, cs, e⟩ :: H)) Q) : Wl (⟨some d, .buildSlice t n parts, ty, pos, af, none⟩ :: rest) P .seq ops N Γ (Hp w0 H) Q :=
 Wl.buildSlice hd hp (fun _ => run_buildSlice_cat hn hb hF) h
theorem Wl.indexAddr {t e sz by_ : TypeId} [ht : TyD P t (.slice e)] [TyS P e sz by_] {x i : Operand} {b o n c : Nat} {k : IntKind} {j : Int} (hd : Nat.blt d N = true) (hx : ev Γ x = some (.slice (some ⟨b, o, none⟩) n c)) (hi : ev Γ i = some (.int k j))
  (hj : 0 ≤ j ∧ j < n) (h : Wl rest P md ops N ((d, .pointer (some ⟨b, o + j.toNat * sz, none⟩)) :: Γ) C Q) : Wl (⟨some d, .indexAddr t x i, ty, pos, af, none⟩ :: rest) P md ops N Γ C Q :=
 Wl.val hd (fun a w ha _ => by simp [execOp, ha.ev hx, ha.ev hi, Instr.indexAt, asIntOf, run_underlying ht.out, hj, run_size (P := P) (t := e), Addr.add_lit]) h
theorem Wl.indexAddr1 {t e by_ : TypeId} [ht : TyD P t (.slice e)] [TyS P e 1 by_] {x i : Operand} {b o n c : Nat} {k : IntKind} {j : Int} (hd : Nat.blt d N = true) (hx : ev Γ x = some (.slice (some ⟨b, o, none⟩) n c)) (hi : ev Γ i = some (.int k j))
  (hj : 0 ≤ j ∧ j < n) (h : Wl rest P md ops N ((d, .pointer (some ⟨b, o + j.toNat, none⟩)) :: Γ) C Q) : Wl (⟨some d, .indexAddr t x i, ty, pos, af, none⟩ :: rest) P md ops N Γ C Q :=
 Wl.indexAddr (sz := 1) hd hx hi hj (by rw [Nat.mul_one]; exact h)
theorem Wl.indexArr {t e sz by_ n : TypeId} [ht : TyD P t (.array n e)] [TyS P e sz by_] {x i : Operand} {b o : Nat} {k : IntKind} {j : Int} (hd : Nat.blt d N = true) (hx : ev Γ x = some (.pointer (some ⟨b, o, none⟩))) (hi : ev Γ i = some (.int k j))
  (hj : 0 ≤ j ∧ j < (n : Int)) (h : Wl rest P md ops N ((d, .pointer (some ⟨b, o + j.toNat * sz, none⟩)) :: Γ) C Q) : Wl (⟨some d, .indexAddr t x i, ty, pos, af, none⟩ :: rest) P md ops N Γ C Q :=
 Wl.val hd (fun a w ha _ => by simp [execOp, ha.ev hx, ha.ev hi, Instr.indexAt, asIntOf, run_underlying ht.out, hj, run_size (P := P) (t := e), Addr.add_lit, Instr.sureAddr]) h
theorem Wl.sliceFull {t e sz by_ : TypeId} [ht : TyD P t (.slice e)] [TyS P e sz by_] {x : Operand} {lo hi mx : Option Operand} {a0 : Option Addr} {n c l h' m : Nat} (hd : Nat.blt d N = true) (hx : ev Γ x = some (.slice a0 n c))
  (hlo : BoundIs Γ lo 0 l) (hhi : BoundIs Γ hi n h') (hmx : BoundIs Γ mx c m) (hs : mx.isSome = true → hi.isSome = true) (h1 : l ≤ h') (h2 : h' ≤ m) (h3 : m ≤ c)
  (h : Wl rest P md ops N ((d, .slice (if m = l then a0 else a0.map (·.add (l * sz))) (h' - l) (m - l)) :: Γ) C Q) : Wl (⟨some d, .slice t x lo hi mx, ty, pos, af, none⟩ :: rest) P md ops N Γ C Q :=
 Wl.val hd (fun a w ha _ => by
  have e : (Instr.sliceAt t (.slice a0 n c) (lo.map a.eval) (hi.map a.eval) (mx.map a.eval)).run P w = .ok (.slice (if m = l then a0 else a0.map (·.add (l * sz))) (h' - l) (m - l)) w := by
   have eb := bounds_run (P := P) (w := w) ha hlo hhi hmx hs h1 h2 h3
   simp only [Instr.sliceAt, Sem.run_bind, run_underlying ht.out, Result.andThen, Instr.slice, eb, run_size (P := P) (t := e), Sem.run_pure]
  simp only [execOp, ha.ev hx, Sem.run_bind, e, Result.andThen, Sem.run_pure]) h
theorem exec_call {f : FuncId} [hE : Ent P f] {a : Act} {w : World} {N : Nat} {Γ : Env} (ha : Fr N a Γ) {d : Option Nat} {xs : Array Operand} {vs : List Value} {ts : Array TypeId} {ty : TypeId} {pos : String} {af : Array Edge} {g : Option (Nat × Bool)} (hx : Evs Γ xs.toList vs) :
  (execOp a.eval ⟨d, .call { callee := .value (.func f), args := xs, argTypes := ts }, ty, pos, af, g⟩).run P w = .ok (.enter f vs.toArray) w := by
 have e : xs.map a.eval = vs.toArray := by
  obtain ⟨l⟩ := xs
  simp only [List.map_toArray]
  exact congrArg _ (hx.map ha)
 simp [execOp, resolve, e, Act.eval, Deferred.ofValue, invoke, hE.out]
theorem Wl.call {f : FuncId} [Ent P f] {xs : Array Operand} {vs : List Value} {ts : Array TypeId} (hd : Nat.blt d N = true) (hx : Evs Γ xs.toList vs)
  (h : ∀ w, C w → Calls P f vs.toArray w fun e w' => ∃ v, e = .returned v ∧ Wl rest P .seq ops N ((d, v) :: Γ) (Hp w' []) Q) :
  Wl (⟨some d, .call { callee := .value (.func f), args := xs, argTypes := ts }, ty, pos, af, none⟩ :: rest) P .seq ops N Γ C Q := by
 intro a w ha hw
 refine wpList_plain rfl fun K hK => ?_
 simp only [Oper.wp, exec_call ha hx, Oper.upon]
 refine (h w hw).mono ?_
 rintro e w' ⟨v, rfl, h⟩
 exact hK _ _ (h _ _ (ha.put hd v) (Hp.start w'))
theorem Wl.callC {f : FuncId} [Ent P f] {xs : Array Operand} {vs : List Value} {ts : Array TypeId} (hd : Nat.blt d N = true) (hx : Evs Γ xs.toList vs)
  (h : ∀ w, C w → Calls P f vs.toArray w fun e w' => ∃ v C', e = .returned v ∧ C' w' ∧ Wl rest P .seq ops N ((d, v) :: Γ) C' Q) :
  Wl (⟨some d, .call { callee := .value (.func f), args := xs, argTypes := ts }, ty, pos, af, none⟩ :: rest) P .seq ops N Γ C Q := by
 intro a w ha hw
 refine wpList_plain rfl fun K hK => ?_
 simp only [Oper.wp, exec_call ha hx, Oper.upon]
 refine (h w hw).mono ?_
 rintro e w' ⟨v, C', rfl, hC, h⟩
 exact hK _ _ (h _ _ (ha.put hd v) hC)
theorem Hp.q {P : Program} {f : FuncId} {xs : Array Value} {e0 : Ending} {w0 wq : World} {H : List Blk} (hq : Hp w0 H wq) (h : Calls P f xs wq fun e w => e = e0 ∧ Hp wq [] w) : Calls P f xs wq fun e w => e = e0 ∧ Hp w0 H w := h.mono fun _ _ h => ⟨h.1, hq.keep h.2⟩
theorem Wl.callQ {f : FuncId} [Ent P f] {xs : Array Operand} {vs : List Value} {ts : Array TypeId} {v : Value} (hd : Nat.blt d N = true) (hx : Evs Γ xs.toList vs)
  (hq : ∀ w, C w → Calls P f vs.toArray w fun e w' => e = .returned v ∧ C w') (h : Wl rest P .seq ops N ((d, v) :: Γ) C Q) :
  Wl (⟨some d, .call { callee := .value (.func f), args := xs, argTypes := ts }, ty, pos, af, none⟩ :: rest) P .seq ops N Γ C Q := by
 intro a w ha hw
 refine wpList_plain rfl fun K hK => ?_
 simp only [Oper.wp, exec_call ha hx, Oper.upon]
 refine (hq w hw).mono ?_
 rintro e w' ⟨rfl, hC⟩
 exact hK _ _ (h _ _ (ha.put hd v) hC)
theorem Wl.callQQ {f : FuncId} [Ent P f] {xs : Array Operand} {vs : List Value} {ts : Array TypeId} {v : Value} (hd : Nat.blt d N = true) (hx : Evs Γ xs.toList vs)
  (hq : ∀ w, C w → Calls P f vs.toArray w fun e w' => e = .returned v ∧ C w') (h : Wl rest P .quiet ops N ((d, v) :: Γ) C Q) :
  Wl (⟨some d, .call { callee := .value (.func f), args := xs, argTypes := ts }, ty, pos, af, none⟩ :: rest) P .quiet ops N Γ C Q := by
 intro a ha
 simp only [wpQuiet, Region.wanted, if_true]
 exact ⟨v, fun w hw => by simp only [Oper.quietAt, exec_call ha hx, Oper.quietUpon]; exact ⟨trivial, hq w hw⟩, h _ (ha.put hd v)⟩
theorem wp_only {o : Oper} {a : Act} {w : World} {K : Act → World → Prop} {Q' : Exit → Act → World → Prop} (hq : ∀ e a w, Q' e a w → e = .normal) (hh : o.wp P a w K Q') : o.wp P a w K fun _ _ _ => False := by
 have hl : ¬ LetsOut Q' := fun ⟨a, w, h⟩ => nomatch hq _ _ _ h
 unfold Oper.wp at *
 generalize (execOp a.eval o).run P w = r at *
 cases r with
 | ok n w' =>
  cases n <;> simp only [Oper.upon] at hh ⊢ <;>
   first
    | exact hh
    | exact Calls.mono hh (fun e w'' he => by cases e <;> first | exact he | exact nomatch hq _ _ _ he | exact (hl he).elim)
    | exact Rows.mono hh (fun _ _ he => he)
 | halt x w' => cases x <;> simp only [Oper.upon] at hh ⊢ <;> first | exact hh | exact nomatch hq _ _ _ hh
theorem Wl.mixOf {D : World → Prop} {d : Option Nat} {op : Op} (heff : effB ⟨d, op, ty, pos, af, none⟩ = true)
  (h : Wl [⟨d, op, ty, pos, af, none⟩] P .seq ops N Γ D fun e a' w' => e = .normal ∧ C w' ∧ wpE P ops C (fun a' w' => Q .normal a' w') rest a' w') : Wl (⟨d, op, ty, pos, af, none⟩ :: rest) P (.mix D) ops N Γ C Q := by
 intro a w ha hD hw
 have h := h a w ha hD
 simp only [wpList, Region.wanted, if_true] at h
 simp only [wpE, Region.wanted, if_true, heff]
 rcases h with h | ⟨_, a, w, h, _⟩
 ·exact wp_only (fun _ _ _ h => h.1) (Oper.wp_mono (fun _ _ h => h.2) h)
 ·cases h
theorem Wl.mixEnd {D : World → Prop} (hc : ∀ w, D w → C w) (h : Wl rest P (.mix D) ops N Γ C Q) : Wl [] P .seq ops N Γ D fun e a' w' => e = .normal ∧ C w' ∧ wpE P ops C (fun a' w' => Q .normal a' w') rest a' w' :=
 fun a w ha hw => ⟨rfl, hc w hw, h a w ha hw (hc w hw)⟩
theorem Wl.slice0 {t e sz by_ : TypeId} [ht : TyD P t (.slice e)] [TyS P e sz by_] {x : Operand} {hi mx : Option Operand} {a0 : Option Addr} {n c h' m : Nat} (hd : Nat.blt d N = true) (hx : ev Γ x = some (.slice a0 n c))
  (hhi : BoundIs Γ hi n h') (hmx : BoundIs Γ mx c m) (hs : mx.isSome = true → hi.isSome = true) (h2 : h' ≤ m) (h3 : m ≤ c)
  (h : Wl rest P md ops N ((d, .slice a0 h' m) :: Γ) C Q) : Wl (⟨some d, .slice t x none hi mx, ty, pos, af, none⟩ :: rest) P md ops N Γ C Q :=
 Wl.sliceFull (l := 0) hd hx BoundIs.no hhi hmx hs (Nat.zero_le _) h2 h3 (by
  have e : (if m = 0 then a0 else a0.map (·.add (0 * sz))) = a0 := by split <;> cases a0 <;> simp [Addr.add]
  rw [e]; exact h)
theorem run_conv_bs {w : World} {s t e : TypeId} {y : Value} {l : List UInt8} [hs : TyD P s (.slice e)] [he : TyD P e (.int .u8)] [ht : TyD P t .string] (hy : Bs w y l) : (convert s t y).run P w = .ok (.string (strOf l)) w := by
 obtain ⟨a, cap, rfl, _⟩ := hy.shape
 by_cases hl : l = []
 ·subst hl
  simp only [List.length_nil]
  rw [run_convert_bytes_string w s t e a 0 cap hs.out he.out ht.out]
  cases a with
  | none => simp [Conv.bytesToString]; rfl
  | some a =>
   rw [run_bytesToString w a 0 cap [] (by simp [loadCells, loadCellsFrom])]
   rfl
 ·obtain ⟨b, off, rfl, hc⟩ := hy.cells hl
  have := run_convert_bytes_arg (P := P) w s e hs.out he.out b off l.length cap (l.map fun c => (c.toNat : Int)) (by simp) (fun i hi => by rw [hc i hi]; simp [hi]) t ht.out
  rw [this]
  congr 2
  simp only [strOfNums, strOf, List.map_map]
  congr 1
  rw [show l.map ((fun n : Int => UInt8.ofNat n.toNat) ∘ fun c : UInt8 => (c.toNat : Int)) = l.map id from List.map_congr_left fun c _ => by simp]
  simp
theorem Wl.convBS {s t e : TypeId} {x : Operand} {y : Value} {l : List UInt8} [TyD P s (.slice e)] [TyD P e (.int .u8)] [TyD P t .string] (hd : Nat.blt d N = true) (hx : ev Γ x = some y) (hy : ∀ w, C w → Bs w y l)
  (h : Wl rest P md ops N ((d, .string (strOf l)) :: Γ) C Q) : Wl (⟨some d, .convert s t x, ty, pos, af, none⟩ :: rest) P md ops N Γ C Q :=
 Wl.val hd (fun a w ha hw => by simp only [execOp, ha.ev hx, Sem.run_bind, run_conv_bs (P := P) (s := s) (t := t) (hy w hw), Result.andThen, Sem.run_pure]) h
theorem Wl.convBSo {w0 : World} {H : List Blk} {s t e : TypeId} {x : Operand} {y : Value} {l : List UInt8} [TyD P s (.slice e)] [TyD P e (.int .u8)] [TyD P t .string] (hd : Nat.blt d N = true) (hx : ev Γ x = some y) (hy : Bs w0 y l)
  (ho : ∀ k, y.ownBlock = some k → k < w0.heap.size → l ≠ [] → Off H k) (h : Wl rest P md ops N ((d, .string (strOf l)) :: Γ) (Hp w0 H) Q) : Wl (⟨some d, .convert s t x, ty, pos, af, none⟩ :: rest) P md ops N Γ (Hp w0 H) Q :=
 Wl.convBS hd hx (fun _ hw => hy.upd hw.upd fun k h1 h2 h3 h4 => h4 (ho k h1 h2 h3)) h
theorem ownsRow_upd {S : Nat → Prop} {w w' : World} {base : Nat} {e : TypeId} {sz n : Nat} {v : Value} {xs : List Value} (h : w.ownsRow base e sz v n xs) (u : Upd S w w') (hs : ∀ k, v.ownBlock = some k → ¬ S k) : w'.ownsRow base e sz v n xs := by
 obtain ⟨h1, h2⟩ := h
 refine ⟨h1, ?_⟩
 rcases h2 with h2 | ⟨g, cap, cur, rfl, hg, hh, r⟩
 ·exact .inl h2
 ·exact .inr ⟨g, cap, cur, rfl, hg, u.heap hh (hs g rfl), r⟩
theorem run_append2 {w : World} {t ty e sz by_ base n m c : Nat} {z v : Value} {xs news : List Value} {ad : Addr} [ht : TyD P t (.slice e)] [hs : TyS P e sz by_] [hz : TyZ P e z] (hzs : z.cells.size = sz) (hsz : 0 < sz)
  (hown : w.ownsRow base e sz v n xs) (hl : news.length = m * sz) (hnews : ∀ j u, news[j]? = some u → w.cell? (ad.add j) = some u) (h1 : news.all Value.oneCell' = true) (h63 : n + m ≤ maxLen) (hb : (n + m) * by_ ≤ 140737488355328) (hbase : base ≤ w.heap.size) :
  ∃ v' w', (Builtin.append_ #[t, t] ty #[v, .slice (some ad) m c]).run P w = .ok v' w' ∧ w'.ownsRow base e sz v' (n + m) (xs ++ news) ∧ w.grownBy w' v.ownBlock ∧ (v' = .slice none 0 0 ↔ v = .slice none 0 0 ∧ m = 0) ∧
   (∀ k, v'.ownBlock = some k → v.ownBlock = some k ∨ w.heap.size ≤ k) := by
 have a1 := hs.out
 have a2 := hz.out
 cases e1 : P.info? e with
 | none => rw [e1] at a1; cases a1
 | some i =>
  rw [e1] at a1 a2
  simp at a1 a2
  have hn1 : ∀ u ∈ news, u.oneCell' = true := fun u hu => List.all_eq_true.1 h1 u hu
  rcases hown.2 with ⟨rfl, rfl⟩ | ⟨g, cap, cur, rfl, hg, hh, hnc, hcm, hcs, htk⟩
  ·have hx0 : xs = [] := by simpa using hown.1
   subst hx0
   obtain ⟨v', w', r1, r2, r3, r4⟩ := run_append_own (P := P) w w.heap.size t ty e i z sz by_ ht.out e1 a2 a1.1 a1.2 hzs hsz (.slice none 0 0) 0 [] (World.ownsRow_nil w _ e sz) ad m c news hl hnews hn1 h63 hb (Nat.le_refl _)
   exact ⟨v', w', r1, Go.Joins.ownsRow_le r2 hbase, r3, r4, fun k hk => .inr (r2.lt k hk).1⟩
  ·by_cases hroom : n + m ≤ cap
   ·obtain ⟨w', r1, r2, r3⟩ := run_append_fits (P := P) w base t ty e i sz ht.out e1 a1.1 g n cap xs hown ad m c news hl hnews hn1 hroom
    exact ⟨_, w', r1, r2, r3, by simp, fun k hk => .inl hk⟩
   ·obtain ⟨v', w', r1, r2, r3⟩ := run_append_arg_grows (P := P) w t ty e i z sz by_ ht.out e1 a2 a1.1 a1.2 hzs hsz ⟨g, 0, none⟩ n cap xs hown.1 (fun j u hj => hown.cells rfl j u hj) ad m c news hl hnews (by omega) h63 hb
    refine ⟨v', w', r1, Go.Joins.ownsRow_le r2 hbase, ⟨r3.os, r3.tape, r3.output, r3.size, fun k hk _ => r3.block k hk (by simp)⟩, ?_, fun k hk => .inr (r2.lt k hk).1⟩
    refine ⟨fun hv => ?_, fun hv => by simp at hv⟩
    rcases r2.2 with ⟨_, h0⟩ | ⟨g', cap', _, hv', _⟩
    ·omega
    ·rw [hv'] at hv; cases hv
theorem Wl.append {w0 : World} {H : List Blk} {t e sz by_ base n m c : Nat} {z v : Value} {xs news : List Value} {ad : Addr} {s x : Operand} [ht : TyD P t (.slice e)] [hs : TyS P e sz by_] [hz : TyZ P e z]
  (hd : Nat.blt d N = true) (hs' : ev Γ s = some v) (hx : ev Γ x = some (.slice (some ad) m c)) (hown : w0.ownsRow base e sz v n xs) (hl : news.length = m * sz) (hnews : ∀ w, Hp w0 H w → ∀ j u, news[j]? = some u → w.cell? (ad.add j) = some u)
  (hoff : ∀ k, v.ownBlock = some k → Off H k) (h1 : news.all Value.oneCell' = true) (hzs : z.cells.size = sz) (hsz : 0 < sz) (h63 : n + m ≤ maxLen) (hb : (n + m) * by_ ≤ 140737488355328) (hbase : base ≤ w0.heap.size)
  (h : ∀ v' w1, w1.ownsRow base e sz v' (n + m) (xs ++ news) → Upd (fun k => v.ownBlock = some k ∨ ¬ Off H k) w0 w1 → (v' = .slice none 0 0 ↔ v = .slice none 0 0 ∧ m = 0) → (∀ k, v'.ownBlock = some k → Off H k ∧ (v.ownBlock = some k ∨ w0.heap.size ≤ k)) → Wl rest P .seq ops N ((d, v') :: Γ) (Hp w1 H) Q) :
  Wl (⟨some d, .call { callee := .builtin .append, args := #[s, x], argTypes := #[t, t] }, ty, pos, af, none⟩ :: rest) P .seq ops N Γ (Hp w0 H) Q :=
 Wl.eff fun a w ha hw => by
  have hown' : w.ownsRow base e sz v n xs := ownsRow_upd hown hw.upd fun k hk x => x (hoff k hk)
  obtain ⟨v', w', hrun, ho, hg, hn, hk⟩ := run_append2 (P := P) (t := t) (ty := ty) (c := c) hzs hsz hown' hl (hnews w hw) h1 h63 hb (Nat.le_trans hbase hw.upd.size)
  have u : Upd (fun k => v.ownBlock = some k) w w' := Upd.grown hg fun k hk => hk
  have hp1 : Own w' H := hw.own.upd u fun y hy hk => (hoff _ hk).at hy rfl
  refine ⟨v', w', .inl ?_, h v' w' ho ((hw.upd.mono fun k _ hk => .inr hk).trans (u.mono fun k _ hk => .inl hk)) hn (fun k hk' => (hk k hk').elim (fun e => ⟨hoff k e, .inl e⟩) fun hge => ⟨Off.of fun y hy e => by have := hw.own.lt hy; omega, .inr (Nat.le_trans hw.upd.size hge)⟩) _ _ (ha.put hd _) ⟨Upd.refl _ _, hp1, hw.apart⟩⟩
  simp [execOp, resolve, invoke, builtin, ha.ev hs', ha.ev hx, hrun]
theorem Wl.appendH {w0 : World} {H : List Blk} {t e sz by_ base n m c b bt : Nat} {z v : Value} {xs news : List Value} {s x : Operand} [ht : TyD P t (.slice e)] [hs : TyS P e sz by_] [hz : TyZ P e z]
  (hd : Nat.blt d N = true) (hs' : ev Γ s = some v) (hx : ev Γ x = some (.slice (some ⟨b, 0, none⟩) m c)) (hm : (⟨b, news, bt⟩ : Blk) ∈ H) (hl : Nat.beq news.length (m * sz) = true) (hown : w0.ownsRow base e sz v n xs)
  (hoff : ∀ k, v.ownBlock = some k → Off H k) (h1 : news.all Value.oneCell' = true) (hzs : z.cells.size = sz) (hsz : 0 < sz) (h63 : n + m ≤ maxLen) (hb : (n + m) * by_ ≤ 140737488355328) (hbase : base ≤ w0.heap.size)
  (h : ∀ v' w1, w1.ownsRow base e sz v' (n + m) (xs ++ news) → Upd (fun k => v.ownBlock = some k ∨ ¬ Off H k) w0 w1 → (v' = .slice none 0 0 ↔ v = .slice none 0 0 ∧ m = 0) → (∀ k, v'.ownBlock = some k → Off H k ∧ (v.ownBlock = some k ∨ w0.heap.size ≤ k)) → Wl rest P .seq ops N ((d, v') :: Γ) (Hp w1 H) Q) :
  Wl (⟨some d, .call { callee := .builtin .append, args := #[s, x], argTypes := #[t, t] }, ty, pos, af, none⟩ :: rest) P .seq ops N Γ (Hp w0 H) Q :=
 Wl.append hd hs' hx hown (Nat.eq_of_beq_eq_true hl) (fun w hw j u hj => by rw [addLit]; exact hw.cell hm (by simpa using hj)) hoff h1 hzs hsz h63 hb hbase h
theorem Wl.appendT {w0 : World} {H : List Blk} {t e sz by_ base n m c b bt : Nat} {z v : Value} {xs news : List Value} {s x : Operand} [ht : TyD P t (.slice e)] [hs : TyS P e sz by_] [hz : TyZ P e z]
  (hd : Nat.blt d N = true) (hs' : ev Γ s = some v) (hx : ev Γ x = some (.slice (some ⟨b, 0, none⟩) m c)) (hb0 : w0.heap.size ≤ b) (hl : Nat.beq news.length (m * sz) = true) (hown : w0.ownsRow base e sz v n xs)
  (hoff : ∀ k, v.ownBlock = some k → Off H k) (h1 : news.all Value.oneCell' = true) (hzs : z.cells.size = sz) (hsz : 0 < sz) (h63 : n + m ≤ maxLen) (hb : (n + m) * by_ ≤ 140737488355328) (hbase : base ≤ w0.heap.size)
  (h : ∀ v' w1, w1.ownsRow base e sz v' (n + m) (xs ++ news) → Upd (fun k => v.ownBlock = some k ∨ ¬ Off H k) w0 w1 → (v' = .slice none 0 0 ↔ v = .slice none 0 0 ∧ m = 0) → (∀ k, v'.ownBlock = some k → Off H k ∧ (v.ownBlock = some k ∨ w0.heap.size ≤ k)) → Wl rest P .seq ops N ((d, v') :: Γ) (Hp w1 H) Q) :
  Wl (⟨some d, .call { callee := .builtin .append, args := #[s, x], argTypes := #[t, t] }, ty, pos, af, none⟩ :: rest) P .seq ops N Γ (Hp w0 (⟨b, news, bt⟩ :: H)) Q :=
 Wl.appendH hd hs' hx (List.Mem.head _) hl hown (fun k hk => ⟨fun e => by have := (hown.lt k hk).2; simp only at e; omega, hoff k hk⟩) h1 hzs hsz h63 hb hbase fun v' w1 a1 a2 a3 a4 =>
  Wl.reb fun w hw => ⟨hw.own.2, hw.apart.2, h v' w (ownsRow_upd a1 hw.upd fun k hk y => y (a4 k hk).1) (a2.comp hw.upd fun k hk hs => by
   have key : ¬ Off (⟨b, news, bt⟩ :: H) k → ¬ Off H k := fun hn ho => hn ⟨fun e => by simp only at e; omega, ho⟩
   rcases hs with (hs | hs) | hs
   ·exact .inl hs
   ·exact .inr (key hs)
   ·exact .inr (key hs)) a3 fun k hk => ⟨(a4 k hk).1.2, (a4 k hk).2⟩⟩
theorem Wl.appendV {w0 : World} {H : List Blk} {t e sz by_ base n m : Nat} {z v y : Value} {xs news : List Value} {s x : Operand} [ht : TyD P t (.slice e)] [hs : TyS P e sz by_] [hz : TyZ P e z]
  (hd : Nat.blt d N = true) (hs' : ev Γ s = some v) (hx : ev Γ x = some y) (hy : Sv w0 sz m y news) (hyo : ∀ k, y.ownBlock = some k → k < w0.heap.size → news ≠ [] → Off H k) (hown : w0.ownsRow base e sz v n xs)
  (hoff : ∀ k, v.ownBlock = some k → Off H k) (h1 : news.all Value.oneCell' = true) (hzs : z.cells.size = sz) (hsz : 0 < sz) (h63 : n + m ≤ maxLen) (hb : (n + m) * by_ ≤ 140737488355328) (hbase : base ≤ w0.heap.size)
  (h : ∀ v' w1, w1.ownsRow base e sz v' (n + m) (xs ++ news) → Upd (fun k => v.ownBlock = some k ∨ ¬ Off H k) w0 w1 → (v' = .slice none 0 0 ↔ v = .slice none 0 0 ∧ m = 0) → (∀ k, v'.ownBlock = some k → Off H k ∧ (v.ownBlock = some k ∨ w0.heap.size ≤ k)) → Wl rest P .seq ops N ((d, v') :: Γ) (Hp w1 H) Q) :
  Wl (⟨some d, .call { callee := .builtin .append, args := #[s, x], argTypes := #[t, t] }, ty, pos, af, none⟩ :: rest) P .seq ops N Γ (Hp w0 H) Q := by
 obtain ⟨hl, a0, cap, rfl, h2, h3, h5, h4⟩ := hy
 rcases a0 with _ | ad
 ·have hn : news = [] := Classical.byContradiction fun e => by obtain ⟨b, o, e', _⟩ := h4 e; cases e'
  subst hn
  have hc0 := h5 rfl
  subst hc0
  have hm0 : m = 0 := by
   have : 0 = m * sz := by simpa using hl
   rcases Nat.mul_eq_zero.1 this.symm with e | e
   ·exact e
   ·omega
  subst hm0
  refine Wl.eff fun a w ha hw => ?_
  have hown' : w.ownsRow base e sz v n xs := ownsRow_upd hown hw.upd fun k hk x => x (hoff k hk)
  have a1 := hs.out
  obtain ⟨i, e1⟩ : ∃ i, P.info? e = some i := by
   cases e1 : P.info? e with
   | none => rw [e1] at a1; cases a1
   | some i => exact ⟨i, rfl⟩
  rw [e1] at a1
  simp at a1
  have hrun := run_append_owned_none (P := P) (w := w) base t ty e i sz ht.out e1 v n xs hown'
  refine ⟨v, w, .inl ?_, h v w ?_ (hw.upd.mono fun k _ hk => .inr hk) ?_ (fun k hk => ⟨hoff k hk, .inl hk⟩) _ _ (ha.put hd _) ⟨Upd.refl _ _, hw.own, hw.apart⟩⟩
  ·simp [execOp, resolve, invoke, builtin, ha.ev hs', ha.ev hx, hrun]
  ·simpa using hown'
  ·simp
 ·refine Wl.append hd hs' hx hown hl (fun w hw j u hj => ?_) hoff h1 hzs hsz h63 hb hbase h
  obtain ⟨hj, e⟩ := List.getElem?_eq_some_iff.1 hj
  obtain ⟨b, o, e', hc⟩ := h4 (fun e => by subst e; simp at hj)
  cases e'
  rw [addLit]
  have := hc j hj
  rw [e] at this
  exact hw.old this (hyo b rfl (World.block_lt_of_cell? w0 _ this) (fun e => by subst e; simp at hj))
end ops
theorem St.seq {x y : Code} (h : St x P N Γ C (Exit.then (y.wp P Q) Q)) : St (.seq x y) P N Γ C Q := fun a w ha hw => wp_seq (h a w ha hw)
theorem St.skip (h : Gt N .normal Γ C Q) : St .skip P N Γ C Q := fun a w ha hw => wp_skip (h a w ha hw)
theorem St.ret (h : Gt N .ret Γ C Q) : St .ret P N Γ C Q := fun a w ha hw => wp_ret (h a w ha hw)
theorem St.exit {i : Nat} (h : Gt N (.exit i) Γ C Q) : St (.exit i) P N Γ C Q := fun a w ha hw => wp_exit (h a w ha hw)
theorem St.block {i : Nat} {c : Code} (h : St c P N Γ C (Exit.inBlock i Q)) : St (.block i c) P N Γ C Q := fun a w ha hw => wp_block (h a w ha hw)
theorem St.region {i : Nat} {l : List Oper} (h : Wl l P .seq l.toArray N Γ C Q) : St (.region i l.toArray false) P N Γ C Q := fun a w ha hw => wp_region_lit (h a w ha hw)
theorem St.draw {i : Nat} {l : List Oper} (hm : P.follows .mixedOrders = true) (hB : Region.lexB .any l.toArray = true) (hC : ∀ w, C w → C w.drew) (h : Wl l P .quiet l.toArray N Γ C Q) : St (.region i l.toArray true) P N Γ C Q :=
 fun a w ha hw => wp_region_quiet (C := C) hm hB (hC w hw) (by simpa using h a ha)
inductive Pick (l : List Oper) : List Nat → List Oper → Prop
 | nil : Pick l [] []
 | cons {i : Nat} {o : Oper} {π : List Nat} {l' : List Oper} (h : l[i]? = some o) (hs : Pick l π l') : Pick l (i :: π) (o :: l')
theorem Pick.out {l l' : List Oper} {π : List Nat} (h : Pick l π l') : π.map (l.toArray[·]?) = l'.map some := by
 induction h with
 | nil => rfl
 | cons h hs ih => simp [h]; simpa using ih
theorem St.mix {i : Nat} {l l' : List Oper} (π : List Nat) (B : World → Prop) (hm : P.follows .mixedOrders = true) (hs : Region.noSelect l.toArray = true) (hl : Pick l π l') (hn : Nat.beq π.length l.length = true)
  (hB : orderB l.toArray π (Array.replicate l.length false) = true) (hC : ∀ w, C w → C w.drew ∧ B w.drew) (h : Wl l' P (.mix C) l.toArray N Γ B Q) : St (.region i l.toArray true) P N Γ C Q :=
 fun a w ha hw => wp_region_mix (C := B) π l' hm hs hl.out hn hB (hC w hw).2 (h a w.drew ha (hC w hw).1 (hC w hw).2)
theorem St.condT {x : Operand} {b : Bool} {p q : Code} (hx : ev Γ x = some (.bool b)) (hb : b = true) (h : St p P N Γ C Q) : St (.cond x p q) P N Γ C Q :=
 fun a w ha hw => wp_cond_true (by rw [ha.ev hx, hb]) (h a w ha hw)
theorem St.condF {x : Operand} {b : Bool} {p q : Code} (hx : ev Γ x = some (.bool b)) (hb : b = false) (h : St q P N Γ C Q) : St (.cond x p q) P N Γ C Q :=
 fun a w ha hw => wp_cond_false (by rw [ha.ev hx, hb]) (h a w ha hw)
theorem St.condP {x : Operand} {r : Prop} {_i : Decidable r} {p q : Code} (hx : ev Γ x = some (.bool (decide r))) (h1 : r → decide r = true → St p P N Γ C Q) (h2 : ¬ r → decide r = false → St q P N Γ C Q) : St (.cond x p q) P N Γ C Q := by
 by_cases hr : r
 ·exact St.condT hx (decide_eq_true hr) (h1 hr (decide_eq_true hr))
 ·exact St.condF hx (decide_eq_false hr) (h2 hr (decide_eq_false hr))
theorem St.condB {x : Operand} {b : Bool} {p q : Code} (hx : ev Γ x = some (.bool b)) (h1 : b = true → St p P N Γ C Q) (h2 : b = false → St q P N Γ C Q) : St (.cond x p q) P N Γ C Q := by
 cases hb : b
 ·exact St.condF hx hb (h2 hb)
 ·exact St.condT hx hb (h1 hb)
theorem St.cls {c : Code} {C' : World → Prop} (hc : ∀ w, C w → C' w) (h : St c P N Γ C' Q) : St c P N Γ C Q := fun a w ha hw => h a w ha (hc w hw)
theorem St.base {c : Code} {w0 : World} {H : List Blk} (h : ∀ w, Hp w0 H w → St c P N Γ (Hp w H) Q) : St c P N Γ (Hp w0 H) Q := fun a w ha hw => h w hw a w ha hw.rebase
theorem St.reb {c : Code} {H' : List Blk} (h : ∀ w, C w → Own w H' ∧ Apart H' ∧ St c P N Γ (Hp w H') Q) : St c P N Γ C Q := fun a w ha hw => by
 obtain ⟨h1, h2, h3⟩ := h w hw
 exact h3 a w ha ⟨Upd.refl _ _, h1, h2⟩
theorem St.loop {σ : Type} (I : σ → Prop) (Γf : σ → Env) (Cf : σ → World → Prop) (μ : σ → Nat) {c : Code} (τ0 : σ) (h0 : I τ0) (hs : Sub Γ (Γf τ0)) (hc : ∀ w, C w → Cf τ0 w)
  (round : ∀ τ, I τ → St c P N (Γf τ) (Cf τ) (Exit.then (fun a w => ∃ τ', I τ' ∧ μ τ' < μ τ ∧ Fr N a (Γf τ') ∧ Cf τ' w) Q)) : St (.loop c) P N Γ C Q := by
 intro a w ha hw b k cs
 have key : ∀ n τ a w, μ τ = n → I τ → Fr N a (Γf τ) → Cf τ w →
   ∃ e a' w', Q e a' w' ∧ Arrives P (lone (b.at a (.code c :: .inLoop c :: k)) cs w) b k cs e a' w' := by
  intro n
  induction n using Nat.strongRecOn with
  | _ n ih =>
   intro τ a w hn hI hfr hC
   obtain ⟨e, a₁, w₁, hq, harr⟩ := round τ hI a w hfr hC b (.inLoop c :: k) cs
   cases e with
   | normal =>
    obtain ⟨τ', hI', hlt, hfr', hC'⟩ := hq
    obtain ⟨e₂, a₂, w₂, hq₂, harr₂⟩ := ih (μ τ') (hn ▸ hlt) τ' a₁ w₁ rfl hI' hfr' hC'
    exact ⟨e₂, a₂, w₂, hq₂, .of_steps (Steps.trans harr (.one step_inLoop)) harr₂⟩
   | exit id => exact ⟨_, a₁, w₁, hq, .pass (x := .inLoop c) rfl (fun _ _ => .inl (by simp)) harr⟩
   | goto l => exact ⟨_, a₁, w₁, hq, .pass (x := .inLoop c) rfl (fun _ _ => .inl (by simp)) harr⟩
   | ret => exact ⟨_, a₁, w₁, hq, .pass (x := .inLoop c) rfl (fun _ _ => .inl (by simp)) harr⟩
   | panic ch => exact ⟨_, a₁, w₁, hq, .pass (x := .inLoop c) rfl (fun _ _ => .inl (by simp)) harr⟩
   | outgrown => exact ⟨_, a₁, w₁, hq, .pass (x := .inLoop c) rfl (fun _ _ => .inl (by simp)) harr⟩
 obtain ⟨e, a', w', hq, harr⟩ := key _ τ0 a w rfl h0 (ha.sub hs) (hc w hw)
 exact ⟨e, a', w', hq, .of_steps (.one step_loop) harr⟩
theorem Gt.round {σ : Type} {I : σ → Prop} {Γf : σ → Env} {Cf : σ → World → Prop} {μ : σ → Nat} {m : Nat} (τ' : σ) (hI : I τ') (hm : μ τ' < m) (hs : Sub Γ (Γf τ')) (hc : ∀ w, C w → Cf τ' w) :
  Gt N .normal Γ C (Exit.then (fun a w => ∃ τ', I τ' ∧ μ τ' < m ∧ Fr N a (Γf τ') ∧ Cf τ' w) Q) := fun _ w ha hw => ⟨τ', hI, hm, ha.sub hs, hc w hw⟩
theorem St.cut {σ : Type} (I : σ → Prop) (Γf : σ → Env) (Cf : σ → World → Prop) {x y : Code} (h1 : St x P N Γ C (Exit.then (fun a w => ∃ τ, I τ ∧ Fr N a (Γf τ) ∧ Cf τ w) Q)) (h2 : ∀ τ, I τ → St y P N (Γf τ) (Cf τ) Q) : St (.seq x y) P N Γ C Q :=
 St.seq fun a w ha hw => Code.wp_mono (fun e a' w' q => by
  cases e with
  | normal => obtain ⟨τ, hI, hf, hC⟩ := q; exact h2 τ hI a' w' hf hC
  | _ => exact q) (h1 a w ha hw)
theorem Gt.meet {σ : Type} {I : σ → Prop} {Γf : σ → Env} {Cf : σ → World → Prop} (τ' : σ) (hI : I τ') (hs : Sub Γ (Γf τ')) (hc : ∀ w, C w → Cf τ' w) :
  Gt N .normal Γ C (Exit.then (fun a w => ∃ τ', I τ' ∧ Fr N a (Γf τ') ∧ Cf τ' w) Q) := fun _ w ha hw => ⟨τ', hI, ha.sub hs, hc w hw⟩
theorem Gt.next {y : Code} {Q' : Exit → Act → World → Prop} (h : St y P N Γ C Q) : Gt N .normal Γ C (Exit.then (y.wp P Q) Q') := h
theorem Gt.thenExit {i : Nat} {k : Act → World → Prop} (h : Gt N (.exit i) Γ C Q) : Gt N (.exit i) Γ C (Exit.then k Q) := h
theorem Gt.thenRet {k : Act → World → Prop} (h : Gt N .ret Γ C Q) : Gt N .ret Γ C (Exit.then k Q) := h
theorem Gt.inNormal {i : Nat} (h : Gt N .normal Γ C Q) : Gt N .normal Γ C (Exit.inBlock i Q) := h
theorem Gt.inRet {i : Nat} (h : Gt N .ret Γ C Q) : Gt N .ret Γ C (Exit.inBlock i Q) := h
theorem Gt.inExit {i : Nat} (h : Gt N .normal Γ C Q) : Gt N (.exit i) Γ C (Exit.inBlock i Q) := fun a w ha hw => by
 simp only [Exit.inBlock, if_true]; exact h a w ha hw
theorem Gt.inOther {i j : Nat} (hij : Nat.beq i j = false) (h : Gt N (.exit i) Γ C Q) : Gt N (.exit i) Γ C (Exit.inBlock j Q) := fun a w ha hw => by
 have : ¬ i = j := fun e => by subst e; simp at hij
 simp only [Exit.inBlock, if_neg this]; exact h a w ha hw
theorem Gt.out1 {fn : Func} {R : Ending → World → Prop} {t : Nat} {v : Value} (hr : fn.results = #[.tmp t]) (ht : look Γ t = some v) (h : ∀ w, C w → R (.returned v) w) : Gt N .ret Γ C (bodyPost P fn R) := fun a w ha hw => by
 refine ⟨ha.defers, v, ?_, h w hw⟩
 rw [results_tmp hr]
 simp [ha.get t v ht]
theorem Gt.out0n {fn : Func} {R : Ending → World → Prop} (hr : fn.results = #[]) (h : ∀ w, C w → R (.returned (.tuple #[])) w) : Gt N .normal Γ C (bodyPost P fn R) := fun a w ha hw =>
 ⟨ha.defers, _, results_none hr _ _ _, h w hw⟩
theorem Gt.out2 {fn : Func} {R : Ending → World → Prop} {t u : Nat} {v v' : Value} (hr : fn.results = #[.tmp t, .tmp u]) (ht : look Γ t = some v) (hu : look Γ u = some v') (h : ∀ w, C w → R (.returned (.tuple #[v, v'])) w) : Gt N .ret Γ C (bodyPost P fn R) := fun a w ha hw => by
 refine ⟨ha.defers, _, ?_, h w hw⟩
 rw [results_tmp2 hr]
 simp [ha.get t v ht, ha.get u v' hu]
theorem Fr.start {args : List Value} {N : Nat} {Γ : Env} (hN : args.length ≤ N) (hg : ∀ t v, look Γ t = some v → args[t]? = some v) : Fr N { tmps := args.toArray ++ Array.replicate (N - args.toArray.size) undef, defers := [] } Γ := by
 refine ⟨rfl, by simp; omega, fun t v ht => ?_⟩
 have h := hg t v ht
 have hlt : t < args.length := (List.getElem?_eq_some_iff.1 h).1
 simp [Array.getElem?_append, hlt]
 simpa [List.getElem?_eq_getElem hlt] using h
inductive ArgEnv (args : List Value) : Env → Prop
 | nil : ArgEnv args []
 | cons {t : Nat} {v : Value} {r : Env} (h : args[t]? = some v) (hs : ArgEnv args r) : ArgEnv args ((t, v) :: r)
theorem ArgEnv.get {args : List Value} {Γ : Env} (h : ArgEnv args Γ) : ∀ t v, look Γ t = some v → args[t]? = some v := by
 induction h with
 | nil => intro t v h; simp [look] at h
 | @cons d u r h hs ih =>
  intro t v ht
  simp only [look] at ht
  by_cases e : t = d
  ·subst e; simp at ht; subst ht; exact h
  ·rw [beqFalse e] at ht; exact ih t v (by simpa using ht)
theorem enter {f : FuncId} {fn : Func} {c : Code} {args : List Value} {w : World} {R : Ending → World → Prop} (hf : P.funcs[f]? = some fn) (hn : fn.ntmps = N) (hb : fn.body = some c) (hN : args.length ≤ N) (hΓ : ArgEnv args Γ)
  (h : St c P N Γ (Hp w []) (bodyPost P fn R)) : Calls P f args.toArray w R := by
 refine calls_of_wp hf hb ?_
 have := h _ w (Fr.start (N := N) hN hΓ.get) (Hp.start w)
 rw [hn]
 exact this
end
abbrev Ext (w w' : World) : Prop := Upd (fun _ => False) w w'
theorem Ext.trans (a b c : World) (h : Ext a b) (k : Ext b c) : Ext a c := h.comp k fun _ _ hs => hs.elim id id
def dstO (o : Oper) : Nat := match o.dst with
 | some d => d
 | none => 0
def dstAt (l : List Oper) (i : Nat) : Nat := match l[i]? with
 | some o => dstO o
 | none => 0
theorem look_any {Γ : Env} {t : Nat} {v : Value} (h : look Γ t = some v) : (Γ.any fun p => Nat.beq p.1 t) = true := by
 induction Γ with
 | nil => simp [look] at h
 | cons p r ih =>
  obtain ⟨d, u⟩ := p
  simp only [look] at h
  by_cases e : t = d
  ·subst e; simp
  ·rw [beqFalse e] at h
   simp only [List.any_cons, Bool.or_eq_true]
   exact .inr (ih h)
theorem Fr.cons {N : Nat} {a : Act} {Γ : Env} (h : Fr N a Γ) {d : Nat} {v : Value} (hv : a.tmps[d]? = some v) : Fr N a ((d, v) :: Γ) := by
 refine ⟨h.defers, h.size, fun t u hu => ?_⟩
 simp only [look] at hu
 by_cases e : t = d
 ·subst e; simp at hu; subst hu; exact hv
 ·rw [beqFalse e] at hu; exact h.get t u (by simpa using hu)
theorem wp_tmps {P : Program} {o : Oper} {a : Act} {w : World} {K : Act → World → Prop} {E : Exit → Act → World → Prop} (h : o.wp P a w K E) : o.wp P a w (fun a' w' => K a' w' ∧ ∃ v, a'.tmps = (a.put o.dst v).tmps) E := by
 unfold Oper.wp at *
 generalize (execOp a.eval o).run P w = r at *
 cases r with
 | ok n w' =>
  cases n <;> simp only [Oper.upon] at h ⊢
  case value u => exact ⟨h, u, rfl⟩
  case skip => exact ⟨h, undef, rfl⟩
  case defer d => exact ⟨h, undef, by cases o.dst <;> rfl⟩
  case enter f args => exact Calls.mono h (fun e w'' he => by cases e <;> first | exact ⟨he, _, rfl⟩ | exact he)
  case row row args => exact Rows.mono h (fun u _ he => ⟨he, u, rfl⟩)
 | halt x w' => cases x <;> simp only [Oper.upon] at h ⊢ <;> exact h
theorem getD_set {x : Array Bool} {i j : Nat} (h : i ≠ j) (b : Bool) : (x.setIfInBounds i b).getD j true = x.getD j true := by
 simp [Array.getD_eq_getD_getElem?, Array.getElem?_setIfInBounds_ne h]
section
variable {P : Program} {N : Nat} {Γ : Env} {C : World → Prop} {Q : Exit → Act → World → Prop}
end
section
variable {P : Program} {N : Nat} {ops : Array Oper} {l : List Oper} {c : Code} {e : Exit} {Γ : Env} {C : World → Prop} {Q : Exit → Act → World → Prop}
theorem Wl.intro (h : ∀ a w, Fr N a Γ → C w → wpList P ops Q l a w) : Wl l P .seq ops N Γ C Q := h
theorem Wl.elim (h : Wl l P .seq ops N Γ C Q) : ∀ a w, Fr N a Γ → C w → wpList P ops Q l a w := h
theorem Wl.elimM {D : World → Prop} (h : Wl l P (.mix D) ops N Γ C Q) : ∀ a w, Fr N a Γ → D w → C w → wpE P ops C (fun a' w' => Q .normal a' w') l a w := h
theorem St.intro (h : ∀ a w, Fr N a Γ → C w → c.wp P Q a w) : St c P N Γ C Q := h
theorem St.elim (h : St c P N Γ C Q) : ∀ a w, Fr N a Γ → C w → c.wp P Q a w := h
theorem Gt.intro (h : ∀ a w, Fr N a Γ → C w → Q e a w) : Gt N e Γ C Q := h
theorem Gt.elim (h : Gt N e Γ C Q) : ∀ a w, Fr N a Γ → C w → Q e a w := h
theorem Gt.reb {H' : List Blk} (h : ∀ w, C w → Own w H' ∧ Apart H' ∧ Gt N e Γ (Hp w H') Q) : Gt N e Γ C Q := fun a w ha hw => by
 obtain ⟨h1, h2, h3⟩ := h w hw
 exact h3 a w ha ⟨Upd.refl _ _, h1, h2⟩
end
attribute [irreducible] Wl St Gt
end Go.Pt
end
section
namespace Go.Pt
section
variable {P : Program} {N N' : Nat} {ops : Array Oper} {rest : List Oper} {Γ Γ' : Env} {C : World → Prop} {Q : Exit → Act → World → Prop} {d : Nat} {ty : TypeId} {pos : String} {af : Array Edge}
variable {fn : Func} {t u s r : Nat} {v v' v'' v3 : Value}
end
theorem run_results_cell {P : Program} {fn : Func} {t ty n c i : Nat} {w : World} {tmps : Array Value} {xs : List Value} [ht : TyA P ty n] (hr : fn.results = #[.cell t ty]) (hv : tmps[t]? = some (.pointer (some ⟨c, i, none⟩))) (hn : xs.length = n)
  (hc : ∀ j v, xs[j]? = some v → w.cell? (Addr.add ⟨c, i, none⟩ j) = some v) : (results fn tmps).run P w = .ok (.agg xs.toArray) w := by
 have h := run_loadA (P := P) (t := ty) hn hc
 simp [results, hr, hv, asAddr, h]
theorem Gt.outC {P : Program} {N : Nat} {Γ : Env} {w0 : World} {H : List Blk} {fn : Func} {R : Ending → World → Prop} {t ty n c i bt : Nat} {cs xs : List Value} [TyA P ty n] (hr : fn.results = #[.cell t ty]) (ht : look Γ t = some (.pointer (some ⟨c, i, none⟩))) (hm : (⟨c, cs, bt⟩ : Blk) ∈ H) (hi' : LSub cs i n xs)
  (h : ∀ w, Hp w0 H w → R (.returned (.agg xs.toArray)) w) : Gt N .ret Γ (Hp w0 H) (bodyPost P fn R) := Gt.intro fun a w ha hw => by
 have hi := hi'.out.1
 have hn := hi'.out.2
 refine ⟨ha.defers, _, run_results_cell hr (ha.get _ _ ht) hn (fun j v hj => ?_), h w hw⟩
 rw [addLit]
 refine hw.cell hm ?_
 subst hi
 rw [List.getElem?_take] at hj
 split at hj
 ·simpa [List.getElem?_drop] using hj
 ·cases hj
inductive Clean : List Nat → Env → Env → Prop
 | nil {seen : List Nat} : Clean seen [] []
 | skip {seen : List Nat} {t : Nat} {v : Value} {r r' : Env} (h : (seen.any (Nat.beq t)) = true) (hs : Clean seen r r') : Clean seen ((t, v) :: r) r'
 | keep {seen : List Nat} {t : Nat} {v : Value} {r r' : Env} (h : (seen.any (Nat.beq t)) = false) (hs : Clean (t :: seen) r r') : Clean seen ((t, v) :: r) ((t, v) :: r')
theorem Clean.look {seen : List Nat} {Γ Γ' : Env} (h : Clean seen Γ Γ') {t : Nat} {v : Value} (hs : (seen.any (Nat.beq t)) = false) (ht : Pt.look Γ' t = some v) : Pt.look Γ t = some v := by
 induction h with
 | nil => simp [Pt.look] at ht
 | @skip seen d u r r' h hr ih =>
  simp only [Pt.look]
  have : t ≠ d := fun e => by subst e; rw [h] at hs; cases hs
  rw [beqFalse this]
  exact ih hs ht
 | @keep seen d u r r' h hr ih =>
  simp only [Pt.look] at ht ⊢
  by_cases e : t = d
  ·subst e; simpa using ht
  ·rw [beqFalse e] at ht ⊢
   refine ih ?_ ht
   simp only [List.any_cons, Bool.or_eq_false_iff]
   exact ⟨beqFalse e, hs⟩
theorem Fr.clean {N : Nat} {a : Act} {Γ Γ' : Env} (h : Fr N a Γ) (hs : Clean [] Γ Γ') : Fr N a Γ' := ⟨h.defers, h.size, fun t v ht => h.get t v (hs.look rfl ht)⟩
def StR (c : Code) (n : Nat) (P : Program) (N : Nat) (Γ : Env) (C : World → Prop) (Q : Exit → Act → World → Prop) : Prop := ∀ a w, Fr N a Γ → C w → Code.rounds P c Q n a w
section
variable {P : Program} {N n : Nat} {Γ Γ' : Env} {C : World → Prop} {Q Q' : Exit → Act → World → Prop} {c : Code}
theorem St.loopN (n : Nat) (h : StR c n P N Γ C Q) : St (.loop c) P N Γ C Q := St.intro fun a w ha hw => wp_loop_rounds n (h a w ha hw)
theorem StR.step (hs : Clean [] Γ Γ') (h : St c P N Γ' C (Exit.then (Code.rounds P c Q n) Q)) : StR c (n + 1) P N Γ C Q := fun a w ha hw => h.elim a w (ha.clean hs) hw
theorem Gt.nextR (h : StR c n P N Γ C Q) : Gt N .normal Γ C (Exit.then (Code.rounds P c Q n) Q') := Gt.intro fun a w ha hw => h a w ha hw
end
attribute [irreducible] StR
end Go.Pt
end
section
namespace Go.Proofs.YtmjlceimjlabpaaDoor
open Go.Pt
instance : TyD Tryd.prog 2 (.int .i64) := ⟨by kernel_rfl⟩
instance : TyS Tryd.prog 2 1 8 := ⟨by kernel_rfl⟩
instance : TyZ Tryd.prog 2 (.int .i64 0) := ⟨by kernel_rfl⟩
instance : TyC Tryd.prog 2 := ⟨by kernel_rfl, by kernel_rfl, by kernel_rfl⟩
instance : TyD Tryd.prog 3 (.int .i64) := ⟨by kernel_rfl⟩
instance : TyS Tryd.prog 3 1 8 := ⟨by kernel_rfl⟩
instance : TyZ Tryd.prog 3 (.int .i64 0) := ⟨by kernel_rfl⟩
instance : TyC Tryd.prog 3 := ⟨by kernel_rfl, by kernel_rfl, by kernel_rfl⟩
instance : TyD Tryd.prog 4 (.bool) := ⟨by kernel_rfl⟩
instance : TyS Tryd.prog 4 1 1 := ⟨by kernel_rfl⟩
instance : TyZ Tryd.prog 4 (.bool false) := ⟨by kernel_rfl⟩
instance : TyC Tryd.prog 4 := ⟨by kernel_rfl, by kernel_rfl, by kernel_rfl⟩
instance : TyD Tryd.prog 5 (.int .u8) := ⟨by kernel_rfl⟩
instance : TyS Tryd.prog 5 1 1 := ⟨by kernel_rfl⟩
instance : TyZ Tryd.prog 5 (.int .u8 0) := ⟨by kernel_rfl⟩
instance : TyC Tryd.prog 5 := ⟨by kernel_rfl, by kernel_rfl, by kernel_rfl⟩
instance : TyD Tryd.prog 6 (.int .u8) := ⟨by kernel_rfl⟩
instance : TyS Tryd.prog 6 1 1 := ⟨by kernel_rfl⟩
instance : TyZ Tryd.prog 6 (.int .u8 0) := ⟨by kernel_rfl⟩
instance : TyC Tryd.prog 6 := ⟨by kernel_rfl, by kernel_rfl, by kernel_rfl⟩
instance : TyS Tryd.prog 7 4 24 := ⟨by kernel_rfl⟩
instance : TyZ Tryd.prog 7 (.agg #[.int .i64 0, .int .i64 0, .bool false, .int .u8 0]) := ⟨by kernel_rfl⟩
instance : TyA Tryd.prog 7 4 := ⟨by kernel_rfl, by kernel_rfl⟩
instance : TyP Tryd.prog 7 [(0, 1), (1, 1), (2, 1), (3, 1)] [.int .i64 0, .int .i64 0, .bool false, .int .u8 0] := ⟨by kernel_rfl⟩
instance : Fld Tryd.prog 7 0 0 2 := ⟨by kernel_rfl⟩
instance : Fld Tryd.prog 7 1 1 3 := ⟨by kernel_rfl⟩
instance : Fld Tryd.prog 7 2 2 4 := ⟨by kernel_rfl⟩
instance : Fld Tryd.prog 7 3 3 6 := ⟨by kernel_rfl⟩
instance : TyS Tryd.prog 8 4 24 := ⟨by kernel_rfl⟩
instance : TyZ Tryd.prog 8 (.agg #[.int .i64 0, .int .i64 0, .bool false, .int .u8 0]) := ⟨by kernel_rfl⟩
instance : TyA Tryd.prog 8 4 := ⟨by kernel_rfl, by kernel_rfl⟩
instance : TyP Tryd.prog 8 [(0, 1), (1, 1), (2, 1), (3, 1)] [.int .i64 0, .int .i64 0, .bool false, .int .u8 0] := ⟨by kernel_rfl⟩
instance : Fld Tryd.prog 8 0 0 2 := ⟨by kernel_rfl⟩
instance : Fld Tryd.prog 8 1 1 3 := ⟨by kernel_rfl⟩
instance : Fld Tryd.prog 8 2 2 4 := ⟨by kernel_rfl⟩
instance : Fld Tryd.prog 8 3 3 6 := ⟨by kernel_rfl⟩
instance : TyD Tryd.prog 9 (.string) := ⟨by kernel_rfl⟩
instance : TyS Tryd.prog 9 1 16 := ⟨by kernel_rfl⟩
instance : TyZ Tryd.prog 9 (.string ⟨#[]⟩) := ⟨by kernel_rfl⟩
instance : TyC Tryd.prog 9 := ⟨by kernel_rfl, by kernel_rfl, by kernel_rfl⟩
instance : TyD Tryd.prog 10 (.string) := ⟨by kernel_rfl⟩
instance : TyS Tryd.prog 10 1 16 := ⟨by kernel_rfl⟩
instance : TyZ Tryd.prog 10 (.string ⟨#[]⟩) := ⟨by kernel_rfl⟩
instance : TyC Tryd.prog 10 := ⟨by kernel_rfl, by kernel_rfl, by kernel_rfl⟩
instance : TyD Tryd.prog 11 (.string) := ⟨by kernel_rfl⟩
instance : TyS Tryd.prog 11 1 16 := ⟨by kernel_rfl⟩
instance : TyZ Tryd.prog 11 (.string ⟨#[]⟩) := ⟨by kernel_rfl⟩
instance : TyC Tryd.prog 11 := ⟨by kernel_rfl, by kernel_rfl, by kernel_rfl⟩
instance : TyD Tryd.prog 12 (.int .u64) := ⟨by kernel_rfl⟩
instance : TyS Tryd.prog 12 1 8 := ⟨by kernel_rfl⟩
instance : TyZ Tryd.prog 12 (.int .u64 0) := ⟨by kernel_rfl⟩
instance : TyC Tryd.prog 12 := ⟨by kernel_rfl, by kernel_rfl, by kernel_rfl⟩
instance : TyS Tryd.prog 13 2 24 := ⟨by kernel_rfl⟩
instance : TyZ Tryd.prog 13 (.agg #[.string ⟨#[]⟩, .int .u64 0]) := ⟨by kernel_rfl⟩
instance : TyA Tryd.prog 13 2 := ⟨by kernel_rfl, by kernel_rfl⟩
instance : TyP Tryd.prog 13 [(0, 1), (1, 1)] [.string ⟨#[]⟩, .int .u64 0] := ⟨by kernel_rfl⟩
instance : Fld Tryd.prog 13 0 0 9 := ⟨by kernel_rfl⟩
instance : Fld Tryd.prog 13 1 1 12 := ⟨by kernel_rfl⟩
instance : TyS Tryd.prog 14 2 24 := ⟨by kernel_rfl⟩
instance : TyZ Tryd.prog 14 (.agg #[.string ⟨#[]⟩, .int .u64 0]) := ⟨by kernel_rfl⟩
instance : TyA Tryd.prog 14 2 := ⟨by kernel_rfl, by kernel_rfl⟩
instance : TyP Tryd.prog 14 [(0, 1), (1, 1)] [.string ⟨#[]⟩, .int .u64 0] := ⟨by kernel_rfl⟩
instance : Fld Tryd.prog 14 0 0 9 := ⟨by kernel_rfl⟩
instance : Fld Tryd.prog 14 1 1 12 := ⟨by kernel_rfl⟩
instance : TyD Tryd.prog 15 (.pointer 161) := ⟨by kernel_rfl⟩
instance : TyS Tryd.prog 15 1 8 := ⟨by kernel_rfl⟩
instance : TyZ Tryd.prog 15 (.pointer none) := ⟨by kernel_rfl⟩
instance : TyC Tryd.prog 15 := ⟨by kernel_rfl, by kernel_rfl, by kernel_rfl⟩
instance : TyD Tryd.prog 16 (.pointer 164) := ⟨by kernel_rfl⟩
instance : TyS Tryd.prog 16 1 8 := ⟨by kernel_rfl⟩
instance : TyZ Tryd.prog 16 (.pointer none) := ⟨by kernel_rfl⟩
instance : TyC Tryd.prog 16 := ⟨by kernel_rfl, by kernel_rfl, by kernel_rfl⟩
instance : TyD Tryd.prog 17 (.pointer 172) := ⟨by kernel_rfl⟩
instance : TyS Tryd.prog 17 1 8 := ⟨by kernel_rfl⟩
instance : TyZ Tryd.prog 17 (.pointer none) := ⟨by kernel_rfl⟩
instance : TyC Tryd.prog 17 := ⟨by kernel_rfl, by kernel_rfl, by kernel_rfl⟩
instance : TyS Tryd.prog 18 1 8 := ⟨by kernel_rfl⟩
instance : TyZ Tryd.prog 18 (.agg #[.pointer none]) := ⟨by kernel_rfl⟩
instance : TyA Tryd.prog 18 1 := ⟨by kernel_rfl, by kernel_rfl⟩
instance : TyP Tryd.prog 18 [(0, 1)] [.pointer none] := ⟨by kernel_rfl⟩
instance : Fld Tryd.prog 18 0 0 17 := ⟨by kernel_rfl⟩
instance : TyS Tryd.prog 19 1 8 := ⟨by kernel_rfl⟩
instance : TyZ Tryd.prog 19 (.agg #[.pointer none]) := ⟨by kernel_rfl⟩
instance : TyA Tryd.prog 19 1 := ⟨by kernel_rfl, by kernel_rfl⟩
instance : TyP Tryd.prog 19 [(0, 1)] [.pointer none] := ⟨by kernel_rfl⟩
instance : Fld Tryd.prog 19 0 0 17 := ⟨by kernel_rfl⟩
instance : TyD Tryd.prog 21 (.int .i32) := ⟨by kernel_rfl⟩
instance : TyS Tryd.prog 21 1 4 := ⟨by kernel_rfl⟩
instance : TyZ Tryd.prog 21 (.int .i32 0) := ⟨by kernel_rfl⟩
instance : TyC Tryd.prog 21 := ⟨by kernel_rfl, by kernel_rfl, by kernel_rfl⟩
instance : TyD Tryd.prog 22 (.slice 5) := ⟨by kernel_rfl⟩
instance : TyS Tryd.prog 22 1 24 := ⟨by kernel_rfl⟩
instance : TyZ Tryd.prog 22 (.slice none 0 0) := ⟨by kernel_rfl⟩
instance : TyC Tryd.prog 22 := ⟨by kernel_rfl, by kernel_rfl, by kernel_rfl⟩
instance : TyD Tryd.prog 23 (.slice 9) := ⟨by kernel_rfl⟩
instance : TyS Tryd.prog 23 1 24 := ⟨by kernel_rfl⟩
instance : TyZ Tryd.prog 23 (.slice none 0 0) := ⟨by kernel_rfl⟩
instance : TyC Tryd.prog 23 := ⟨by kernel_rfl, by kernel_rfl, by kernel_rfl⟩
instance : TyD Tryd.prog 24 (.int .u32) := ⟨by kernel_rfl⟩
instance : TyS Tryd.prog 24 1 4 := ⟨by kernel_rfl⟩
instance : TyZ Tryd.prog 24 (.int .u32 0) := ⟨by kernel_rfl⟩
instance : TyC Tryd.prog 24 := ⟨by kernel_rfl, by kernel_rfl, by kernel_rfl⟩
instance : TyD Tryd.prog 26 (.slice 51) := ⟨by kernel_rfl⟩
instance : TyS Tryd.prog 26 1 24 := ⟨by kernel_rfl⟩
instance : TyZ Tryd.prog 26 (.slice none 0 0) := ⟨by kernel_rfl⟩
instance : TyC Tryd.prog 26 := ⟨by kernel_rfl, by kernel_rfl, by kernel_rfl⟩
instance : TyS Tryd.prog 27 3 40 := ⟨by kernel_rfl⟩
instance : TyZ Tryd.prog 27 (.agg #[.int .u32 0, .int .i64 0, .slice none 0 0]) := ⟨by kernel_rfl⟩
instance : TyA Tryd.prog 27 3 := ⟨by kernel_rfl, by kernel_rfl⟩
instance : TyP Tryd.prog 27 [(0, 1), (1, 1), (2, 1)] [.int .u32 0, .int .i64 0, .slice none 0 0] := ⟨by kernel_rfl⟩
instance : Fld Tryd.prog 27 0 0 24 := ⟨by kernel_rfl⟩
instance : Fld Tryd.prog 27 1 1 3 := ⟨by kernel_rfl⟩
instance : Fld Tryd.prog 27 2 2 26 := ⟨by kernel_rfl⟩
instance : TyS Tryd.prog 28 3 40 := ⟨by kernel_rfl⟩
instance : TyZ Tryd.prog 28 (.agg #[.int .u32 0, .int .i64 0, .slice none 0 0]) := ⟨by kernel_rfl⟩
instance : TyA Tryd.prog 28 3 := ⟨by kernel_rfl, by kernel_rfl⟩
instance : TyP Tryd.prog 28 [(0, 1), (1, 1), (2, 1)] [.int .u32 0, .int .i64 0, .slice none 0 0] := ⟨by kernel_rfl⟩
instance : Fld Tryd.prog 28 0 0 24 := ⟨by kernel_rfl⟩
instance : Fld Tryd.prog 28 1 1 3 := ⟨by kernel_rfl⟩
instance : Fld Tryd.prog 28 2 2 26 := ⟨by kernel_rfl⟩
instance : TyD Tryd.prog 29 (.slice 22) := ⟨by kernel_rfl⟩
instance : TyS Tryd.prog 29 1 24 := ⟨by kernel_rfl⟩
instance : TyZ Tryd.prog 29 (.slice none 0 0) := ⟨by kernel_rfl⟩
instance : TyC Tryd.prog 29 := ⟨by kernel_rfl, by kernel_rfl, by kernel_rfl⟩
instance : TyS Tryd.prog 30 4 64 := ⟨by kernel_rfl⟩
instance : TyZ Tryd.prog 30 (.agg #[.int .u32 0, .int .i64 0, .slice none 0 0, .slice none 0 0]) := ⟨by kernel_rfl⟩
instance : TyA Tryd.prog 30 4 := ⟨by kernel_rfl, by kernel_rfl⟩
instance : TyP Tryd.prog 30 [(0, 3), (3, 1)] [.int .u32 0, .int .i64 0, .slice none 0 0, .slice none 0 0] := ⟨by kernel_rfl⟩
instance : Fld Tryd.prog 30 0 0 28 := ⟨by kernel_rfl⟩
instance : Fld Tryd.prog 30 1 3 29 := ⟨by kernel_rfl⟩
instance : TyS Tryd.prog 31 4 64 := ⟨by kernel_rfl⟩
instance : TyZ Tryd.prog 31 (.agg #[.int .u32 0, .int .i64 0, .slice none 0 0, .slice none 0 0]) := ⟨by kernel_rfl⟩
instance : TyA Tryd.prog 31 4 := ⟨by kernel_rfl, by kernel_rfl⟩
instance : TyP Tryd.prog 31 [(0, 3), (3, 1)] [.int .u32 0, .int .i64 0, .slice none 0 0, .slice none 0 0] := ⟨by kernel_rfl⟩
instance : Fld Tryd.prog 31 0 0 28 := ⟨by kernel_rfl⟩
instance : Fld Tryd.prog 31 1 3 29 := ⟨by kernel_rfl⟩
instance : TyD Tryd.prog 32 (.int .i64) := ⟨by kernel_rfl⟩
instance : TyS Tryd.prog 32 1 8 := ⟨by kernel_rfl⟩
instance : TyZ Tryd.prog 32 (.int .i64 0) := ⟨by kernel_rfl⟩
instance : TyC Tryd.prog 32 := ⟨by kernel_rfl, by kernel_rfl, by kernel_rfl⟩
instance : TyD Tryd.prog 43 (.pointer 66) := ⟨by kernel_rfl⟩
instance : TyS Tryd.prog 43 1 8 := ⟨by kernel_rfl⟩
instance : TyZ Tryd.prog 43 (.pointer none) := ⟨by kernel_rfl⟩
instance : TyC Tryd.prog 43 := ⟨by kernel_rfl, by kernel_rfl, by kernel_rfl⟩
instance : TyD Tryd.prog 48 (.array 32 5) := ⟨by kernel_rfl⟩
instance : TyS Tryd.prog 48 32 32 := ⟨by kernel_rfl⟩
instance : TyZ Tryd.prog 48 (.agg #[.int .u8 0, .int .u8 0, .int .u8 0, .int .u8 0, .int .u8 0, .int .u8 0, .int .u8 0, .int .u8 0, .int .u8 0, .int .u8 0, .int .u8 0, .int .u8 0, .int .u8 0, .int .u8 0, .int .u8 0, .int .u8 0, .int .u8 0, .int .u8 0, .int .u8 0, .int .u8 0, .int .u8 0, .int .u8 0, .int .u8 0, .int .u8 0, .int .u8 0, .int .u8 0, .int .u8 0, .int .u8 0, .int .u8 0, .int .u8 0, .int .u8 0, .int .u8 0]) := ⟨by kernel_rfl⟩
instance : TyA Tryd.prog 48 32 := ⟨by kernel_rfl, by kernel_rfl⟩
instance : TyD Tryd.prog 49 (.slice 61) := ⟨by kernel_rfl⟩
instance : TyS Tryd.prog 49 1 24 := ⟨by kernel_rfl⟩
instance : TyZ Tryd.prog 49 (.slice none 0 0) := ⟨by kernel_rfl⟩
instance : TyC Tryd.prog 49 := ⟨by kernel_rfl, by kernel_rfl, by kernel_rfl⟩
instance : TyS Tryd.prog 50 36 72 := ⟨by kernel_rfl⟩
instance : TyZ Tryd.prog 50 (.agg #[.int .u8 0, .int .u8 0, .int .u8 0, .int .u8 0, .int .u8 0, .int .u8 0, .int .u8 0, .int .u8 0, .int .u8 0, .int .u8 0, .int .u8 0, .int .u8 0, .int .u8 0, .int .u8 0, .int .u8 0, .int .u8 0, .int .u8 0, .int .u8 0, .int .u8 0, .int .u8 0, .int .u8 0, .int .u8 0, .int .u8 0, .int .u8 0, .int .u8 0, .int .u8 0, .int .u8 0, .int .u8 0, .int .u8 0, .int .u8 0, .int .u8 0, .int .u8 0, .int .u32 0, .int .u32 0, .slice none 0 0, .int .i64 0]) := ⟨by kernel_rfl⟩
instance : TyA Tryd.prog 50 36 := ⟨by kernel_rfl, by kernel_rfl⟩
instance : TyP Tryd.prog 50 [(0, 32), (32, 1), (33, 1), (34, 1), (35, 1)] [.int .u8 0, .int .u8 0, .int .u8 0, .int .u8 0, .int .u8 0, .int .u8 0, .int .u8 0, .int .u8 0, .int .u8 0, .int .u8 0, .int .u8 0, .int .u8 0, .int .u8 0, .int .u8 0, .int .u8 0, .int .u8 0, .int .u8 0, .int .u8 0, .int .u8 0, .int .u8 0, .int .u8 0, .int .u8 0, .int .u8 0, .int .u8 0, .int .u8 0, .int .u8 0, .int .u8 0, .int .u8 0, .int .u8 0, .int .u8 0, .int .u8 0, .int .u8 0, .int .u32 0, .int .u32 0, .slice none 0 0, .int .i64 0] := ⟨by kernel_rfl⟩
instance : Fld Tryd.prog 50 0 0 48 := ⟨by kernel_rfl⟩
instance : Fld Tryd.prog 50 1 32 24 := ⟨by kernel_rfl⟩
instance : Fld Tryd.prog 50 2 33 24 := ⟨by kernel_rfl⟩
instance : Fld Tryd.prog 50 3 34 49 := ⟨by kernel_rfl⟩
instance : Fld Tryd.prog 50 4 35 3 := ⟨by kernel_rfl⟩
instance : TyS Tryd.prog 51 36 72 := ⟨by kernel_rfl⟩
instance : TyZ Tryd.prog 51 (.agg #[.int .u8 0, .int .u8 0, .int .u8 0, .int .u8 0, .int .u8 0, .int .u8 0, .int .u8 0, .int .u8 0, .int .u8 0, .int .u8 0, .int .u8 0, .int .u8 0, .int .u8 0, .int .u8 0, .int .u8 0, .int .u8 0, .int .u8 0, .int .u8 0, .int .u8 0, .int .u8 0, .int .u8 0, .int .u8 0, .int .u8 0, .int .u8 0, .int .u8 0, .int .u8 0, .int .u8 0, .int .u8 0, .int .u8 0, .int .u8 0, .int .u8 0, .int .u8 0, .int .u32 0, .int .u32 0, .slice none 0 0, .int .i64 0]) := ⟨by kernel_rfl⟩
instance : TyA Tryd.prog 51 36 := ⟨by kernel_rfl, by kernel_rfl⟩
instance : TyP Tryd.prog 51 [(0, 32), (32, 1), (33, 1), (34, 1), (35, 1)] [.int .u8 0, .int .u8 0, .int .u8 0, .int .u8 0, .int .u8 0, .int .u8 0, .int .u8 0, .int .u8 0, .int .u8 0, .int .u8 0, .int .u8 0, .int .u8 0, .int .u8 0, .int .u8 0, .int .u8 0, .int .u8 0, .int .u8 0, .int .u8 0, .int .u8 0, .int .u8 0, .int .u8 0, .int .u8 0, .int .u8 0, .int .u8 0, .int .u8 0, .int .u8 0, .int .u8 0, .int .u8 0, .int .u8 0, .int .u8 0, .int .u8 0, .int .u8 0, .int .u32 0, .int .u32 0, .slice none 0 0, .int .i64 0] := ⟨by kernel_rfl⟩
instance : Fld Tryd.prog 51 0 0 48 := ⟨by kernel_rfl⟩
instance : Fld Tryd.prog 51 1 32 24 := ⟨by kernel_rfl⟩
instance : Fld Tryd.prog 51 2 33 24 := ⟨by kernel_rfl⟩
instance : Fld Tryd.prog 51 3 34 49 := ⟨by kernel_rfl⟩
instance : Fld Tryd.prog 51 4 35 3 := ⟨by kernel_rfl⟩
instance : TyD Tryd.prog 53 (.pointer 55) := ⟨by kernel_rfl⟩
instance : TyS Tryd.prog 53 1 8 := ⟨by kernel_rfl⟩
instance : TyZ Tryd.prog 53 (.pointer none) := ⟨by kernel_rfl⟩
instance : TyC Tryd.prog 53 := ⟨by kernel_rfl, by kernel_rfl, by kernel_rfl⟩
instance : TyS Tryd.prog 54 3 40 := ⟨by kernel_rfl⟩
instance : TyZ Tryd.prog 54 (.agg #[.slice none 0 0, .int .i64 0, .bool false]) := ⟨by kernel_rfl⟩
instance : TyA Tryd.prog 54 3 := ⟨by kernel_rfl, by kernel_rfl⟩
instance : TyP Tryd.prog 54 [(0, 1), (1, 1), (2, 1)] [.slice none 0 0, .int .i64 0, .bool false] := ⟨by kernel_rfl⟩
instance : Fld Tryd.prog 54 0 0 22 := ⟨by kernel_rfl⟩
instance : Fld Tryd.prog 54 1 1 3 := ⟨by kernel_rfl⟩
instance : Fld Tryd.prog 54 2 2 4 := ⟨by kernel_rfl⟩
instance : TyS Tryd.prog 55 3 40 := ⟨by kernel_rfl⟩
instance : TyZ Tryd.prog 55 (.agg #[.slice none 0 0, .int .i64 0, .bool false]) := ⟨by kernel_rfl⟩
instance : TyA Tryd.prog 55 3 := ⟨by kernel_rfl, by kernel_rfl⟩
instance : TyP Tryd.prog 55 [(0, 1), (1, 1), (2, 1)] [.slice none 0 0, .int .i64 0, .bool false] := ⟨by kernel_rfl⟩
instance : Fld Tryd.prog 55 0 0 22 := ⟨by kernel_rfl⟩
instance : Fld Tryd.prog 55 1 1 3 := ⟨by kernel_rfl⟩
instance : Fld Tryd.prog 55 2 2 4 := ⟨by kernel_rfl⟩
instance : TyS Tryd.prog 60 3 16 := ⟨by kernel_rfl⟩
instance : TyZ Tryd.prog 60 (.agg #[.int .u32 0, .int .u32 0, .int .i64 0]) := ⟨by kernel_rfl⟩
instance : TyA Tryd.prog 60 3 := ⟨by kernel_rfl, by kernel_rfl⟩
instance : TyP Tryd.prog 60 [(0, 1), (1, 1), (2, 1)] [.int .u32 0, .int .u32 0, .int .i64 0] := ⟨by kernel_rfl⟩
instance : Fld Tryd.prog 60 0 0 24 := ⟨by kernel_rfl⟩
instance : Fld Tryd.prog 60 1 1 24 := ⟨by kernel_rfl⟩
instance : Fld Tryd.prog 60 2 2 3 := ⟨by kernel_rfl⟩
instance : TyS Tryd.prog 61 3 16 := ⟨by kernel_rfl⟩
instance : TyZ Tryd.prog 61 (.agg #[.int .u32 0, .int .u32 0, .int .i64 0]) := ⟨by kernel_rfl⟩
instance : TyA Tryd.prog 61 3 := ⟨by kernel_rfl, by kernel_rfl⟩
instance : TyP Tryd.prog 61 [(0, 1), (1, 1), (2, 1)] [.int .u32 0, .int .u32 0, .int .i64 0] := ⟨by kernel_rfl⟩
instance : Fld Tryd.prog 61 0 0 24 := ⟨by kernel_rfl⟩
instance : Fld Tryd.prog 61 1 1 24 := ⟨by kernel_rfl⟩
instance : Fld Tryd.prog 61 2 2 3 := ⟨by kernel_rfl⟩
instance : TyS Tryd.prog 65 2 32 := ⟨by kernel_rfl⟩
instance : TyZ Tryd.prog 65 (.agg #[.slice none 0 0, .bool false]) := ⟨by kernel_rfl⟩
instance : TyA Tryd.prog 65 2 := ⟨by kernel_rfl, by kernel_rfl⟩
instance : TyP Tryd.prog 65 [(0, 1), (1, 1)] [.slice none 0 0, .bool false] := ⟨by kernel_rfl⟩
instance : Fld Tryd.prog 65 0 0 22 := ⟨by kernel_rfl⟩
instance : Fld Tryd.prog 65 1 1 4 := ⟨by kernel_rfl⟩
instance : TyS Tryd.prog 66 2 32 := ⟨by kernel_rfl⟩
instance : TyZ Tryd.prog 66 (.agg #[.slice none 0 0, .bool false]) := ⟨by kernel_rfl⟩
instance : TyA Tryd.prog 66 2 := ⟨by kernel_rfl, by kernel_rfl⟩
instance : TyP Tryd.prog 66 [(0, 1), (1, 1)] [.slice none 0 0, .bool false] := ⟨by kernel_rfl⟩
instance : Fld Tryd.prog 66 0 0 22 := ⟨by kernel_rfl⟩
instance : Fld Tryd.prog 66 1 1 4 := ⟨by kernel_rfl⟩
instance : TyD Tryd.prog 68 (.array 8 24) := ⟨by kernel_rfl⟩
instance : TyS Tryd.prog 68 8 32 := ⟨by kernel_rfl⟩
instance : TyZ Tryd.prog 68 (.agg #[.int .u32 0, .int .u32 0, .int .u32 0, .int .u32 0, .int .u32 0, .int .u32 0, .int .u32 0, .int .u32 0]) := ⟨by kernel_rfl⟩
instance : TyA Tryd.prog 68 8 := ⟨by kernel_rfl, by kernel_rfl⟩
instance : TyD Tryd.prog 69 (.array 8 24) := ⟨by kernel_rfl⟩
instance : TyS Tryd.prog 69 8 32 := ⟨by kernel_rfl⟩
instance : TyZ Tryd.prog 69 (.agg #[.int .u32 0, .int .u32 0, .int .u32 0, .int .u32 0, .int .u32 0, .int .u32 0, .int .u32 0, .int .u32 0]) := ⟨by kernel_rfl⟩
instance : TyA Tryd.prog 69 8 := ⟨by kernel_rfl, by kernel_rfl⟩
instance : TyS Tryd.prog 70 17 68 := ⟨by kernel_rfl⟩
instance : TyZ Tryd.prog 70 (.agg #[.int .u32 0, .int .u32 0, .int .u32 0, .int .u32 0, .int .u32 0, .int .u32 0, .int .u32 0, .int .u32 0, .int .u32 0, .int .u32 0, .int .u32 0, .int .u32 0, .int .u32 0, .int .u32 0, .int .u32 0, .int .u32 0, .bool false]) := ⟨by kernel_rfl⟩
instance : TyA Tryd.prog 70 17 := ⟨by kernel_rfl, by kernel_rfl⟩
instance : TyP Tryd.prog 70 [(0, 8), (8, 8), (16, 1)] [.int .u32 0, .int .u32 0, .int .u32 0, .int .u32 0, .int .u32 0, .int .u32 0, .int .u32 0, .int .u32 0, .int .u32 0, .int .u32 0, .int .u32 0, .int .u32 0, .int .u32 0, .int .u32 0, .int .u32 0, .int .u32 0, .bool false] := ⟨by kernel_rfl⟩
instance : Fld Tryd.prog 70 0 0 69 := ⟨by kernel_rfl⟩
instance : Fld Tryd.prog 70 1 8 69 := ⟨by kernel_rfl⟩
instance : Fld Tryd.prog 70 2 16 4 := ⟨by kernel_rfl⟩
instance : TyS Tryd.prog 71 17 68 := ⟨by kernel_rfl⟩
instance : TyZ Tryd.prog 71 (.agg #[.int .u32 0, .int .u32 0, .int .u32 0, .int .u32 0, .int .u32 0, .int .u32 0, .int .u32 0, .int .u32 0, .int .u32 0, .int .u32 0, .int .u32 0, .int .u32 0, .int .u32 0, .int .u32 0, .int .u32 0, .int .u32 0, .bool false]) := ⟨by kernel_rfl⟩
instance : TyA Tryd.prog 71 17 := ⟨by kernel_rfl, by kernel_rfl⟩
instance : TyP Tryd.prog 71 [(0, 8), (8, 8), (16, 1)] [.int .u32 0, .int .u32 0, .int .u32 0, .int .u32 0, .int .u32 0, .int .u32 0, .int .u32 0, .int .u32 0, .int .u32 0, .int .u32 0, .int .u32 0, .int .u32 0, .int .u32 0, .int .u32 0, .int .u32 0, .int .u32 0, .bool false] := ⟨by kernel_rfl⟩
instance : Fld Tryd.prog 71 0 0 69 := ⟨by kernel_rfl⟩
instance : Fld Tryd.prog 71 1 8 69 := ⟨by kernel_rfl⟩
instance : Fld Tryd.prog 71 2 16 4 := ⟨by kernel_rfl⟩
instance : TyD Tryd.prog 77 (.pointer 124) := ⟨by kernel_rfl⟩
instance : TyS Tryd.prog 77 1 8 := ⟨by kernel_rfl⟩
instance : TyZ Tryd.prog 77 (.pointer none) := ⟨by kernel_rfl⟩
instance : TyC Tryd.prog 77 := ⟨by kernel_rfl, by kernel_rfl, by kernel_rfl⟩
instance : TyD Tryd.prog 83 (.pointer 131) := ⟨by kernel_rfl⟩
instance : TyS Tryd.prog 83 1 8 := ⟨by kernel_rfl⟩
instance : TyZ Tryd.prog 83 (.pointer none) := ⟨by kernel_rfl⟩
instance : TyC Tryd.prog 83 := ⟨by kernel_rfl, by kernel_rfl, by kernel_rfl⟩
instance : TyD Tryd.prog 87 (.pointer 141) := ⟨by kernel_rfl⟩
instance : TyS Tryd.prog 87 1 8 := ⟨by kernel_rfl⟩
instance : TyZ Tryd.prog 87 (.pointer none) := ⟨by kernel_rfl⟩
instance : TyC Tryd.prog 87 := ⟨by kernel_rfl, by kernel_rfl, by kernel_rfl⟩
instance : TyD Tryd.prog 92 (.int .u64) := ⟨by kernel_rfl⟩
instance : TyS Tryd.prog 92 1 8 := ⟨by kernel_rfl⟩
instance : TyZ Tryd.prog 92 (.int .u64 0) := ⟨by kernel_rfl⟩
instance : TyC Tryd.prog 92 := ⟨by kernel_rfl, by kernel_rfl, by kernel_rfl⟩
instance : TyD Tryd.prog 93 (.array 16 92) := ⟨by kernel_rfl⟩
instance : TyS Tryd.prog 93 16 128 := ⟨by kernel_rfl⟩
instance : TyZ Tryd.prog 93 (.agg #[.int .u64 0, .int .u64 0, .int .u64 0, .int .u64 0, .int .u64 0, .int .u64 0, .int .u64 0, .int .u64 0, .int .u64 0, .int .u64 0, .int .u64 0, .int .u64 0, .int .u64 0, .int .u64 0, .int .u64 0, .int .u64 0]) := ⟨by kernel_rfl⟩
instance : TyA Tryd.prog 93 16 := ⟨by kernel_rfl, by kernel_rfl⟩
instance : TyD Tryd.prog 94 (.array 16 92) := ⟨by kernel_rfl⟩
instance : TyS Tryd.prog 94 16 128 := ⟨by kernel_rfl⟩
instance : TyZ Tryd.prog 94 (.agg #[.int .u64 0, .int .u64 0, .int .u64 0, .int .u64 0, .int .u64 0, .int .u64 0, .int .u64 0, .int .u64 0, .int .u64 0, .int .u64 0, .int .u64 0, .int .u64 0, .int .u64 0, .int .u64 0, .int .u64 0, .int .u64 0]) := ⟨by kernel_rfl⟩
instance : TyA Tryd.prog 94 16 := ⟨by kernel_rfl, by kernel_rfl⟩
instance : TyS Tryd.prog 95 48 384 := ⟨by kernel_rfl⟩
instance : TyZ Tryd.prog 95 (.agg #[.int .u64 0, .int .u64 0, .int .u64 0, .int .u64 0, .int .u64 0, .int .u64 0, .int .u64 0, .int .u64 0, .int .u64 0, .int .u64 0, .int .u64 0, .int .u64 0, .int .u64 0, .int .u64 0, .int .u64 0, .int .u64 0, .int .u64 0, .int .u64 0, .int .u64 0, .int .u64 0, .int .u64 0, .int .u64 0, .int .u64 0, .int .u64 0, .int .u64 0, .int .u64 0, .int .u64 0, .int .u64 0, .int .u64 0, .int .u64 0, .int .u64 0, .int .u64 0, .int .u64 0, .int .u64 0, .int .u64 0, .int .u64 0, .int .u64 0, .int .u64 0, .int .u64 0, .int .u64 0, .int .u64 0, .int .u64 0, .int .u64 0, .int .u64 0, .int .u64 0, .int .u64 0, .int .u64 0, .int .u64 0]) := ⟨by kernel_rfl⟩
instance : TyA Tryd.prog 95 48 := ⟨by kernel_rfl, by kernel_rfl⟩
instance : TyP Tryd.prog 95 [(0, 16), (16, 16), (32, 16)] [.int .u64 0, .int .u64 0, .int .u64 0, .int .u64 0, .int .u64 0, .int .u64 0, .int .u64 0, .int .u64 0, .int .u64 0, .int .u64 0, .int .u64 0, .int .u64 0, .int .u64 0, .int .u64 0, .int .u64 0, .int .u64 0, .int .u64 0, .int .u64 0, .int .u64 0, .int .u64 0, .int .u64 0, .int .u64 0, .int .u64 0, .int .u64 0, .int .u64 0, .int .u64 0, .int .u64 0, .int .u64 0, .int .u64 0, .int .u64 0, .int .u64 0, .int .u64 0, .int .u64 0, .int .u64 0, .int .u64 0, .int .u64 0, .int .u64 0, .int .u64 0, .int .u64 0, .int .u64 0, .int .u64 0, .int .u64 0, .int .u64 0, .int .u64 0, .int .u64 0, .int .u64 0, .int .u64 0, .int .u64 0] := ⟨by kernel_rfl⟩
instance : Fld Tryd.prog 95 0 0 94 := ⟨by kernel_rfl⟩
instance : Fld Tryd.prog 95 1 16 94 := ⟨by kernel_rfl⟩
instance : Fld Tryd.prog 95 2 32 94 := ⟨by kernel_rfl⟩
instance : TyS Tryd.prog 96 48 384 := ⟨by kernel_rfl⟩
instance : TyZ Tryd.prog 96 (.agg #[.int .u64 0, .int .u64 0, .int .u64 0, .int .u64 0, .int .u64 0, .int .u64 0, .int .u64 0, .int .u64 0, .int .u64 0, .int .u64 0, .int .u64 0, .int .u64 0, .int .u64 0, .int .u64 0, .int .u64 0, .int .u64 0, .int .u64 0, .int .u64 0, .int .u64 0, .int .u64 0, .int .u64 0, .int .u64 0, .int .u64 0, .int .u64 0, .int .u64 0, .int .u64 0, .int .u64 0, .int .u64 0, .int .u64 0, .int .u64 0, .int .u64 0, .int .u64 0, .int .u64 0, .int .u64 0, .int .u64 0, .int .u64 0, .int .u64 0, .int .u64 0, .int .u64 0, .int .u64 0, .int .u64 0, .int .u64 0, .int .u64 0, .int .u64 0, .int .u64 0, .int .u64 0, .int .u64 0, .int .u64 0]) := ⟨by kernel_rfl⟩
instance : TyA Tryd.prog 96 48 := ⟨by kernel_rfl, by kernel_rfl⟩
instance : TyP Tryd.prog 96 [(0, 16), (16, 16), (32, 16)] [.int .u64 0, .int .u64 0, .int .u64 0, .int .u64 0, .int .u64 0, .int .u64 0, .int .u64 0, .int .u64 0, .int .u64 0, .int .u64 0, .int .u64 0, .int .u64 0, .int .u64 0, .int .u64 0, .int .u64 0, .int .u64 0, .int .u64 0, .int .u64 0, .int .u64 0, .int .u64 0, .int .u64 0, .int .u64 0, .int .u64 0, .int .u64 0, .int .u64 0, .int .u64 0, .int .u64 0, .int .u64 0, .int .u64 0, .int .u64 0, .int .u64 0, .int .u64 0, .int .u64 0, .int .u64 0, .int .u64 0, .int .u64 0, .int .u64 0, .int .u64 0, .int .u64 0, .int .u64 0, .int .u64 0, .int .u64 0, .int .u64 0, .int .u64 0, .int .u64 0, .int .u64 0, .int .u64 0, .int .u64 0] := ⟨by kernel_rfl⟩
instance : Fld Tryd.prog 96 0 0 94 := ⟨by kernel_rfl⟩
instance : Fld Tryd.prog 96 1 16 94 := ⟨by kernel_rfl⟩
instance : Fld Tryd.prog 96 2 32 94 := ⟨by kernel_rfl⟩
instance : TyD Tryd.prog 100 (.pointer 106) := ⟨by kernel_rfl⟩
instance : TyS Tryd.prog 100 1 8 := ⟨by kernel_rfl⟩
instance : TyZ Tryd.prog 100 (.pointer none) := ⟨by kernel_rfl⟩
instance : TyC Tryd.prog 100 := ⟨by kernel_rfl, by kernel_rfl, by kernel_rfl⟩
instance : TyD Tryd.prog 104 (.array 16 94) := ⟨by kernel_rfl⟩
instance : TyS Tryd.prog 104 256 2048 := ⟨by kernel_rfl⟩
instance : TyA Tryd.prog 104 256 := ⟨by kernel_rfl, by kernel_rfl⟩
instance : TyS Tryd.prog 105 272 2176 := ⟨by kernel_rfl⟩
instance : TyA Tryd.prog 105 272 := ⟨by kernel_rfl, by kernel_rfl⟩
instance : Fld Tryd.prog 105 0 0 94 := ⟨by kernel_rfl⟩
instance : Fld Tryd.prog 105 1 16 104 := ⟨by kernel_rfl⟩
instance : TyS Tryd.prog 106 272 2176 := ⟨by kernel_rfl⟩
instance : TyA Tryd.prog 106 272 := ⟨by kernel_rfl, by kernel_rfl⟩
instance : Fld Tryd.prog 106 0 0 94 := ⟨by kernel_rfl⟩
instance : Fld Tryd.prog 106 1 16 104 := ⟨by kernel_rfl⟩
instance : TyD Tryd.prog 114 (.slice 92) := ⟨by kernel_rfl⟩
instance : TyS Tryd.prog 114 1 24 := ⟨by kernel_rfl⟩
instance : TyZ Tryd.prog 114 (.slice none 0 0) := ⟨by kernel_rfl⟩
instance : TyC Tryd.prog 114 := ⟨by kernel_rfl, by kernel_rfl, by kernel_rfl⟩
instance : TyD Tryd.prog 116 (.array 64 92) := ⟨by kernel_rfl⟩
instance : TyS Tryd.prog 116 64 512 := ⟨by kernel_rfl⟩
instance : TyZ Tryd.prog 116 (.agg #[.int .u64 0, .int .u64 0, .int .u64 0, .int .u64 0, .int .u64 0, .int .u64 0, .int .u64 0, .int .u64 0, .int .u64 0, .int .u64 0, .int .u64 0, .int .u64 0, .int .u64 0, .int .u64 0, .int .u64 0, .int .u64 0, .int .u64 0, .int .u64 0, .int .u64 0, .int .u64 0, .int .u64 0, .int .u64 0, .int .u64 0, .int .u64 0, .int .u64 0, .int .u64 0, .int .u64 0, .int .u64 0, .int .u64 0, .int .u64 0, .int .u64 0, .int .u64 0, .int .u64 0, .int .u64 0, .int .u64 0, .int .u64 0, .int .u64 0, .int .u64 0, .int .u64 0, .int .u64 0, .int .u64 0, .int .u64 0, .int .u64 0, .int .u64 0, .int .u64 0, .int .u64 0, .int .u64 0, .int .u64 0, .int .u64 0, .int .u64 0, .int .u64 0, .int .u64 0, .int .u64 0, .int .u64 0, .int .u64 0, .int .u64 0, .int .u64 0, .int .u64 0, .int .u64 0, .int .u64 0, .int .u64 0, .int .u64 0, .int .u64 0, .int .u64 0]) := ⟨by kernel_rfl⟩
instance : TyA Tryd.prog 116 64 := ⟨by kernel_rfl, by kernel_rfl⟩
instance : TyD Tryd.prog 118 (.int .u64) := ⟨by kernel_rfl⟩
instance : TyS Tryd.prog 118 1 8 := ⟨by kernel_rfl⟩
instance : TyZ Tryd.prog 118 (.int .u64 0) := ⟨by kernel_rfl⟩
instance : TyC Tryd.prog 118 := ⟨by kernel_rfl, by kernel_rfl, by kernel_rfl⟩
instance : TyS Tryd.prog 123 25 100 := ⟨by kernel_rfl⟩
instance : TyZ Tryd.prog 123 (.agg #[.int .u32 0, .int .u32 0, .int .u32 0, .int .u32 0, .int .u32 0, .int .u32 0, .int .u32 0, .int .u32 0, .int .u32 0, .int .u32 0, .int .u32 0, .int .u32 0, .int .u32 0, .int .u32 0, .int .u32 0, .int .u32 0, .int .u32 0, .int .u32 0, .int .u32 0, .int .u32 0, .int .u32 0, .int .u32 0, .int .u32 0, .int .u32 0, .int .u32 0]) := ⟨by kernel_rfl⟩
instance : TyA Tryd.prog 123 25 := ⟨by kernel_rfl, by kernel_rfl⟩
instance : TyP Tryd.prog 123 [(0, 8), (8, 1), (9, 8), (17, 8)] [.int .u32 0, .int .u32 0, .int .u32 0, .int .u32 0, .int .u32 0, .int .u32 0, .int .u32 0, .int .u32 0, .int .u32 0, .int .u32 0, .int .u32 0, .int .u32 0, .int .u32 0, .int .u32 0, .int .u32 0, .int .u32 0, .int .u32 0, .int .u32 0, .int .u32 0, .int .u32 0, .int .u32 0, .int .u32 0, .int .u32 0, .int .u32 0, .int .u32 0] := ⟨by kernel_rfl⟩
instance : Fld Tryd.prog 123 0 0 69 := ⟨by kernel_rfl⟩
instance : Fld Tryd.prog 123 1 8 24 := ⟨by kernel_rfl⟩
instance : Fld Tryd.prog 123 2 9 69 := ⟨by kernel_rfl⟩
instance : Fld Tryd.prog 123 3 17 69 := ⟨by kernel_rfl⟩
instance : TyS Tryd.prog 124 25 100 := ⟨by kernel_rfl⟩
instance : TyZ Tryd.prog 124 (.agg #[.int .u32 0, .int .u32 0, .int .u32 0, .int .u32 0, .int .u32 0, .int .u32 0, .int .u32 0, .int .u32 0, .int .u32 0, .int .u32 0, .int .u32 0, .int .u32 0, .int .u32 0, .int .u32 0, .int .u32 0, .int .u32 0, .int .u32 0, .int .u32 0, .int .u32 0, .int .u32 0, .int .u32 0, .int .u32 0, .int .u32 0, .int .u32 0, .int .u32 0]) := ⟨by kernel_rfl⟩
instance : TyA Tryd.prog 124 25 := ⟨by kernel_rfl, by kernel_rfl⟩
instance : TyP Tryd.prog 124 [(0, 8), (8, 1), (9, 8), (17, 8)] [.int .u32 0, .int .u32 0, .int .u32 0, .int .u32 0, .int .u32 0, .int .u32 0, .int .u32 0, .int .u32 0, .int .u32 0, .int .u32 0, .int .u32 0, .int .u32 0, .int .u32 0, .int .u32 0, .int .u32 0, .int .u32 0, .int .u32 0, .int .u32 0, .int .u32 0, .int .u32 0, .int .u32 0, .int .u32 0, .int .u32 0, .int .u32 0, .int .u32 0] := ⟨by kernel_rfl⟩
instance : Fld Tryd.prog 124 0 0 69 := ⟨by kernel_rfl⟩
instance : Fld Tryd.prog 124 1 8 24 := ⟨by kernel_rfl⟩
instance : Fld Tryd.prog 124 2 9 69 := ⟨by kernel_rfl⟩
instance : Fld Tryd.prog 124 3 17 69 := ⟨by kernel_rfl⟩
instance : TyD Tryd.prog 127 (.array 10 24) := ⟨by kernel_rfl⟩
instance : TyS Tryd.prog 127 10 40 := ⟨by kernel_rfl⟩
instance : TyZ Tryd.prog 127 (.agg #[.int .u32 0, .int .u32 0, .int .u32 0, .int .u32 0, .int .u32 0, .int .u32 0, .int .u32 0, .int .u32 0, .int .u32 0, .int .u32 0]) := ⟨by kernel_rfl⟩
instance : TyA Tryd.prog 127 10 := ⟨by kernel_rfl, by kernel_rfl⟩
instance : TyD Tryd.prog 129 (.slice 24) := ⟨by kernel_rfl⟩
instance : TyS Tryd.prog 129 1 24 := ⟨by kernel_rfl⟩
instance : TyZ Tryd.prog 129 (.slice none 0 0) := ⟨by kernel_rfl⟩
instance : TyC Tryd.prog 129 := ⟨by kernel_rfl, by kernel_rfl, by kernel_rfl⟩
instance : TyS Tryd.prog 130 9 40 := ⟨by kernel_rfl⟩
instance : TyZ Tryd.prog 130 (.agg #[.pointer none, .int .u32 0, .int .u32 0, .int .u32 0, .int .u32 0, .int .u32 0, .int .u32 0, .int .u32 0, .int .u32 0]) := ⟨by kernel_rfl⟩
instance : TyA Tryd.prog 130 9 := ⟨by kernel_rfl, by kernel_rfl⟩
instance : TyP Tryd.prog 130 [(0, 1), (1, 8)] [.pointer none, .int .u32 0, .int .u32 0, .int .u32 0, .int .u32 0, .int .u32 0, .int .u32 0, .int .u32 0, .int .u32 0] := ⟨by kernel_rfl⟩
instance : Fld Tryd.prog 130 0 0 77 := ⟨by kernel_rfl⟩
instance : Fld Tryd.prog 130 1 1 69 := ⟨by kernel_rfl⟩
instance : TyS Tryd.prog 131 9 40 := ⟨by kernel_rfl⟩
instance : TyZ Tryd.prog 131 (.agg #[.pointer none, .int .u32 0, .int .u32 0, .int .u32 0, .int .u32 0, .int .u32 0, .int .u32 0, .int .u32 0, .int .u32 0]) := ⟨by kernel_rfl⟩
instance : TyA Tryd.prog 131 9 := ⟨by kernel_rfl, by kernel_rfl⟩
instance : TyP Tryd.prog 131 [(0, 1), (1, 8)] [.pointer none, .int .u32 0, .int .u32 0, .int .u32 0, .int .u32 0, .int .u32 0, .int .u32 0, .int .u32 0, .int .u32 0] := ⟨by kernel_rfl⟩
instance : Fld Tryd.prog 131 0 0 77 := ⟨by kernel_rfl⟩
instance : Fld Tryd.prog 131 1 1 69 := ⟨by kernel_rfl⟩
instance : TyS Tryd.prog 132 24 96 := ⟨by kernel_rfl⟩
instance : TyZ Tryd.prog 132 (.agg #[.int .u32 0, .int .u32 0, .int .u32 0, .int .u32 0, .int .u32 0, .int .u32 0, .int .u32 0, .int .u32 0, .int .u32 0, .int .u32 0, .int .u32 0, .int .u32 0, .int .u32 0, .int .u32 0, .int .u32 0, .int .u32 0, .int .u32 0, .int .u32 0, .int .u32 0, .int .u32 0, .int .u32 0, .int .u32 0, .int .u32 0, .int .u32 0]) := ⟨by kernel_rfl⟩
instance : TyA Tryd.prog 132 24 := ⟨by kernel_rfl, by kernel_rfl⟩
instance : TyP Tryd.prog 132 [(0, 8), (8, 8), (16, 8)] [.int .u32 0, .int .u32 0, .int .u32 0, .int .u32 0, .int .u32 0, .int .u32 0, .int .u32 0, .int .u32 0, .int .u32 0, .int .u32 0, .int .u32 0, .int .u32 0, .int .u32 0, .int .u32 0, .int .u32 0, .int .u32 0, .int .u32 0, .int .u32 0, .int .u32 0, .int .u32 0, .int .u32 0, .int .u32 0, .int .u32 0, .int .u32 0] := ⟨by kernel_rfl⟩
instance : Fld Tryd.prog 132 0 0 69 := ⟨by kernel_rfl⟩
instance : Fld Tryd.prog 132 1 8 69 := ⟨by kernel_rfl⟩
instance : Fld Tryd.prog 132 2 16 69 := ⟨by kernel_rfl⟩
instance : TyS Tryd.prog 133 24 96 := ⟨by kernel_rfl⟩
instance : TyZ Tryd.prog 133 (.agg #[.int .u32 0, .int .u32 0, .int .u32 0, .int .u32 0, .int .u32 0, .int .u32 0, .int .u32 0, .int .u32 0, .int .u32 0, .int .u32 0, .int .u32 0, .int .u32 0, .int .u32 0, .int .u32 0, .int .u32 0, .int .u32 0, .int .u32 0, .int .u32 0, .int .u32 0, .int .u32 0, .int .u32 0, .int .u32 0, .int .u32 0, .int .u32 0]) := ⟨by kernel_rfl⟩
instance : TyA Tryd.prog 133 24 := ⟨by kernel_rfl, by kernel_rfl⟩
instance : TyP Tryd.prog 133 [(0, 8), (8, 8), (16, 8)] [.int .u32 0, .int .u32 0, .int .u32 0, .int .u32 0, .int .u32 0, .int .u32 0, .int .u32 0, .int .u32 0, .int .u32 0, .int .u32 0, .int .u32 0, .int .u32 0, .int .u32 0, .int .u32 0, .int .u32 0, .int .u32 0, .int .u32 0, .int .u32 0, .int .u32 0, .int .u32 0, .int .u32 0, .int .u32 0, .int .u32 0, .int .u32 0] := ⟨by kernel_rfl⟩
instance : Fld Tryd.prog 133 0 0 69 := ⟨by kernel_rfl⟩
instance : Fld Tryd.prog 133 1 8 69 := ⟨by kernel_rfl⟩
instance : Fld Tryd.prog 133 2 16 69 := ⟨by kernel_rfl⟩
instance : TyD Tryd.prog 139 (.array 64 5) := ⟨by kernel_rfl⟩
instance : TyS Tryd.prog 139 64 64 := ⟨by kernel_rfl⟩
instance : TyZ Tryd.prog 139 (.agg #[.int .u8 0, .int .u8 0, .int .u8 0, .int .u8 0, .int .u8 0, .int .u8 0, .int .u8 0, .int .u8 0, .int .u8 0, .int .u8 0, .int .u8 0, .int .u8 0, .int .u8 0, .int .u8 0, .int .u8 0, .int .u8 0, .int .u8 0, .int .u8 0, .int .u8 0, .int .u8 0, .int .u8 0, .int .u8 0, .int .u8 0, .int .u8 0, .int .u8 0, .int .u8 0, .int .u8 0, .int .u8 0, .int .u8 0, .int .u8 0, .int .u8 0, .int .u8 0, .int .u8 0, .int .u8 0, .int .u8 0, .int .u8 0, .int .u8 0, .int .u8 0, .int .u8 0, .int .u8 0, .int .u8 0, .int .u8 0, .int .u8 0, .int .u8 0, .int .u8 0, .int .u8 0, .int .u8 0, .int .u8 0, .int .u8 0, .int .u8 0, .int .u8 0, .int .u8 0, .int .u8 0, .int .u8 0, .int .u8 0, .int .u8 0, .int .u8 0, .int .u8 0, .int .u8 0, .int .u8 0, .int .u8 0, .int .u8 0, .int .u8 0, .int .u8 0]) := ⟨by kernel_rfl⟩
instance : TyA Tryd.prog 139 64 := ⟨by kernel_rfl, by kernel_rfl⟩
instance : TyS Tryd.prog 140 73 104 := ⟨by kernel_rfl⟩
instance : TyA Tryd.prog 140 73 := ⟨by kernel_rfl, by kernel_rfl⟩
instance : Fld Tryd.prog 140 0 0 68 := ⟨by kernel_rfl⟩
instance : Fld Tryd.prog 140 1 8 139 := ⟨by kernel_rfl⟩
instance : Fld Tryd.prog 140 2 72 92 := ⟨by kernel_rfl⟩
instance : TyS Tryd.prog 141 73 104 := ⟨by kernel_rfl⟩
instance : TyA Tryd.prog 141 73 := ⟨by kernel_rfl, by kernel_rfl⟩
instance : Fld Tryd.prog 141 0 0 68 := ⟨by kernel_rfl⟩
instance : Fld Tryd.prog 141 1 8 139 := ⟨by kernel_rfl⟩
instance : Fld Tryd.prog 141 2 72 92 := ⟨by kernel_rfl⟩
instance : TyD Tryd.prog 148 (.array 33 92) := ⟨by kernel_rfl⟩
instance : TyS Tryd.prog 148 33 264 := ⟨by kernel_rfl⟩
instance : TyZ Tryd.prog 148 (.agg #[.int .u64 0, .int .u64 0, .int .u64 0, .int .u64 0, .int .u64 0, .int .u64 0, .int .u64 0, .int .u64 0, .int .u64 0, .int .u64 0, .int .u64 0, .int .u64 0, .int .u64 0, .int .u64 0, .int .u64 0, .int .u64 0, .int .u64 0, .int .u64 0, .int .u64 0, .int .u64 0, .int .u64 0, .int .u64 0, .int .u64 0, .int .u64 0, .int .u64 0, .int .u64 0, .int .u64 0, .int .u64 0, .int .u64 0, .int .u64 0, .int .u64 0, .int .u64 0, .int .u64 0]) := ⟨by kernel_rfl⟩
instance : TyA Tryd.prog 148 33 := ⟨by kernel_rfl, by kernel_rfl⟩
instance : TyD Tryd.prog 150 (.pointer 148) := ⟨by kernel_rfl⟩
instance : TyS Tryd.prog 150 1 8 := ⟨by kernel_rfl⟩
instance : TyZ Tryd.prog 150 (.pointer none) := ⟨by kernel_rfl⟩
instance : TyC Tryd.prog 150 := ⟨by kernel_rfl, by kernel_rfl, by kernel_rfl⟩
instance : TyD Tryd.prog 152 (.array 64 24) := ⟨by kernel_rfl⟩
instance : TyS Tryd.prog 152 64 256 := ⟨by kernel_rfl⟩
instance : TyZ Tryd.prog 152 (.agg #[.int .u32 0, .int .u32 0, .int .u32 0, .int .u32 0, .int .u32 0, .int .u32 0, .int .u32 0, .int .u32 0, .int .u32 0, .int .u32 0, .int .u32 0, .int .u32 0, .int .u32 0, .int .u32 0, .int .u32 0, .int .u32 0, .int .u32 0, .int .u32 0, .int .u32 0, .int .u32 0, .int .u32 0, .int .u32 0, .int .u32 0, .int .u32 0, .int .u32 0, .int .u32 0, .int .u32 0, .int .u32 0, .int .u32 0, .int .u32 0, .int .u32 0, .int .u32 0, .int .u32 0, .int .u32 0, .int .u32 0, .int .u32 0, .int .u32 0, .int .u32 0, .int .u32 0, .int .u32 0, .int .u32 0, .int .u32 0, .int .u32 0, .int .u32 0, .int .u32 0, .int .u32 0, .int .u32 0, .int .u32 0, .int .u32 0, .int .u32 0, .int .u32 0, .int .u32 0, .int .u32 0, .int .u32 0, .int .u32 0, .int .u32 0, .int .u32 0, .int .u32 0, .int .u32 0, .int .u32 0, .int .u32 0, .int .u32 0, .int .u32 0, .int .u32 0]) := ⟨by kernel_rfl⟩
instance : TyA Tryd.prog 152 64 := ⟨by kernel_rfl, by kernel_rfl⟩
instance : TyD Tryd.prog 154 (.array 17 92) := ⟨by kernel_rfl⟩
instance : TyS Tryd.prog 154 17 136 := ⟨by kernel_rfl⟩
instance : TyZ Tryd.prog 154 (.agg #[.int .u64 0, .int .u64 0, .int .u64 0, .int .u64 0, .int .u64 0, .int .u64 0, .int .u64 0, .int .u64 0, .int .u64 0, .int .u64 0, .int .u64 0, .int .u64 0, .int .u64 0, .int .u64 0, .int .u64 0, .int .u64 0, .int .u64 0]) := ⟨by kernel_rfl⟩
instance : TyA Tryd.prog 154 17 := ⟨by kernel_rfl, by kernel_rfl⟩
instance : TyD Tryd.prog 158 (.array 8 92) := ⟨by kernel_rfl⟩
instance : TyS Tryd.prog 158 8 64 := ⟨by kernel_rfl⟩
instance : TyZ Tryd.prog 158 (.agg #[.int .u64 0, .int .u64 0, .int .u64 0, .int .u64 0, .int .u64 0, .int .u64 0, .int .u64 0, .int .u64 0]) := ⟨by kernel_rfl⟩
instance : TyA Tryd.prog 158 8 := ⟨by kernel_rfl, by kernel_rfl⟩
instance : TyS Tryd.prog 160 4 40 := ⟨by kernel_rfl⟩
instance : TyZ Tryd.prog 160 (.agg #[.pointer none, .pointer none, .pointer none, .string ⟨#[]⟩]) := ⟨by kernel_rfl⟩
instance : TyA Tryd.prog 160 4 := ⟨by kernel_rfl, by kernel_rfl⟩
instance : TyP Tryd.prog 160 [(0, 1), (1, 1), (2, 1), (3, 1)] [.pointer none, .pointer none, .pointer none, .string ⟨#[]⟩] := ⟨by kernel_rfl⟩
instance : Fld Tryd.prog 160 0 0 17 := ⟨by kernel_rfl⟩
instance : Fld Tryd.prog 160 1 1 17 := ⟨by kernel_rfl⟩
instance : Fld Tryd.prog 160 2 2 17 := ⟨by kernel_rfl⟩
instance : Fld Tryd.prog 160 3 3 9 := ⟨by kernel_rfl⟩
instance : TyS Tryd.prog 161 4 40 := ⟨by kernel_rfl⟩
instance : TyZ Tryd.prog 161 (.agg #[.pointer none, .pointer none, .pointer none, .string ⟨#[]⟩]) := ⟨by kernel_rfl⟩
instance : TyA Tryd.prog 161 4 := ⟨by kernel_rfl, by kernel_rfl⟩
instance : TyP Tryd.prog 161 [(0, 1), (1, 1), (2, 1), (3, 1)] [.pointer none, .pointer none, .pointer none, .string ⟨#[]⟩] := ⟨by kernel_rfl⟩
instance : Fld Tryd.prog 161 0 0 17 := ⟨by kernel_rfl⟩
instance : Fld Tryd.prog 161 1 1 17 := ⟨by kernel_rfl⟩
instance : Fld Tryd.prog 161 2 2 17 := ⟨by kernel_rfl⟩
instance : Fld Tryd.prog 161 3 3 9 := ⟨by kernel_rfl⟩
instance : TyD Tryd.prog 162 (.array 0 16) := ⟨by kernel_rfl⟩
instance : TyS Tryd.prog 162 0 0 := ⟨by kernel_rfl⟩
instance : TyZ Tryd.prog 162 (.agg #[]) := ⟨by kernel_rfl⟩
instance : TyA Tryd.prog 162 0 := ⟨by kernel_rfl, by kernel_rfl⟩
instance : TyS Tryd.prog 163 0 0 := ⟨by kernel_rfl⟩
instance : TyZ Tryd.prog 163 (.agg #[]) := ⟨by kernel_rfl⟩
instance : TyA Tryd.prog 163 0 := ⟨by kernel_rfl, by kernel_rfl⟩
instance : TyP Tryd.prog 163 [(0, 0)] [] := ⟨by kernel_rfl⟩
instance : TyS Tryd.prog 164 0 0 := ⟨by kernel_rfl⟩
instance : TyZ Tryd.prog 164 (.agg #[]) := ⟨by kernel_rfl⟩
instance : TyA Tryd.prog 164 0 := ⟨by kernel_rfl, by kernel_rfl⟩
instance : TyP Tryd.prog 164 [(0, 0)] [] := ⟨by kernel_rfl⟩
instance : TyD Tryd.prog 165 (.int .u8) := ⟨by kernel_rfl⟩
instance : TyS Tryd.prog 165 1 1 := ⟨by kernel_rfl⟩
instance : TyZ Tryd.prog 165 (.int .u8 0) := ⟨by kernel_rfl⟩
instance : TyC Tryd.prog 165 := ⟨by kernel_rfl, by kernel_rfl, by kernel_rfl⟩
instance : TyD Tryd.prog 166 (.int .u8) := ⟨by kernel_rfl⟩
instance : TyS Tryd.prog 166 1 1 := ⟨by kernel_rfl⟩
instance : TyZ Tryd.prog 166 (.int .u8 0) := ⟨by kernel_rfl⟩
instance : TyC Tryd.prog 166 := ⟨by kernel_rfl, by kernel_rfl, by kernel_rfl⟩
instance : TyD Tryd.prog 168 (.pointer 5) := ⟨by kernel_rfl⟩
instance : TyS Tryd.prog 168 1 8 := ⟨by kernel_rfl⟩
instance : TyZ Tryd.prog 168 (.pointer none) := ⟨by kernel_rfl⟩
instance : TyC Tryd.prog 168 := ⟨by kernel_rfl, by kernel_rfl, by kernel_rfl⟩
instance : TyD Tryd.prog 169 (.int .i32) := ⟨by kernel_rfl⟩
instance : TyS Tryd.prog 169 1 4 := ⟨by kernel_rfl⟩
instance : TyZ Tryd.prog 169 (.int .i32 0) := ⟨by kernel_rfl⟩
instance : TyC Tryd.prog 169 := ⟨by kernel_rfl, by kernel_rfl, by kernel_rfl⟩
instance : TyD Tryd.prog 170 (.int .i32) := ⟨by kernel_rfl⟩
instance : TyS Tryd.prog 170 1 4 := ⟨by kernel_rfl⟩
instance : TyZ Tryd.prog 170 (.int .i32 0) := ⟨by kernel_rfl⟩
instance : TyC Tryd.prog 170 := ⟨by kernel_rfl, by kernel_rfl, by kernel_rfl⟩
instance : TyS Tryd.prog 171 11 48 := ⟨by kernel_rfl⟩
instance : TyZ Tryd.prog 171 (.agg #[.int .u64 0, .int .u64 0, .int .u32 0, .int .u8 0, .int .u8 0, .int .u8 0, .int .u8 0, .nilFunc, .pointer none, .int .i32 0, .int .i32 0]) := ⟨by kernel_rfl⟩
instance : TyA Tryd.prog 171 11 := ⟨by kernel_rfl, by kernel_rfl⟩
instance : Fld Tryd.prog 171 0 0 12 := ⟨by kernel_rfl⟩
instance : Fld Tryd.prog 171 1 1 12 := ⟨by kernel_rfl⟩
instance : Fld Tryd.prog 171 2 2 24 := ⟨by kernel_rfl⟩
instance : Fld Tryd.prog 171 3 3 165 := ⟨by kernel_rfl⟩
instance : Fld Tryd.prog 171 4 4 5 := ⟨by kernel_rfl⟩
instance : Fld Tryd.prog 171 5 5 5 := ⟨by kernel_rfl⟩
instance : Fld Tryd.prog 171 6 6 166 := ⟨by kernel_rfl⟩
instance : Fld Tryd.prog 171 8 8 168 := ⟨by kernel_rfl⟩
instance : Fld Tryd.prog 171 9 9 169 := ⟨by kernel_rfl⟩
instance : Fld Tryd.prog 171 10 10 170 := ⟨by kernel_rfl⟩
instance : TyS Tryd.prog 172 11 48 := ⟨by kernel_rfl⟩
instance : TyZ Tryd.prog 172 (.agg #[.int .u64 0, .int .u64 0, .int .u32 0, .int .u8 0, .int .u8 0, .int .u8 0, .int .u8 0, .nilFunc, .pointer none, .int .i32 0, .int .i32 0]) := ⟨by kernel_rfl⟩
instance : TyA Tryd.prog 172 11 := ⟨by kernel_rfl, by kernel_rfl⟩
instance : Fld Tryd.prog 172 0 0 12 := ⟨by kernel_rfl⟩
instance : Fld Tryd.prog 172 1 1 12 := ⟨by kernel_rfl⟩
instance : Fld Tryd.prog 172 2 2 24 := ⟨by kernel_rfl⟩
instance : Fld Tryd.prog 172 3 3 165 := ⟨by kernel_rfl⟩
instance : Fld Tryd.prog 172 4 4 5 := ⟨by kernel_rfl⟩
instance : Fld Tryd.prog 172 5 5 5 := ⟨by kernel_rfl⟩
instance : Fld Tryd.prog 172 6 6 166 := ⟨by kernel_rfl⟩
instance : Fld Tryd.prog 172 8 8 168 := ⟨by kernel_rfl⟩
instance : Fld Tryd.prog 172 9 9 169 := ⟨by kernel_rfl⟩
instance : Fld Tryd.prog 172 10 10 170 := ⟨by kernel_rfl⟩
instance : TyS Tryd.prog 173 1 8 := ⟨by kernel_rfl⟩
instance : TyZ Tryd.prog 173 (.pointer none) := ⟨by kernel_rfl⟩
instance : TyC Tryd.prog 173 := ⟨by kernel_rfl, by kernel_rfl, by kernel_rfl⟩
instance : Ent Tryd.prog 3 := ent_of Tryd.func3 (by kernel_rfl) (by kernel_rfl)
instance : Ent Tryd.prog 4 := ent_of Tryd.func4 (by kernel_rfl) (by kernel_rfl)
instance : Ent Tryd.prog 5 := ent_of Tryd.func5 (by kernel_rfl) (by kernel_rfl)
instance : Ent Tryd.prog 6 := ent_of Tryd.func6 (by kernel_rfl) (by kernel_rfl)
instance : Ent Tryd.prog 7 := ent_of Tryd.func7 (by kernel_rfl) (by kernel_rfl)
instance : Ent Tryd.prog 8 := ent_of Tryd.func8 (by kernel_rfl) (by kernel_rfl)
instance : Ent Tryd.prog 9 := ent_of Tryd.func9 (by kernel_rfl) (by kernel_rfl)
instance : Ent Tryd.prog 10 := ent_of Tryd.func10 (by kernel_rfl) (by kernel_rfl)
instance : Ent Tryd.prog 11 := ent_of Tryd.func11 (by kernel_rfl) (by kernel_rfl)
instance : Ent Tryd.prog 12 := ent_of Tryd.func12 (by kernel_rfl) (by kernel_rfl)
instance : Ent Tryd.prog 13 := ent_of Tryd.func13 (by kernel_rfl) (by kernel_rfl)
instance : Ent Tryd.prog 14 := ent_of Tryd.func14 (by kernel_rfl) (by kernel_rfl)
instance : Ent Tryd.prog 15 := ent_of Tryd.func15 (by kernel_rfl) (by kernel_rfl)
instance : Ent Tryd.prog 16 := ent_of Tryd.func16 (by kernel_rfl) (by kernel_rfl)
instance : Ent Tryd.prog 17 := ent_of Tryd.func17 (by kernel_rfl) (by kernel_rfl)
instance : Ent Tryd.prog 18 := ent_of Tryd.func18 (by kernel_rfl) (by kernel_rfl)
instance : Ent Tryd.prog 19 := ent_of Tryd.func19 (by kernel_rfl) (by kernel_rfl)
instance : Ent Tryd.prog 20 := ent_of Tryd.func20 (by kernel_rfl) (by kernel_rfl)
instance : Ent Tryd.prog 21 := ent_of Tryd.func21 (by kernel_rfl) (by kernel_rfl)
instance : Ent Tryd.prog 22 := ent_of Tryd.func22 (by kernel_rfl) (by kernel_rfl)
instance : Ent Tryd.prog 23 := ent_of Tryd.func23 (by kernel_rfl) (by kernel_rfl)
instance : Ent Tryd.prog 24 := ent_of Tryd.func24 (by kernel_rfl) (by kernel_rfl)
instance : Ent Tryd.prog 25 := ent_of Tryd.func25 (by kernel_rfl) (by kernel_rfl)
instance : Ent Tryd.prog 26 := ent_of Tryd.func26 (by kernel_rfl) (by kernel_rfl)
instance : Ent Tryd.prog 27 := ent_of Tryd.func27 (by kernel_rfl) (by kernel_rfl)
instance : Ent Tryd.prog 28 := ent_of Tryd.func28 (by kernel_rfl) (by kernel_rfl)
instance : Ent Tryd.prog 29 := ent_of Tryd.func29 (by kernel_rfl) (by kernel_rfl)
instance : Ent Tryd.prog 30 := ent_of Tryd.func30 (by kernel_rfl) (by kernel_rfl)
instance : Ent Tryd.prog 31 := ent_of Tryd.func31 (by kernel_rfl) (by kernel_rfl)
instance : Ent Tryd.prog 32 := ent_of Tryd.func32 (by kernel_rfl) (by kernel_rfl)
instance : Ent Tryd.prog 33 := ent_of Tryd.func33 (by kernel_rfl) (by kernel_rfl)
instance : Ent Tryd.prog 34 := ent_of Tryd.func34 (by kernel_rfl) (by kernel_rfl)
instance : Ent Tryd.prog 35 := ent_of Tryd.func35 (by kernel_rfl) (by kernel_rfl)
instance : Ent Tryd.prog 36 := ent_of Tryd.func36 (by kernel_rfl) (by kernel_rfl)
instance : Ent Tryd.prog 37 := ent_of Tryd.func37 (by kernel_rfl) (by kernel_rfl)
instance : Ent Tryd.prog 38 := ent_of Tryd.func38 (by kernel_rfl) (by kernel_rfl)
instance : Ent Tryd.prog 39 := ent_of Tryd.func39 (by kernel_rfl) (by kernel_rfl)
instance : Ent Tryd.prog 40 := ent_of Tryd.func40 (by kernel_rfl) (by kernel_rfl)
instance : Ent Tryd.prog 41 := ent_of Tryd.func41 (by kernel_rfl) (by kernel_rfl)
instance : Ent Tryd.prog 42 := ent_of Tryd.func42 (by kernel_rfl) (by kernel_rfl)
instance : Ent Tryd.prog 43 := ent_of Tryd.func43 (by kernel_rfl) (by kernel_rfl)
instance : Ent Tryd.prog 44 := ent_of Tryd.func44 (by kernel_rfl) (by kernel_rfl)
instance : Ent Tryd.prog 45 := ent_of Tryd.func45 (by kernel_rfl) (by kernel_rfl)
instance : Ent Tryd.prog 46 := ent_of Tryd.func46 (by kernel_rfl) (by kernel_rfl)
instance : Ent Tryd.prog 47 := ent_of Tryd.func47 (by kernel_rfl) (by kernel_rfl)
instance : Ent Tryd.prog 48 := ent_of Tryd.func48 (by kernel_rfl) (by kernel_rfl)
instance : Ent Tryd.prog 49 := ent_of Tryd.func49 (by kernel_rfl) (by kernel_rfl)
instance : Ent Tryd.prog 50 := ent_of Tryd.func50 (by kernel_rfl) (by kernel_rfl)
instance : Ent Tryd.prog 51 := ent_of Tryd.func51 (by kernel_rfl) (by kernel_rfl)
instance : Ent Tryd.prog 52 := ent_of Tryd.func52 (by kernel_rfl) (by kernel_rfl)
instance : Ent Tryd.prog 53 := ent_of Tryd.func53 (by kernel_rfl) (by kernel_rfl)
instance : Ent Tryd.prog 54 := ent_of Tryd.func54 (by kernel_rfl) (by kernel_rfl)
instance : Ent Tryd.prog 55 := ent_of Tryd.func55 (by kernel_rfl) (by kernel_rfl)
instance : Ent Tryd.prog 56 := ent_of Tryd.func56 (by kernel_rfl) (by kernel_rfl)
instance : Ent Tryd.prog 57 := ent_of Tryd.func57 (by kernel_rfl) (by kernel_rfl)
instance : Ent Tryd.prog 58 := ent_of Tryd.func58 (by kernel_rfl) (by kernel_rfl)
instance : Ent Tryd.prog 59 := ent_of Tryd.func59 (by kernel_rfl) (by kernel_rfl)
instance : Ent Tryd.prog 60 := ent_of Tryd.func60 (by kernel_rfl) (by kernel_rfl)
instance : Ent Tryd.prog 61 := ent_of Tryd.func61 (by kernel_rfl) (by kernel_rfl)
instance : Ent Tryd.prog 62 := ent_of Tryd.func62 (by kernel_rfl) (by kernel_rfl)
instance : Ent Tryd.prog 63 := ent_of Tryd.func63 (by kernel_rfl) (by kernel_rfl)
instance : Ent Tryd.prog 64 := ent_of Tryd.func64 (by kernel_rfl) (by kernel_rfl)
instance : Ent Tryd.prog 65 := ent_of Tryd.func65 (by kernel_rfl) (by kernel_rfl)
instance : Ent Tryd.prog 66 := ent_of Tryd.func66 (by kernel_rfl) (by kernel_rfl)
instance : Ent Tryd.prog 67 := ent_of Tryd.func67 (by kernel_rfl) (by kernel_rfl)
instance : Ent Tryd.prog 68 := ent_of Tryd.func68 (by kernel_rfl) (by kernel_rfl)
instance : Ent Tryd.prog 69 := ent_of Tryd.func69 (by kernel_rfl) (by kernel_rfl)
instance : Ent Tryd.prog 70 := ent_of Tryd.func70 (by kernel_rfl) (by kernel_rfl)
instance : Ent Tryd.prog 71 := ent_of Tryd.func71 (by kernel_rfl) (by kernel_rfl)
instance : Ent Tryd.prog 72 := ent_of Tryd.func72 (by kernel_rfl) (by kernel_rfl)
instance : Ent Tryd.prog 73 := ent_of Tryd.func73 (by kernel_rfl) (by kernel_rfl)
instance : Ent Tryd.prog 74 := ent_of Tryd.func74 (by kernel_rfl) (by kernel_rfl)
instance : Ent Tryd.prog 75 := ent_of Tryd.func75 (by kernel_rfl) (by kernel_rfl)
instance : Ent Tryd.prog 76 := ent_of Tryd.func76 (by kernel_rfl) (by kernel_rfl)
instance : Ent Tryd.prog 77 := ent_of Tryd.func77 (by kernel_rfl) (by kernel_rfl)
instance : Ent Tryd.prog 78 := ent_of Tryd.func78 (by kernel_rfl) (by kernel_rfl)
instance : Ent Tryd.prog 79 := ent_of Tryd.func79 (by kernel_rfl) (by kernel_rfl)
instance : Ent Tryd.prog 80 := ent_of Tryd.func80 (by kernel_rfl) (by kernel_rfl)
instance : Ent Tryd.prog 81 := ent_of Tryd.func81 (by kernel_rfl) (by kernel_rfl)
instance : Ent Tryd.prog 82 := ent_of Tryd.func82 (by kernel_rfl) (by kernel_rfl)
instance : Ent Tryd.prog 83 := ent_of Tryd.func83 (by kernel_rfl) (by kernel_rfl)
instance : Ent Tryd.prog 84 := ent_of Tryd.func84 (by kernel_rfl) (by kernel_rfl)
instance : Ent Tryd.prog 85 := ent_of Tryd.func85 (by kernel_rfl) (by kernel_rfl)
instance : Ent Tryd.prog 86 := ent_of Tryd.func86 (by kernel_rfl) (by kernel_rfl)
instance : Ent Tryd.prog 87 := ent_of Tryd.func87 (by kernel_rfl) (by kernel_rfl)
instance : Ent Tryd.prog 88 := ent_of Tryd.func88 (by kernel_rfl) (by kernel_rfl)
instance : Ent Tryd.prog 89 := ent_of Tryd.func89 (by kernel_rfl) (by kernel_rfl)
instance : Ent Tryd.prog 90 := ent_of Tryd.func90 (by kernel_rfl) (by kernel_rfl)
instance : Ent Tryd.prog 91 := ent_of Tryd.func91 (by kernel_rfl) (by kernel_rfl)
instance : Ent Tryd.prog 92 := ent_of Tryd.func92 (by kernel_rfl) (by kernel_rfl)
instance : Ent Tryd.prog 93 := ent_of Tryd.func93 (by kernel_rfl) (by kernel_rfl)
instance : Ent Tryd.prog 94 := ent_of Tryd.func94 (by kernel_rfl) (by kernel_rfl)
instance : Ent Tryd.prog 96 := ent_of Tryd.func96 (by kernel_rfl) (by kernel_rfl)
instance : Ent Tryd.prog 97 := ent_of Tryd.func97 (by kernel_rfl) (by kernel_rfl)
instance : Ent Tryd.prog 98 := ent_of Tryd.func98 (by kernel_rfl) (by kernel_rfl)
instance : Ent Tryd.prog 99 := ent_of Tryd.func99 (by kernel_rfl) (by kernel_rfl)
instance : Ent Tryd.prog 100 := ent_of Tryd.func100 (by kernel_rfl) (by kernel_rfl)
theorem mixed : Tryd.prog.follows .mixedOrders = true := by kernel_rfl
end Go.Proofs.YtmjlceimjlabpaaDoor
end
section
namespace Go.Proofs.YtmjlceimjlabpaaDoor
open Go.RowKit Go.Pt
def cTake (l : List UInt8) (bad : Bool) (n : Int) : List UInt8 × List UInt8 × Bool :=
 if bad = true ∨ n < 0 ∨ (l.length : Int) < n then ([], [], true) else (l.take n.toNat, l.drop n.toNat, false)
def TakePost (w : World) (c : Nat) (v : Value) (l : List UInt8) (bad : Bool) (n : Int) (e : Ending) (w' : World) : Prop :=
 ∃ x v', e = .returned x ∧ Hp w [⟨c, [v', .bool (cTake l bad n).2.2], 66⟩] w' ∧ ∀ u, Bs u v l → Bs u x (cTake l bad n).1 ∧ Bs u v' (cTake l bad n).2.1
set_option maxHeartbeats 400000 in
theorem take_any (c : Nat) (v : Value) (l : List UInt8) (bad : Bool) (n : Int) (w u : World) (h : w.heap[c]? = some (.cells #[v, .bool bad] 66 (0,0))) (hv : Bs u v l) :
  Calls Tryd.prog 12 #[.pointer (some ⟨c, 0, none⟩), .int .i64 n] w (TakePost w c v l bad n) := by
 obtain ⟨a, cap, rfl, hl, hm⟩ := hv.shape
 unfold maxLen at hm
 refine enter (args := [_, _]) (Γ := [(0, _), (1, _)]) Tryd.func12 Tryd.ntmps12 rfl (of_decide_eq_true rfl) (.cons rfl (.cons rfl .nil)) ?_
 refine St.cls (C' := Hp w [⟨c, [.slice a l.length cap, .bool bad], 66⟩]) (fun _ h' => Hp.open h' h) ?_
 repeat' first | refine Wl.move rfl rfl ?_ | refine Wl.assign rfl rfl ?_ | (apply Wl.on; exact rfl; exact rfl; (first | rfl | assumption)) | (apply Wl.off; exact rfl; exact rfl; exact rfl; (first | rfl | assumption)) | refine Wl.nilCheck rfl rfl ?_ | (apply Wl.pickT; exact rfl; exact rfl; (first | rfl | assumption); exact rfl) | (apply Wl.pickF; exact rfl; exact rfl; (first | rfl | assumption); exact rfl) | refine Wl.fieldAddr0 rfl rfl ?_ | refine Wl.fieldAddrZ rfl rfl ?_ | (apply Wl.loadH; exact rfl; exact rfl; (focus repeat constructor); exact rfl) | refine Wl.eqlPN rfl rfl rfl ?_ | refine Wl.lss rfl rfl rfl ?_ | refine Wl.gtr rfl rfl rfl ?_ | refine Wl.len rfl rfl ?_ | (apply Wl.store; exact rfl; exact rfl; exact rfl; (focus repeat constructor); (repeat (first | apply LSet.z | apply LSet.s))) | (apply Wl.slice0; exact rfl; exact rfl; (first | exact BoundIs.no | exact BoundIs.yes rfl (by omega)); (first | exact BoundIs.no | exact BoundIs.yes rfl (by omega)); (first | exact fun _ => rfl | exact fun h => nomatch h);omega;omega) | (apply Wl.sliceFull; exact rfl; exact rfl; (first | exact BoundIs.no | exact BoundIs.yes rfl (by omega)); (first | exact BoundIs.no | exact BoundIs.yes rfl (by omega)); (first | exact BoundIs.no | exact BoundIs.yes rfl (by omega)); (first | exact fun _ => rfl | exact fun h => nomatch h);omega;omega;omega) | apply Wl.nil | apply St.seq | apply St.region | (apply St.condT; exact rfl; (first | rfl | assumption)) | (apply St.condF; exact rfl; (first | rfl | assumption)) | apply St.ret | apply St.skip | apply Gt.next | apply Gt.thenRet | (apply Gt.out1; exact rfl; exact rfl; intro w' hp) | (apply Wl.splitP; exact rfl; exact rfl; all_goals (intros; try (exfalso; omega))) | (apply Wl.splitB; exact rfl; exact rfl; all_goals intros) | (apply St.condP; exact rfl; all_goals (intros; try (exfalso; omega)))
 ·have e : cTake l bad n = ([], [], true) := if_pos (.inl ‹bad = true›)
  rw [TakePost, e]; exact ⟨_, _, rfl, hp, fun u _ => ⟨Bs.nil u, Bs.nil u⟩⟩
 ·have e : cTake l bad n = ([], [], true) := if_pos (.inr (.inl ‹n < 0›))
  rw [TakePost, e]; exact ⟨_, _, rfl, hp, fun u _ => ⟨Bs.nil u, Bs.nil u⟩⟩
 ·have e : cTake l bad n = ([], [], true) := if_pos (.inr (.inr ‹(l.length : Int) < n›))
  rw [TakePost, e]; exact ⟨_, _, rfl, hp, fun u _ => ⟨Bs.nil u, Bs.nil u⟩⟩
 ·have hb : bad = false := ‹bad = false›
  subst hb
  have e : cTake l false n = (l.take n.toNat, l.drop n.toNat, false) := if_neg (by simp; omega)
  rw [TakePost, e]
  refine ⟨_, _, rfl, hp, fun u hu => ⟨?_, ?_⟩⟩
  ·have := hu.sub (lo := 0) (hi := n.toNat) (mx := n.toNat) (by omega) (by omega) (by omega) (by omega)
   have e2 : (if n.toNat = 0 then a else a.map (·.add (0 * 1))) = a := by split <;> cases a <;> simp [Addr.add]
   rw [e2] at this; simpa using this
  ·have := hu.sub (lo := n.toNat) (hi := l.length) (mx := cap) (by omega) (by omega) (by omega) (by omega)
   simpa using this
theorem cTake_len (l : List UInt8) (bad : Bool) (n : Nat) : (cTake l bad n).1.length ≤ n := by
 unfold cTake; split <;> simp; omega
theorem numPost_lt (l : List UInt8) (bad : Bool) (n : Nat) (h : n ≤ 4) : (leN (cTake l bad n).1 : Int) ≤ 4294967295 := by
 have h1 := leN_lt (cTake l bad n).1
 have h2 : (256 : Nat) ^ (cTake l bad n).1.length ≤ 256 ^ 4 := Nat.pow_le_pow_right (by omega) (Nat.le_trans (cTake_len l bad n) h)
 omega
def NumPost (w : World) (c : Nat) (v : Value) (l : List UInt8) (bad : Bool) (n : Nat) (k : IntKind) (e : Ending) (w' : World) : Prop :=
 ∃ v', e = .returned (.int k (leN (cTake l bad n).1 : Nat)) ∧ Hp w [⟨c, [v', .bool (cTake l bad n).2.2], 66⟩] w' ∧ ∀ u, Bs u v l → Bs u v' (cTake l bad n).2.1
set_option maxHeartbeats 400000 in
theorem number_any (c : Nat) (v : Value) (l : List UInt8) (bad : Bool) (n : Nat) (hn : n ≤ 4) (w : World) (h : w.heap[c]? = some (.cells #[v, .bool bad] 66 (0,0))) (hv : Bs w v l) :
  Calls Tryd.prog 28 #[.pointer (some ⟨c, 0, none⟩), .int .i64 n] w (NumPost w c v l bad n .u32) := by
 refine enter (args := [_, _]) (Γ := [(0, _), (1, _)]) Tryd.func28 Tryd.ntmps28 rfl (of_decide_eq_true rfl) (.cons rfl (.cons rfl .nil)) ?_
 refine St.cls (C' := Hp w [⟨c, [v, .bool bad], 66⟩]) (fun _ h' => Hp.open h' h) ?_
 repeat' first | refine Wl.move rfl rfl ?_ | refine Wl.assign rfl rfl ?_ | apply Wl.nil | apply St.seq | apply St.region | apply Gt.next
 apply Wl.callC
 exact rfl
 (focus repeat constructor)
 intro w1 h1
 refine (take_any c v l bad n w1 w (h1.own.at (by repeat constructor)) hv).mono ?_
 rintro e w2 ⟨x, v', rfl, hp, hx⟩
 refine ⟨_, _, rfl, h1.callSet (by repeat constructor) hp, ?_⟩
 obtain ⟨hxb, hvb⟩ := hx w hv
 obtain ⟨a, cap, rfl, hl, hm⟩ := hxb.shape
 repeat' first | refine Wl.move rfl rfl ?_ | refine Wl.len rfl rfl ?_ | apply Wl.nil | apply St.block | apply Gt.next
 generalize ht : (cTake l bad n).1 = t at *
 have ht4 : t.length ≤ 4 := by subst ht; unfold cTake; split <;> simp; omega
 refine St.loop (σ := Nat) (fun k => k ≤ t.length) (fun k => [(5, .int .u32 (leN (t.take k) : Nat)), (10, .slice a t.length cap), (11, .int .i64 t.length), (12, .int .i64 k)]) (fun _ => Hp w [⟨c, [v', .bool (cTake l bad n).2.2], 66⟩]) (fun k => t.length - k)
  0 (Nat.zero_le _) (by repeat constructor) (fun _ h => h) ?_
 intro k hk
 repeat' first | refine Wl.move rfl rfl ?_ | refine Wl.assign rfl rfl ?_ | refine Wl.lss rfl rfl rfl ?_ | apply Wl.nil | apply St.seq | apply St.block | apply St.region | apply St.ret | apply St.skip | apply St.exit | apply Gt.next | apply Gt.thenExit | apply Gt.inExit | (apply Gt.out1; exact rfl; exact rfl; intro w' hp) | (apply St.condP; exact rfl; all_goals (intros; try (exfalso; omega)))
 ·have hlt : k < t.length := by omega
  obtain ⟨b, off, rfl, hc⟩ := hxb.cells (List.ne_nil_of_length_pos (by omega))
  have hck := hc k hlt
  have hcb : c ≠ b := fun e => by
   subst e
   have h0 := hc 0 (by omega)
   rw [cellAt h] at h0
   obtain ⟨a', cap', rfl, _⟩ := hv.shape
   rcases off with _ | _ | off <;> simp at h0
  repeat' first | refine Wl.move rfl rfl ?_ | refine Wl.assign rfl rfl ?_ | (apply Wl.loadO; exact rfl; exact rfl; (assumption); (repeat (first | exact trivial | refine ⟨by first | assumption | omega, ?_⟩))) | (refine Wl.addI rfl rfl rfl ?_ ?_; constructor <;> omega) | (refine Wl.mulI rfl rfl rfl ?_ ?_; constructor <;> omega) | refine Wl.or rfl rfl rfl ?_ | (refine Wl.shl rfl rfl rfl ?_ ?_; omega) | refine Wl.convI rfl rfl ?_ | (refine Wl.indexAddr1 rfl rfl rfl ?_ ?_; constructor <;> omega) | apply Wl.nil | apply St.region | apply Gt.next | apply Gt.inNormal
  have hk4 : k < 4 := by omega
  refine Gt.round (k + 1) hlt (by omega) (Sub.cons' rfl ?_ (by repeat constructor)) (fun _ h => h)
  congr 1
  rw [List.take_succ_eq_append_getElem hlt, leN_append, List.length_take_of_le (by omega)]
  have hb := t[k].toNat_lt
  have ha := leN_lt (t.take k)
  rw [List.length_take_of_le (by omega)] at ha
  have e1 : (8 * (k : Int)).toNat = 8 * k := by omega
  have e2 : IntKind.u32.wrap (t[k].toNat : Int) = (t[k].toNat : Int) := IntWalk.u32_in _ (by omega)
  have hp8 : t[k].toNat * 2 ^ (8 * k) < 2 ^ 32 := by
   have : k = 0 ∨ k = 1 ∨ k = 2 ∨ k = 3 := by omega
   rcases this with rfl | rfl | rfl | rfl <;> simp <;> omega
  have e3 : min (8 * k) IntKind.u32.bits = 8 * k := Nat.min_eq_left (by simp [IntKind.bits]; omega)
  have e4 : IntKind.u32.wrap ((t[k].toNat : Int) * 2 ^ (8 * k)) = ((t[k].toNat * 2 ^ (8 * k) : Nat) : Int) := by
   rw [show ((t[k].toNat : Int) * 2 ^ (8 * k)) = ((t[k].toNat * 2 ^ (8 * k) : Nat) : Int) by simp]
   exact IntWalk.u32_in _ (by omega)
  have e5 : (256 : Nat) ^ k = 2 ^ (8 * k) := by rw [show (256 : Nat) = 2 ^ 8 from rfl, ← Nat.pow_mul]
  rw [e5] at ha
  have hp32 : (2 : Nat) ^ (8 * k) ≤ 2 ^ 32 := Nat.pow_le_pow_right (by omega) (by omega)
  rw [e2, e1, e3, e4, bitsOr_nat .u32 rfl _ _ (by simp only [IntKind.bits]; omega) (by simp only [IntKind.bits]; omega), or_disjoint _ _ _ ha, e5]
  simp [leN, Nat.mul_comm]
 ·have : k = t.length := by omega
  subst this
  rw [List.take_length]
  exact ⟨v', by rw [ht], hp, fun u hu => (hx u hu).2⟩
set_option maxHeartbeats 400000 in
theorem u8_any (c : Nat) (v : Value) (l : List UInt8) (bad : Bool) (w : World) (h : w.heap[c]? = some (.cells #[v, .bool bad] 66 (0,0))) (hv : Bs w v l) :
  Calls Tryd.prog 24 #[.pointer (some ⟨c, 0, none⟩)] w (NumPost w c v l bad 1 .i64) := by
 have hlt := numPost_lt l bad 1 (by omega)
 refine enter (args := [_]) (Γ := [(0, _)]) Tryd.func24 Tryd.ntmps24 rfl (of_decide_eq_true rfl) (.cons rfl .nil) ?_
 repeat' first | refine Wl.move rfl rfl ?_ | refine Wl.assign rfl rfl ?_ | apply Wl.nil | apply St.seq | apply St.region | apply Gt.next
 apply Wl.callC
 exact rfl
 (focus repeat constructor)
 intro w1 h1
 refine (number_any c v l bad 1 (by omega) w1 (h1.upd.heap h fun x => x trivial) (hv.upd h1.upd fun _ _ _ _ x => x trivial)).mono ?_
 rintro e w2 ⟨v', rfl, hp, hx⟩
 refine ⟨_, _, rfl, hp, ?_⟩
 repeat' first | refine Wl.assign rfl rfl ?_ | (refine Wl.convI64 rfl rfl ?_ ?_; constructor <;> omega) | apply Wl.nil | apply St.ret | apply Gt.next | (apply Gt.out1; exact rfl; exact rfl; intro w' hp)
 exact ⟨v', rfl, ⟨(h1.upd.mono fun _ _ x => (x trivial).elim).trans hp.upd, hp.own, hp.apart⟩, hx⟩
set_option maxHeartbeats 400000 in
theorem u16_any (c : Nat) (v : Value) (l : List UInt8) (bad : Bool) (w : World) (h : w.heap[c]? = some (.cells #[v, .bool bad] 66 (0,0))) (hv : Bs w v l) :
  Calls Tryd.prog 25 #[.pointer (some ⟨c, 0, none⟩)] w (NumPost w c v l bad 2 .i64) := by
 have hlt := numPost_lt l bad 2 (by omega)
 refine enter (args := [_]) (Γ := [(0, _)]) Tryd.func25 Tryd.ntmps25 rfl (of_decide_eq_true rfl) (.cons rfl .nil) ?_
 repeat' first | refine Wl.move rfl rfl ?_ | refine Wl.assign rfl rfl ?_ | apply Wl.nil | apply St.seq | apply St.region | apply Gt.next
 apply Wl.callC
 exact rfl
 (focus repeat constructor)
 intro w1 h1
 refine (number_any c v l bad 2 (by omega) w1 (h1.upd.heap h fun x => x trivial) (hv.upd h1.upd fun _ _ _ _ x => x trivial)).mono ?_
 rintro e w2 ⟨v', rfl, hp, hx⟩
 refine ⟨_, _, rfl, hp, ?_⟩
 repeat' first | refine Wl.assign rfl rfl ?_ | (refine Wl.convI64 rfl rfl ?_ ?_; constructor <;> omega) | apply Wl.nil | apply St.ret | apply Gt.next | (apply Gt.out1; exact rfl; exact rfl; intro w' hp)
 exact ⟨v', rfl, ⟨(h1.upd.mono fun _ _ x => (x trivial).elim).trans hp.upd, hp.own, hp.apart⟩, hx⟩
set_option maxHeartbeats 400000 in
theorem u32_any (c : Nat) (v : Value) (l : List UInt8) (bad : Bool) (w : World) (h : w.heap[c]? = some (.cells #[v, .bool bad] 66 (0,0))) (hv : Bs w v l) :
  Calls Tryd.prog 13 #[.pointer (some ⟨c, 0, none⟩)] w (NumPost w c v l bad 4 .u32) := by
 have hlt := numPost_lt l bad 4 (by omega)
 refine enter (args := [_]) (Γ := [(0, _)]) Tryd.func13 Tryd.ntmps13 rfl (of_decide_eq_true rfl) (.cons rfl .nil) ?_
 repeat' first | refine Wl.move rfl rfl ?_ | refine Wl.assign rfl rfl ?_ | apply Wl.nil | apply St.seq | apply St.region | apply Gt.next
 apply Wl.callC
 exact rfl
 (focus repeat constructor)
 intro w1 h1
 refine (number_any c v l bad 4 (by omega) w1 (h1.upd.heap h fun x => x trivial) (hv.upd h1.upd fun _ _ _ _ x => x trivial)).mono ?_
 rintro e w2 ⟨v', rfl, hp, hx⟩
 refine ⟨_, _, rfl, hp, ?_⟩
 repeat' first | refine Wl.assign rfl rfl ?_ | apply Wl.nil | apply St.ret | apply Gt.next | (apply Gt.out1; exact rfl; exact rfl; intro w' hp)
 exact ⟨v', rfl, ⟨(h1.upd.mono fun _ _ x => (x trivial).elim).trans hp.upd, hp.own, hp.apart⟩, hx⟩
set_option maxHeartbeats 400000 in
theorem bad_any (c : Nat) (v : Value) (bad : Bool) (w : World) (h : w.heap[c]? = some (.cells #[v, .bool bad] 66 (0,0))) :
  Calls Tryd.prog 14 #[.pointer (some ⟨c, 0, none⟩)] w fun e w' => e = .returned (.bool bad) ∧ Hp w [] w' := by
 refine enter (args := [_]) (Γ := [(0, _)]) Tryd.func14 Tryd.ntmps14 rfl (of_decide_eq_true rfl) (.cons rfl .nil) ?_
 have h1 := cellAt h 1
 simp at h1
 repeat' first | refine Wl.move rfl rfl ?_ | refine Wl.assign rfl rfl ?_ | (apply Wl.on; exact rfl; exact rfl; (first | rfl | assumption)) | refine Wl.nilCheck rfl rfl ?_ | (apply Wl.pickF; exact rfl; exact rfl; (first | rfl | assumption); exact rfl) | refine Wl.fieldAddrZ rfl rfl ?_ | (apply Wl.loadO; exact rfl; exact rfl; (assumption); (repeat (first | exact trivial | refine ⟨by first | assumption | omega, ?_⟩))) | refine Wl.eqlPN rfl rfl rfl ?_ | apply Wl.nil | apply St.seq | apply St.region | apply St.ret | apply Gt.next | (apply Gt.out1; exact rfl; exact rfl; intro w' hp)
 exact ⟨rfl, hp⟩
set_option maxHeartbeats 400000 in
theorem end_any (c : Nat) (v : Value) (l : List UInt8) (bad : Bool) (w u : World) (h : w.heap[c]? = some (.cells #[v, .bool bad] 66 (0,0))) (hu : Bs u v l) :
  Calls Tryd.prog 17 #[.pointer (some ⟨c, 0, none⟩)] w fun e w' => e = .returned (.bool (!bad && decide (l = []))) ∧ Hp w [] w' := by
 obtain ⟨a, cap, rfl, hl, hm⟩ := hu.shape
 have h0 := cellAt h 0
 simp at h0
 refine enter (args := [_]) (Γ := [(0, _)]) Tryd.func17 Tryd.ntmps17 rfl (of_decide_eq_true rfl) (.cons rfl .nil) ?_
 repeat' first | refine Wl.move rfl rfl ?_ | refine Wl.assign rfl rfl ?_ | apply Wl.nil | apply St.seq | apply St.region | apply Gt.next
 apply Wl.callQ
 exact rfl
 (focus repeat constructor)
 ·intro w1 h1
  refine (bad_any c _ bad w1 (h1.upd.heap h fun x => x trivial)).mono ?_
  rintro e w2 ⟨rfl, hp⟩
  exact ⟨rfl, h1.step hp.upd (by simp) (by simp [Off])⟩
 repeat' first | refine Wl.move rfl rfl ?_ | refine Wl.assign rfl rfl ?_ | (apply Wl.on; exact rfl; exact rfl; (first | rfl | assumption)) | (apply Wl.off; exact rfl; exact rfl; exact rfl; (first | rfl | assumption)) | refine Wl.nilCheck rfl rfl ?_ | (apply Wl.pickT; exact rfl; exact rfl; (first | rfl | assumption); exact rfl) | (apply Wl.pickF; exact rfl; exact rfl; (first | rfl | assumption); exact rfl) | refine Wl.not rfl rfl ?_ | refine Wl.fieldAddr0 rfl rfl ?_ | (apply Wl.loadO; exact rfl; exact rfl; (assumption); (repeat (first | exact trivial | refine ⟨by first | assumption | omega, ?_⟩))) | refine Wl.eql rfl rfl rfl ?_ | refine Wl.len rfl rfl ?_ | apply Wl.nil | apply St.ret | apply Gt.next | (apply Gt.out1; exact rfl; exact rfl; intro w' hp) | (apply Wl.splitB; exact rfl; exact rfl; all_goals intros)
 all_goals refine ⟨?_, hp⟩
 ·have e1 : bad = false := by simpa using ‹(!bad) = true›
  subst e1
  simp
 ·have e1 : bad = true := by simpa using ‹(!bad) = false›
  subst e1
  rfl
set_option maxHeartbeats 400000 in
theorem at_any (v : Value) (l : List UInt8) (w u : World) (h : Bs u v l) :
  Calls Tryd.prog 11 #[v] w fun e w' => ∃ c, e = .returned (.pointer (some ⟨c, 0, none⟩)) ∧ w.heap.size ≤ c ∧ Hp w [⟨c, [v, .bool false], 66⟩] w' := by
 obtain ⟨a, cap, rfl, _⟩ := h.shape
 refine enter (args := [_]) (Γ := [(0, _)]) Tryd.func11 Tryd.ntmps11 rfl (of_decide_eq_true rfl) (.cons rfl .nil) ?_
 repeat' first | refine Wl.move rfl rfl ?_ | refine Wl.assign rfl rfl ?_ | (apply Wl.buildS; exact rfl; (repeat (first | exact Parts.nil | apply Parts.cons rfl)); (repeat (first | apply Fills.nil | (apply Fills.one; exact rfl; exact rfl; (repeat (first | apply LSet.z | apply LSet.s))) | (apply Fills.agg; exact rfl; exact rfl; (repeat (first | apply LPut.s | apply LPut.z | apply LOver.nil | apply LOver.cons)))))) | (apply Wl.boxA; exact rfl; exact rfl; intro c hc ho) | apply Wl.nil | apply St.seq | apply St.region | apply St.ret | apply Gt.next | (apply Gt.out1; exact rfl; exact rfl; intro w' hp)
 exact ⟨c, rfl, hc, hp⟩
theorem u8_at (c : Nat) (v : Value) (l : List UInt8) (bad : Bool) (w : World) {t r : List UInt8} {b : Bool} {x : Int} (ht : cTake l bad 1 = (t, r, b)) (hx : (leN t : Int) = x) (h : w.heap[c]? = some (.cells #[v, .bool bad] 66 (0,0))) (hv : Bs w v l) :
  Calls Tryd.prog 24 #[.pointer (some ⟨c, 0, none⟩)] w fun e w' => ∃ v', e = .returned (.int .i64 x) ∧ Hp w [⟨c, [v', .bool b], 66⟩] w' ∧ ∀ u, Bs u v l → Bs u v' r := by
 have := u8_any c v l bad w h hv
 have ht' : cTake l bad ((1 : Nat) : Int) = (t, r, b) := ht
 unfold NumPost at this
 rw [ht', hx] at this
 exact this
theorem u16_at (c : Nat) (v : Value) (l : List UInt8) (bad : Bool) (w : World) {t r : List UInt8} {b : Bool} {x : Int} (ht : cTake l bad 2 = (t, r, b)) (hx : (leN t : Int) = x) (h : w.heap[c]? = some (.cells #[v, .bool bad] 66 (0,0))) (hv : Bs w v l) :
  Calls Tryd.prog 25 #[.pointer (some ⟨c, 0, none⟩)] w fun e w' => ∃ v', e = .returned (.int .i64 x) ∧ Hp w [⟨c, [v', .bool b], 66⟩] w' ∧ ∀ u, Bs u v l → Bs u v' r := by
 have := u16_any c v l bad w h hv
 have ht' : cTake l bad ((2 : Nat) : Int) = (t, r, b) := ht
 unfold NumPost at this
 rw [ht', hx] at this
 exact this
theorem u32_at (c : Nat) (v : Value) (l : List UInt8) (bad : Bool) (w : World) {t r : List UInt8} {b : Bool} {x : Int} (ht : cTake l bad 4 = (t, r, b)) (hx : (leN t : Int) = x) (h : w.heap[c]? = some (.cells #[v, .bool bad] 66 (0,0))) (hv : Bs w v l) :
  Calls Tryd.prog 13 #[.pointer (some ⟨c, 0, none⟩)] w fun e w' => ∃ v', e = .returned (.int .u32 x) ∧ Hp w [⟨c, [v', .bool b], 66⟩] w' ∧ ∀ u, Bs u v l → Bs u v' r := by
 have := u32_any c v l bad w h hv
 have ht' : cTake l bad ((4 : Nat) : Int) = (t, r, b) := ht
 unfold NumPost at this
 rw [ht', hx] at this
 exact this
end Go.Proofs.YtmjlceimjlabpaaDoor
end
section
namespace Go.Proofs.YtmjlceimjlabpaaDoor
open Go.RowKit Go.Pt
def rTake (l : List UInt8) (p : Nat) (bad : Bool) (n : Int) : List UInt8 × Nat × Bool :=
 if bad = true ∨ n < 0 ∨ (l.length : Int) - p < n then ([], p, true) else ((l.drop p).take n.toNat, p + n.toNat, false)
def RTakePost (w : World) (c : Nat) (v : Value) (l : List UInt8) (p : Nat) (bad : Bool) (n : Int) (e : Ending) (w' : World) : Prop :=
 ∃ x, e = .returned x ∧ Hp w [⟨c, [v, .int .i64 (rTake l p bad n).2.1, .bool (rTake l p bad n).2.2], 55⟩] w' ∧ ∀ u, Bs u v l → Bs u x (rTake l p bad n).1
set_option maxHeartbeats 400000 in
theorem rtake_any (c : Nat) (v : Value) (l : List UInt8) (p : Nat) (bad : Bool) (n : Int) (w u : World) (h : w.heap[c]? = some (.cells #[v, .int .i64 p, .bool bad] 55 (0,0))) (hv : Bs u v l) (hpl : p ≤ l.length) :
  Calls Tryd.prog 18 #[.pointer (some ⟨c, 0, none⟩), .int .i64 n] w (RTakePost w c v l p bad n) := by
 obtain ⟨a, cap, rfl, hl, hm⟩ := hv.shape
 unfold maxLen at hm
 refine enter (args := [_, _]) (Γ := [(0, _), (1, _)]) Tryd.func18 Tryd.ntmps18 rfl (of_decide_eq_true rfl) (.cons rfl (.cons rfl .nil)) ?_
 refine St.cls (C' := Hp w [⟨c, [.slice a l.length cap, .int .i64 p, .bool bad], 55⟩]) (fun _ h' => Hp.open h' h) ?_
 repeat' first | refine Wl.move rfl rfl ?_ | refine Wl.assign rfl rfl ?_ | (apply Wl.on; exact rfl; exact rfl; (first | rfl | assumption)) | (apply Wl.off; exact rfl; exact rfl; exact rfl; (first | rfl | assumption)) | refine Wl.nilCheck rfl rfl ?_ | (apply Wl.pickT; exact rfl; exact rfl; (first | rfl | assumption); exact rfl) | (apply Wl.pickF; exact rfl; exact rfl; (first | rfl | assumption); exact rfl) | refine Wl.fieldAddr0 rfl rfl ?_ | refine Wl.fieldAddrZ rfl rfl ?_ | (apply Wl.loadH; exact rfl; exact rfl; (focus repeat constructor); exact rfl) | refine Wl.lss rfl rfl rfl ?_ | refine Wl.gtr rfl rfl rfl ?_ | (refine Wl.addI rfl rfl rfl ?_ ?_; constructor <;> omega) | (refine Wl.subI rfl rfl rfl ?_ ?_; constructor <;> omega) | refine Wl.len rfl rfl ?_ | (apply Wl.store; exact rfl; exact rfl; exact rfl; (focus repeat constructor); (repeat (first | apply LSet.z | apply LSet.s))) | (apply Wl.sliceFull; exact rfl; exact rfl; (first | exact BoundIs.no | exact BoundIs.yes rfl (by omega)); (first | exact BoundIs.no | exact BoundIs.yes rfl (by omega)); (first | exact BoundIs.no | exact BoundIs.yes rfl (by omega)); (first | exact fun _ => rfl | exact fun h => nomatch h);omega;omega;omega) | apply Wl.nil | apply Wl.nilQ | apply St.seq | apply St.region | (apply St.draw; exact mixed; (kernel_rfl); exact (fun _ h => Hp.drew h)) | (apply St.condT; exact rfl; (first | rfl | assumption)) | apply St.ret | apply St.skip | apply Gt.next | apply Gt.thenRet | (apply Gt.out1; exact rfl; exact rfl; intro w' hp) | (apply Wl.splitP; exact rfl; exact rfl; all_goals (intros; try (exfalso; omega))) | (apply Wl.splitB; exact rfl; exact rfl; all_goals intros) | (apply St.condP; exact rfl; all_goals (intros; try (exfalso; omega)))
 ·have e : rTake l p bad n = ([], p, true) := if_pos (.inl ‹bad = true›)
  rw [RTakePost, e]; exact ⟨_, rfl, hp, fun u _ => Bs.nil u⟩
 ·have e : rTake l p bad n = ([], p, true) := if_pos (.inr (.inl ‹n < 0›))
  rw [RTakePost, e]; exact ⟨_, rfl, hp, fun u _ => Bs.nil u⟩
 ·have e : rTake l p bad n = ([], p, true) := if_pos (.inr (.inr ‹(l.length : Int) - p < n›))
  rw [RTakePost, e]; exact ⟨_, rfl, hp, fun u _ => Bs.nil u⟩
 ·have hb : bad = false := ‹bad = false›
  subst hb
  have e : rTake l p false n = ((l.drop p).take n.toNat, p + n.toNat, false) := if_neg (by simp; omega)
  obtain ⟨m, rfl⟩ := Int.eq_ofNat_of_zero_le (show 0 ≤ n by omega)
  rw [RTakePost, e]
  have e1 : ((p : Int) + m - m).toNat = p := by omega
  have e2 : ((p : Int) + m).toNat = p + m := by omega
  simp only [e1, e2, Int.toNat_natCast]
  refine ⟨_, rfl, hp, fun u hu => ?_⟩
  have := hu.sub (lo := p) (hi := p + m) (mx := cap) (by omega) (by omega) (by omega) (by omega)
  rw [List.drop_take] at this
  rwa [show p + m - p = m by omega] at this ⊢
def RNumPost (w : World) (c : Nat) (v : Value) (l : List UInt8) (p : Nat) (bad : Bool) (n : Nat) (e : Ending) (w' : World) : Prop :=
 e = .returned (.int .i64 (leN (rTake l p bad n).1 : Nat)) ∧ Hp w [⟨c, [v, .int .i64 (rTake l p bad n).2.1, .bool (rTake l p bad n).2.2], 55⟩] w'
theorem rTake_len (l : List UInt8) (p : Nat) (bad : Bool) (n : Nat) : (rTake l p bad n).1.length ≤ n := by
 unfold rTake; split <;> simp; omega
set_option maxHeartbeats 400000 in
theorem rnum_any (c : Nat) (v : Value) (l : List UInt8) (p : Nat) (bad : Bool) (n : Nat) (hn : n ≤ 4) (w : World) (h : w.heap[c]? = some (.cells #[v, .int .i64 p, .bool bad] 55 (0,0))) (hv : Bs w v l) (hpl : p ≤ l.length) :
  Calls Tryd.prog 19 #[.pointer (some ⟨c, 0, none⟩), .int .i64 n] w (RNumPost w c v l p bad n) := by
 refine enter (args := [_, _]) (Γ := [(0, _), (1, _)]) Tryd.func19 Tryd.ntmps19 rfl (of_decide_eq_true rfl) (.cons rfl (.cons rfl .nil)) ?_
 refine St.cls (C' := Hp w [⟨c, [v, .int .i64 p, .bool bad], 55⟩]) (fun _ h' => Hp.open h' h) ?_
 repeat' first | refine Wl.move rfl rfl ?_ | refine Wl.assign rfl rfl ?_ | apply Wl.nil | apply St.seq | apply St.region | apply Gt.next
 apply Wl.callC
 exact rfl
 (focus repeat constructor)
 intro w1 h1
 refine (rtake_any c v l p bad n w1 w (h1.own.at (by repeat constructor)) hv hpl).mono ?_
 rintro e w2 ⟨x, rfl, hp, hx⟩
 refine ⟨_, _, rfl, h1.callSet (by repeat constructor) hp, ?_⟩
 have hxb := hx w hv
 obtain ⟨a, cap, rfl, hl, hm⟩ := hxb.shape
 have ht4 := rTake_len l p bad n
 generalize ht : (rTake l p bad n).1 = t at *
 repeat' first | refine Wl.move rfl rfl ?_ | refine Wl.assign rfl rfl ?_ | (refine Wl.subI rfl rfl rfl ?_ ?_; constructor <;> omega) | refine Wl.len rfl rfl ?_ | apply Wl.nil | apply St.seq | apply St.block | apply St.region | apply Gt.next
 refine St.loop (σ := Nat) (fun k => k ≤ t.length) (fun k => [(5, .int .i64 (leN (t.drop k) : Nat)), (6, .slice a t.length cap), (7, .int .i64 ((k : Int) - 1))]) (fun _ => Hp w [⟨c, [v, .int .i64 (rTake l p bad n).2.1, .bool (rTake l p bad n).2.2], 55⟩]) (fun k => k)
  t.length (Nat.le_refl _) (Sub.cons' rfl (by simp [leN]) (by repeat constructor)) (fun _ h => h) ?_
 intro k hk
 have hlen := leN_lt (t.drop k)
 have hp3 : (256 : Nat) ^ (t.drop k).length ≤ 256 ^ 4 := Nat.pow_le_pow_right (by omega) (by simp; omega)
 repeat' first | refine Wl.move rfl rfl ?_ | refine Wl.assign rfl rfl ?_ | refine Wl.geq rfl rfl rfl ?_ | (refine Wl.mulI rfl rfl rfl ?_ ?_; constructor <;> omega) | apply Wl.nil | apply St.seq | apply St.block | apply St.region | apply St.ret | apply St.skip | apply St.exit | apply Gt.next | apply Gt.thenExit | apply Gt.inExit | (apply Gt.out1; exact rfl; exact rfl; intro w' hp) | (apply St.condP; exact rfl; all_goals (intros; try (exfalso; omega)))
 ·obtain ⟨k, rfl⟩ : ∃ j, k = j + 1 := ⟨k - 1, by omega⟩
  have hlt : k < t.length := by omega
  obtain ⟨b, off, rfl, hc⟩ := hxb.cells (List.ne_nil_of_length_pos (by omega))
  have hck := hc k hlt
  have hcb : c ≠ b := fun e => by
   subst e
   have h0 := hc 0 (by omega)
   rw [cellAt h] at h0
   obtain ⟨a', cap', rfl, _⟩ := hv.shape
   rcases off with _ | _ | _ | off <;> simp at h0
  have ek : ((k + 1 : Nat) : Int) - 1 = k := by omega
  rw [ek]
  have hb := t[k].toNat_lt
  repeat' first | refine Wl.move rfl rfl ?_ | refine Wl.assign rfl rfl ?_ | (apply Wl.loadO; exact rfl; exact rfl; (assumption); (repeat (first | exact trivial | refine ⟨by first | assumption | omega, ?_⟩))) | (refine Wl.addI rfl rfl rfl ?_ ?_; constructor <;> omega) | (refine Wl.subI rfl rfl rfl ?_ ?_; constructor <;> omega) | (refine Wl.convI64 rfl rfl ?_ ?_; constructor <;> omega) | (refine Wl.indexAddr1 rfl rfl rfl ?_ ?_; constructor <;> omega) | apply Wl.nil | apply St.region | apply Gt.next | apply Gt.inNormal
  refine Gt.round k (by omega) (by omega) (Sub.cons' rfl ?_ (by repeat constructor)) (fun _ h => h)
  congr 1
  rw [List.drop_eq_getElem_cons hlt]
  simp only [leN]
  omega
 ·have : k = 0 := by omega
  subst this
  exact ⟨by rw [ht]; simp, hp⟩
set_option maxHeartbeats 400000 in
theorem rend_any (c : Nat) (v : Value) (l : List UInt8) (p : Nat) (bad : Bool) (w u : World) (h : w.heap[c]? = some (.cells #[v, .int .i64 p, .bool bad] 55 (0,0))) (hv : Bs u v l) :
  Calls Tryd.prog 23 #[.pointer (some ⟨c, 0, none⟩)] w fun e w' => e = .returned (.bool (!bad && decide (p = l.length))) ∧ Hp w [] w' := by
 obtain ⟨a, cap, rfl, hl, hm⟩ := hv.shape
 have h0 := cellAt h 0
 have h1 := cellAt h 1
 have h2 := cellAt h 2
 simp at h0 h1 h2
 refine enter (args := [_]) (Γ := [(0, _)]) Tryd.func23 Tryd.ntmps23 rfl (of_decide_eq_true rfl) (.cons rfl .nil) ?_
 repeat' first | refine Wl.move rfl rfl ?_ | refine Wl.assign rfl rfl ?_ | (apply Wl.on; exact rfl; exact rfl; (first | rfl | assumption)) | (apply Wl.off; exact rfl; exact rfl; exact rfl; (first | rfl | assumption)) | refine Wl.nilCheck rfl rfl ?_ | (apply Wl.pickT; exact rfl; exact rfl; (first | rfl | assumption); exact rfl) | (apply Wl.pickF; exact rfl; exact rfl; (first | rfl | assumption); exact rfl) | refine Wl.not rfl rfl ?_ | refine Wl.fieldAddr0 rfl rfl ?_ | refine Wl.fieldAddrZ rfl rfl ?_ | (apply Wl.loadO; exact rfl; exact rfl; (assumption); (repeat (first | exact trivial | refine ⟨by first | assumption | omega, ?_⟩))) | refine Wl.eql rfl rfl rfl ?_ | refine Wl.len rfl rfl ?_ | apply Wl.nil | apply Wl.nilQ | apply St.seq | apply St.region | (apply St.draw; exact mixed; (kernel_rfl); exact (fun _ h => Hp.drew h)) | apply St.ret | apply Gt.next | (apply Gt.out1; exact rfl; exact rfl; intro w' hp) | (apply Wl.splitB; exact rfl; exact rfl; all_goals intros)
 ·have e1 : bad = false := by simpa using ‹(!bad) = true›
  subst e1
  exact ⟨by congr 2; simp; omega, hp⟩
 ·have e1 : bad = true := by simpa using ‹(!bad) = false›
  subst e1
  exact ⟨rfl, hp⟩
def inB (a n b m : Int) : Bool := decide (b ≤ a ∧ a + n ≤ b + m)
def apB (a n b m : Int) : Bool := decide (n = 0 ∨ m = 0 ∨ a + n ≤ b ∨ b + m ≤ a)
def U32 (x : Int) : Prop := 0 ≤ x ∧ x ≤ 4294967295
instance (x : Int) : Decidable (U32 x) := by unfold U32; infer_instance
set_option maxHeartbeats 400000 in
theorem within_any (a n b m : Int) (w : World) (ha : U32 a) (hn : U32 n) (hb : U32 b) (hm : U32 m) :
  Calls Tryd.prog 92 #[.int .u32 a, .int .u32 n, .int .u32 b, .int .u32 m] w fun e w' => e = .returned (.bool (inB a n b m)) ∧ Hp w [] w' := by
 unfold U32 at *
 refine enter (args := [_, _, _, _]) (Γ := [(0, _), (1, _), (2, _), (3, _)]) Tryd.func92 Tryd.ntmps92 rfl (of_decide_eq_true rfl) (.cons rfl (.cons rfl (.cons rfl (.cons rfl .nil)))) ?_
 repeat' first | refine Wl.move rfl rfl ?_ | refine Wl.assign rfl rfl ?_ | (apply Wl.on; exact rfl; exact rfl; (first | rfl | assumption)) | (apply Wl.off; exact rfl; exact rfl; exact rfl; (first | rfl | assumption)) | (apply Wl.pickT; exact rfl; exact rfl; (first | rfl | assumption); exact rfl) | (apply Wl.pickF; exact rfl; exact rfl; (first | rfl | assumption); exact rfl) | refine Wl.leq rfl rfl rfl ?_ | refine Wl.geq rfl rfl rfl ?_ | (refine Wl.addU rfl rfl rfl ?_ ?_; constructor <;> omega) | (refine Wl.convU64 rfl rfl ?_ ?_; constructor <;> omega) | apply Wl.nil | apply St.seq | apply St.region | apply St.ret | apply Gt.next | (apply Gt.out1; exact rfl; exact rfl; intro w' hp) | (apply Wl.splitP; exact rfl; exact rfl; all_goals (intros; try (exfalso; omega)))
 all_goals refine ⟨congrArg (fun b => Ending.returned (.bool b)) ?_, hp⟩; unfold inB; rw [Bool.eq_iff_iff]; simp only [decide_eq_true_eq, Bool.false_eq_true, true_iff, false_iff]; omega
set_option maxHeartbeats 400000 in
theorem apart_any (a n b m : Int) (w : World) (ha : U32 a) (hn : U32 n) (hb : U32 b) (hm : U32 m) :
  Calls Tryd.prog 62 #[.int .u32 a, .int .u32 n, .int .u32 b, .int .u32 m] w fun e w' => e = .returned (.bool (apB a n b m)) ∧ Hp w [] w' := by
 unfold U32 at *
 refine enter (args := [_, _, _, _]) (Γ := [(0, _), (1, _), (2, _), (3, _)]) Tryd.func62 Tryd.ntmps62 rfl (of_decide_eq_true rfl) (.cons rfl (.cons rfl (.cons rfl (.cons rfl .nil)))) ?_
 repeat' first | refine Wl.move rfl rfl ?_ | refine Wl.assign rfl rfl ?_ | (apply Wl.on; exact rfl; exact rfl; (first | rfl | assumption)) | (apply Wl.off; exact rfl; exact rfl; exact rfl; (first | rfl | assumption)) | (apply Wl.pickT; exact rfl; exact rfl; (first | rfl | assumption); exact rfl) | (apply Wl.pickF; exact rfl; exact rfl; (first | rfl | assumption); exact rfl) | refine Wl.eql rfl rfl rfl ?_ | refine Wl.leq rfl rfl rfl ?_ | (refine Wl.addU rfl rfl rfl ?_ ?_; constructor <;> omega) | (refine Wl.convU64 rfl rfl ?_ ?_; constructor <;> omega) | apply Wl.nil | apply St.seq | apply St.region | apply St.ret | apply Gt.next | (apply Gt.out1; exact rfl; exact rfl; intro w' hp) | (apply Wl.splitP; exact rfl; exact rfl; all_goals (intros; try (exfalso; omega)))
 all_goals refine ⟨congrArg (fun b => Ending.returned (.bool b)) ?_, hp⟩; unfold apB; rw [Bool.eq_iff_iff]; simp only [decide_eq_true_eq, Bool.false_eq_true, true_iff, false_iff]; omega
set_option maxHeartbeats 400000 in
theorem rapart_any (a n b m : Int) (w : World) (ha : U32 a) (hn : U32 n) (hb : U32 b) (hm : U32 m) :
  Calls Tryd.prog 80 #[.int .i64 a, .int .i64 n, .int .i64 b, .int .i64 m] w fun e w' => e = .returned (.bool (apB a n b m)) ∧ Hp w [] w' := by
 unfold U32 at *
 refine enter (args := [_, _, _, _]) (Γ := [(0, _), (1, _), (2, _), (3, _)]) Tryd.func80 Tryd.ntmps80 rfl (of_decide_eq_true rfl) (.cons rfl (.cons rfl (.cons rfl (.cons rfl .nil)))) ?_
 repeat' first | refine Wl.move rfl rfl ?_ | refine Wl.assign rfl rfl ?_ | refine Wl.lss rfl rfl rfl ?_ | refine Wl.gtr rfl rfl rfl ?_ | refine Wl.geq rfl rfl rfl ?_ | (refine Wl.addI rfl rfl rfl ?_ ?_; constructor <;> omega) | apply Wl.nil | apply St.seq | apply St.region | apply St.ret | apply St.skip | apply Gt.next | (apply Gt.out1; exact rfl; exact rfl; intro w' hp) | (apply St.condP; exact rfl; all_goals (intros; try (exfalso; omega)))
 all_goals refine ⟨congrArg (fun b => Ending.returned (.bool b)) ?_, hp⟩; unfold apB; rw [Bool.eq_iff_iff]; simp only [decide_eq_true_eq, Bool.false_eq_true, true_iff, false_iff]; omega
end Go.Proofs.YtmjlceimjlabpaaDoor
end
section
namespace Go.Proofs.YtmjlceimjlabpaaDoor
open Go.RowKit Go.Pt
def leB : Nat → Nat → List UInt8
 | 0, _ => []
 | n + 1, x => UInt8.ofNat (x % 256) :: leB n (x / 256)
theorem leB_length (n x : Nat) : (leB n x).length = n := by
 induction n generalizing x with
 | zero => rfl
 | succ n ih => simp [leB, ih]
theorem leN_leB (n x : Nat) : leN (leB n x) = x % 256 ^ n := by
 induction n generalizing x with
 | zero => simp [leB, leN, Nat.mod_one]
 | succ n ih =>
  simp only [leB, leN, ih]
  have : (UInt8.ofNat (x % 256)).toNat = x % 256 := by simp
  rw [this, Nat.pow_succ, Nat.mul_comm (256 ^ n) 256, Nat.mod_mul]
def Bo (w : World) (base : Nat) (v : Value) (l : List UInt8) : Prop := w.ownsRow base 5 1 v l.length (byteCells l)
theorem Bo.nil (w : World) (base : Nat) : Bo w base (.slice none 0 0) [] := World.ownsRow_nil w base 5 1
theorem Bo.bs {w : World} {base : Nat} {v : Value} {l : List UInt8} (h : Bo w base v l) : Bs w v l := Sv.ofOwn h
theorem Bo.shape {w : World} {base : Nat} {v : Value} {l : List UInt8} (h : Bo w base v l) : ∃ a cap, v = .slice a l.length cap ∧ l.length ≤ cap ∧ cap ≤ maxLen := h.bs.shape
theorem Bo.base {w : World} {base : Nat} {v : Value} {l : List UInt8} (h : Bo w base v l) {k : Nat} (hk : v.ownBlock = some k) : base ≤ k := (h.lt k hk).1
theorem Bo.upd {S : Nat → Prop} {w w' : World} {base : Nat} {v : Value} {l : List UInt8} (h : Bo w base v l) (u : Upd S w w') (hs : ∀ k, v.ownBlock = some k → ¬ S k) : Bo w' base v l := ownsRow_upd h u hs
theorem Bo.of {w : World} {base : Nat} {v : Value} {l m : List UInt8} {n : Nat} {cs : List Value} (h : w.ownsRow base 5 1 v n (byteCells l ++ cs)) (hn : n = l.length + m.length) (hc : cs = byteCells m) : Bo w base v (l ++ m) := by
 unfold Bo
 subst hc
 rw [List.length_append, ← hn]
 simpa [byteCells] using h
theorem byteCells_all (l : List UInt8) : (byteCells l).all Value.oneCell' = true := by
 rw [List.all_eq_true]
 intro x hx
 simp only [byteCells, List.mem_map] at hx
 obtain ⟨c, _, rfl⟩ := hx
 rfl
theorem u8_cell (x : Int) : (Value.int .u8 (IntKind.u8.wrap x)) = .int .u8 ((UInt8.ofNat (x % 256).toNat).toNat : Int) := by
 congr 1
 rw [IntKind.wrap_u8]
 simp
 omega
theorem wrap8 (x : Int) : IntKind.u8.wrap x = ((UInt8.ofNat (x % 256).toNat).toNat : Int) := by
 rw [IntKind.wrap_u8]; simp; omega
set_option maxHeartbeats 400000 in
theorem p32_any (base : Nat) (v : Value) (l : List UInt8) (x : Int) (hx : U32 x) (w : World) (h : Bo w base v l) (hb : base ≤ w.heap.size) (hl : l.length ≤ 1099511627776) :
  Calls Tryd.prog 27 #[v, .int .u32 x] w fun e w' => ∃ v', e = .returned v' ∧ Bo w' base v' (l ++ leB 4 x.toNat) ∧ Upd (fun k => v.ownBlock = some k) w w' := by
 obtain ⟨a, cap, rfl, hlc, hm⟩ := h.shape
 unfold U32 at hx
 refine enter (args := [_, _]) (Γ := [(0, _), (1, _)]) Tryd.func27 Tryd.ntmps27 rfl (of_decide_eq_true rfl) (.cons rfl (.cons rfl .nil)) ?_
 repeat' first | refine Wl.move rfl rfl ?_ | refine Wl.assign rfl rfl ?_ | (refine Wl.shr rfl rfl rfl ?_ ?_; omega) | refine Wl.convI rfl rfl ?_ | (apply Wl.lit; exact rfl; (repeat (first | exact Parts.nil | apply Parts.cons rfl)); exact rfl; exact rfl; (repeat (first | apply CatP.nil | (apply CatP.one; exact rfl; exact rfl) | (apply CatP.agg; exact rfl) | apply LApp.nil | apply LApp.cons)); intro c hc ho) | apply Wl.nil | apply St.seq | apply St.region | apply Gt.next
 apply Wl.appendT
 exact rfl
 exact rfl
 exact rfl
 exact hc
 exact rfl
 exact h
 ·intro k _; trivial
 exact rfl
 exact rfl
 ·decide
 ·unfold maxLen; omega
 ·omega
 ·exact hb
 intro v' w1 ho2 u _ _
 repeat' first | refine Wl.assign rfl rfl ?_ | apply Wl.nil | apply St.ret | apply Gt.next | (apply Gt.out1; exact rfl; exact rfl; intro w' hp)
 refine ⟨_, rfl, ?_, u.comp hp.upd fun k hk' hs => hs.elim (fun hs => hs.elim id fun y => (y trivial).elim) fun y => (y trivial).elim⟩
 refine Bo.upd (Bo.of ho2 rfl ?_) hp.upd fun k hk' x => x trivial
 obtain ⟨n, rfl⟩ := Int.eq_ofNat_of_zero_le hx.1
 simp only [byteCells, leB, List.map_cons, List.map_nil, wrap8]
 have e (k : Nat) : ((n : Int).fdiv (2 ^ k) % 256).toNat = n / 2 ^ k % 256 := by
  rw [Int.fdiv_eq_ediv_of_nonneg _ (Int.le_of_lt (Int.pow_pos (by decide)))]
  have : ((n : Int) / 2 ^ k % 256) = ((n / 2 ^ k % 256 : Nat) : Int) := by simp
  rw [this]; rfl
 simp only [e]
 simp [IntKind.bits, Nat.div_div_eq_div_mul]
 omega
def Is (k : IntKind) (w : World) (v : Value) (l : List Int) : Prop := Sv w 1 l.length v (l.map (Value.int k))
end Go.Proofs.YtmjlceimjlabpaaDoor
end
section
namespace Go.Proofs.YtmjlceimjlabpaaDoor
open Go.RowKit Go.Pt
def part (f : List UInt8) (k n : Nat) : List UInt8 := if k + n ≤ f.length then (f.drop k).take n else []
def num (f : List UInt8) (k n : Nat) : Nat := leN (part f k n)
theorem part_len (f : List UInt8) (k n : Nat) : (part f k n).length ≤ n := by
 unfold part; split <;> simp; omega
theorem num_lt (f : List UInt8) (k n : Nat) : num f k n < 256 ^ n := by
 have h1 := leN_lt (part f k n)
 have h2 : (256 : Nat) ^ (part f k n).length ≤ 256 ^ n := Nat.pow_le_pow_right (by omega) (part_len f k n)
 unfold num
 omega
theorem num4 (f : List UInt8) (k : Nat) : num f k 4 < 4294967296 := num_lt f k 4
theorem num2 (f : List UInt8) (k : Nat) : num f k 2 < 65536 := num_lt f k 2
theorem cTake_pos (f : List UInt8) (k n : Nat) : cTake (f.drop k) (decide (f.length < k)) n = (part f k n, f.drop (k + n), decide (f.length < k + n)) := by
 unfold cTake part
 rw [List.length_drop]
 by_cases hc : k + n ≤ f.length
 ·rw [if_neg (by simp; omega), if_pos hc]
  simp [List.drop_drop]; omega
 ·rw [if_pos, if_neg hc]
  ·have : f.drop (k + n) = [] := List.drop_eq_nil_of_le (by omega)
   rw [this]
   simp; omega
  ·simp; omega
def RefAt (f : List UInt8) (k p : Nat) : Prop := p ≤ f.length ∧ (k ≤ f.length → p = k)
theorem rTake_pos {f : List UInt8} {k p : Nat} (h : RefAt f k p) (n : Nat) : ∃ p', rTake f p (decide (f.length < k)) n = (part f k n, p', decide (f.length < k + n)) ∧ RefAt f (k + n) p' := by
 obtain ⟨h1, h2⟩ := h
 unfold rTake part
 by_cases hc : k + n ≤ f.length
 ·have := h2 (by omega)
  subst this
  refine ⟨p + n, ?_, by omega, fun _ => rfl⟩
  rw [if_neg (by simp; omega), if_pos hc]
  simp; omega
 ·refine ⟨p, ?_, h1, fun h => (hc h).elim⟩
  rw [if_pos, if_neg hc]
  ·simp; omega
  ·by_cases hk : k ≤ f.length
   ·have := h2 hk
    simp; omega
   ·simp; omega
def Left (v0 : Value) (f : List UInt8) (v : Value) (k : Nat) : Prop := ∀ u, Bs u v0 f → Bs u v (f.drop k)
theorem left0 (v0 : Value) (f : List UInt8) : Left v0 f v0 0 := fun _ hu => by rwa [List.drop_zero]
theorem at_pos (v : Value) (f : List UInt8) (w : World) (h : Bs w v f) :
  Calls Tryd.prog 11 #[v] w fun e w' => ∃ c, e = .returned (.pointer (some ⟨c, 0, none⟩)) ∧ w.heap.size ≤ c ∧ Hp w [⟨c, [v, .bool (decide (f.length < 0))], 66⟩] w' := by
 have e : decide (f.length < 0) = false := by simp
 rw [e]
 exact at_any v f w w h
theorem take_pos (c : Nat) (v0 v : Value) (f : List UInt8) (k n : Nat) (w : World) (h : w.heap[c]? = some (.cells #[v, .bool (decide (f.length < k))] 66 (0,0))) (hb : Bs w v0 f) (hv : Left v0 f v k) :
  Calls Tryd.prog 12 #[.pointer (some ⟨c, 0, none⟩), .int .i64 n] w fun e w' => ∃ x v', e = .returned x ∧ Hp w [⟨c, [v', .bool (decide (f.length < k + n))], 66⟩] w' ∧ Left v0 f v' (k + n) ∧ ∀ u, Bs u v0 f → Bs u x (part f k n) := by
 refine (take_any c v (f.drop k) _ n w w h (hv w hb)).mono ?_
 rintro e w' ⟨x, v', rfl, hp, hx⟩
 rw [cTake_pos] at hp hx
 exact ⟨x, v', rfl, hp, fun u hu => (hx u (hv u hu)).2, fun u hu => (hx u (hv u hu)).1⟩
theorem u16_pos (c : Nat) (v0 v : Value) (f : List UInt8) (k : Nat) (w : World) (h : w.heap[c]? = some (.cells #[v, .bool (decide (f.length < k))] 66 (0,0))) (hb : Bs w v0 f) (hv : Left v0 f v k) :
  Calls Tryd.prog 25 #[.pointer (some ⟨c, 0, none⟩)] w fun e w' => ∃ v', e = .returned (.int .i64 (num f k 2)) ∧ Hp w [⟨c, [v', .bool (decide (f.length < k + 2))], 66⟩] w' ∧ Left v0 f v' (k + 2) := by
 refine (u16_at c v (f.drop k) _ w (cTake_pos f k 2) rfl h (hv w hb)).mono ?_
 rintro e w' ⟨v', rfl, hp, hx⟩
 exact ⟨v', rfl, hp, fun u hu => hx u (hv u hu)⟩
theorem u32_pos (c : Nat) (v0 v : Value) (f : List UInt8) (k : Nat) (w : World) (h : w.heap[c]? = some (.cells #[v, .bool (decide (f.length < k))] 66 (0,0))) (hb : Bs w v0 f) (hv : Left v0 f v k) :
  Calls Tryd.prog 13 #[.pointer (some ⟨c, 0, none⟩)] w fun e w' => ∃ v', e = .returned (.int .u32 (num f k 4)) ∧ Hp w [⟨c, [v', .bool (decide (f.length < k + 4))], 66⟩] w' ∧ Left v0 f v' (k + 4) := by
 refine (u32_at c v (f.drop k) _ w (cTake_pos f k 4) rfl h (hv w hb)).mono ?_
 rintro e w' ⟨v', rfl, hp, hx⟩
 exact ⟨v', rfl, hp, fun u hu => hx u (hv u hu)⟩
theorem rnum_pos (c : Nat) (v : Value) (f : List UInt8) (k p : Nat) (n : Nat) (hn : n ≤ 4) (w : World) (h : w.heap[c]? = some (.cells #[v, .int .i64 p, .bool (decide (f.length < k))] 55 (0,0))) (hv : Bs w v f) (hr : RefAt f k p) :
  Calls Tryd.prog 19 #[.pointer (some ⟨c, 0, none⟩), .int .i64 n] w fun e w' => ∃ p' : Nat, e = .returned (.int .i64 (num f k n)) ∧ Hp w [⟨c, [v, .int .i64 p', .bool (decide (f.length < k + n))], 55⟩] w' ∧ RefAt f (k + n) p' := by
 obtain ⟨p', e1, e2⟩ := rTake_pos hr n
 have h1 := rnum_any c v f p _ n hn w h hv hr.1
 unfold RNumPost at h1
 rw [e1] at h1
 refine h1.mono ?_
 rintro e w' ⟨rfl, hp⟩
 exact ⟨p', rfl, hp, e2⟩
theorem rtake_pos (c : Nat) (v : Value) (f : List UInt8) (k p : Nat) (n : Nat) (w : World) (h : w.heap[c]? = some (.cells #[v, .int .i64 p, .bool (decide (f.length < k))] 55 (0,0))) (hv : Bs w v f) (hr : RefAt f k p) :
  Calls Tryd.prog 18 #[.pointer (some ⟨c, 0, none⟩), .int .i64 n] w fun e w' => ∃ (x : Value) (p' : Nat), e = .returned x ∧ Hp w [⟨c, [v, .int .i64 p', .bool (decide (f.length < k + n))], 55⟩] w' ∧ RefAt f (k + n) p' ∧ ∀ u, Bs u v f → Bs u x (part f k n) := by
 obtain ⟨p', e1, e2⟩ := rTake_pos hr n
 have h1 := rtake_any c v f p _ n w w h hv hr.1
 unfold RTakePost at h1
 rw [e1] at h1
 refine h1.mono ?_
 rintro e w' ⟨x, rfl, hp, hx⟩
 exact ⟨x, p', rfl, hp, e2, hx⟩
end Go.Proofs.YtmjlceimjlabpaaDoor
end
