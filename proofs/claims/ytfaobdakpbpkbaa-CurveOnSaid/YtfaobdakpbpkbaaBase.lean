/-
  Words and small lemmas of my own on worlds, slices that are read, and frames; they speak of no program.
-/
import Derived.WalkKit
import Derived.WalkSpells
import Derived.WalkLawsBesides
import Derived.ProofKit
import Derived.Lib.SmallJoins
import Derived.Lib.Hide
namespace Go.Pt
open Go.RowKit

/-! ### Frames -/
/-- Outside the blocks of S what was there is as it was; nothing has gone; the streams are as they were. -/
structure Upd (S : Nat → Prop) (w w' : World) : Prop where
  os : w'.os = w.os
  tape : w'.tape = w.tape
  output : w'.output = w.output
  size : w.heap.size ≤ w'.heap.size
  block : ∀ k, k < w.heap.size → ¬ S k → w'.heap[k]? = w.heap[k]?

theorem Upd.refl (S : Nat → Prop) (w : World) : Upd S w w := ⟨rfl, rfl, rfl, Nat.le_refl _, fun _ _ _ => rfl⟩
theorem Upd.trans {S : Nat → Prop} {a b c : World} (h : Upd S a b) (k : Upd S b c) : Upd S a c :=
  ⟨k.os.trans h.os, k.tape.trans h.tape, k.output.trans h.output, Nat.le_trans h.size k.size,
   fun i hi hs => (k.block i (Nat.lt_of_lt_of_le hi h.size) hs).trans (h.block i hi hs)⟩
theorem Upd.mono {S S' : Nat → Prop} {a b : World} (h : Upd S a b) (hs : ∀ k, k < a.heap.size → S k → S' k) : Upd S' a b :=
  ⟨h.os, h.tape, h.output, h.size, fun k hk hn => h.block k hk fun x => hn (hs k hk x)⟩
theorem Upd.comp {S S' T : Nat → Prop} {a b c : World} (h : Upd S a b) (k : Upd S' b c) (ht : ∀ k, k < a.heap.size → S k ∨ S' k → T k) : Upd T a c :=
  ⟨k.os.trans h.os, k.tape.trans h.tape, k.output.trans h.output, Nat.le_trans h.size k.size,
   fun i hi hs => (k.block i (Nat.lt_of_lt_of_le hi h.size) fun x => hs (ht i hi (.inr x))).trans (h.block i hi fun x => hs (ht i hi (.inl x)))⟩
theorem Upd.drew (S : Nat → Prop) (w : World) : Upd S w w.drew := ⟨rfl, rfl, rfl, Nat.le_refl _, fun _ _ _ => rfl⟩
theorem Upd.drewN (S : Nat → Prop) (w : World) (n : Nat) : Upd S w (w.drewN n) := ⟨rfl, rfl, rfl, Nat.le_refl _, fun _ _ _ => rfl⟩
theorem Upd.alloc (S : Nat → Prop) (w : World) (o : Obj) : Upd S w (w.alloc o) :=
  ⟨rfl, rfl, rfl, by simp, fun k hk _ => Below.heap_alloc _ _ _ hk⟩
theorem Upd.setCell {S : Nat → Prop} (w : World) (p : Addr) (u : Value) (hp : S p.block) : Upd S w (w.setCell p u) :=
  ⟨rfl, rfl, rfl, by simp [World.setCell], fun k _ hs => Below.heap_setCell _ _ _ _ fun e => hs (e ▸ hp)⟩
theorem Upd.grown {S : Nat → Prop} {w w' : World} {row : Option Nat} (hg : w.grownBy w' row) (hr : ∀ k, row = some k → S k) : Upd S w w' :=
  ⟨hg.os, hg.tape, hg.output, hg.size, fun k hk hs => hg.block k hk fun e => hs (hr k e.symm)⟩
theorem Upd.toBelow {S : Nat → Prop} {B : Nat} {w w' : World} (h : Upd S w w') (hB : B ≤ w.heap.size) (hs : ∀ k, k < B → ¬ S k) : Below B w w' :=
  ⟨h.os, h.tape, h.output, h.size, fun k hk => h.block k (Nat.lt_of_lt_of_le hk hB) (hs k hk)⟩
theorem Upd.ofBelow {B : Nat} {w w' : World} (h : Below B w w') : Upd (fun k => B ≤ k) w w' :=
  ⟨h.os, h.tape, h.output, h.size, fun k _ hs => h.block k (by omega)⟩
theorem Upd.cell {S : Nat → Prop} {w w' : World} (h : Upd S w w') {p : Addr} {v : Value} (hc : w.cell? p = some v) (hs : ¬ S p.block) : w'.cell? p = some v :=
  (World.cell?_of_block (w := w) (h.block p.block (World.block_lt_of_cell? w p hc) hs)).trans hc
theorem Upd.heap {S : Nat → Prop} {w w' : World} (h : Upd S w w') {k : Nat} {o : Obj} (hc : w.heap[k]? = some o) (hs : ¬ S k) : w'.heap[k]? = some o :=
  (h.block k (lt_of_block hc) hs).trans hc

/-! ### Blocks that are known whole -/
theorem cellAt {w : World} {g : Nat} {cs : Array Value} {t : TypeId} {fr : Nat × Nat} (h : w.heap[g]? = some (.cells cs t fr)) (i : Nat) : w.cell? ⟨g, i, none⟩ = cs[i]? := by simp [World.cell?, h]
theorem freeAt {w : World} {g : Nat} {cs : Array Value} {t : TypeId} (h : w.heap[g]? = some (.cells cs t (0, 0))) (i : Nat) : w.frozen? ⟨g, i, none⟩ = false := by simp [World.frozen?, h]
theorem blockSet {w : World} {g i : Nat} {cs : Array Value} {t : TypeId} {fr : Nat × Nat} (h : w.heap[g]? = some (.cells cs t fr)) (v : Value) : (w.setCell ⟨g, i, none⟩ v).heap[g]? = some (.cells (cs.setIfInBounds i v) t fr) := by
  have hlt := lt_of_block h
  have h' : w.heap[g] = .cells cs t fr := by simpa [Array.getElem?_eq_getElem hlt] using h
  show (w.heap.modify g _)[g]? = _
  rw [Array.getElem?_eq_getElem (by simpa using hlt), Array.getElem_modify_self, h']
  rfl

/-! ### Slices that are read -/
/-- v is a slice of n elements of sz cells each, which read as cs. -/
def Sv (w : World) (sz n : Nat) (v : Value) (cs : List Value) : Prop :=
  cs.length = n * sz ∧ ∃ a cap, v = .slice a n cap ∧ n ≤ cap ∧ cap ≤ maxLen ∧ (a = none → cap = 0) ∧
    (cs ≠ [] → ∃ b off, a = some ⟨b, off, none⟩ ∧ ∀ i (h : i < cs.length), w.cell? ⟨b, off + i, none⟩ = some cs[i])

theorem Sv.nil (w : World) (sz : Nat) : Sv w sz 0 (.slice none 0 0) [] := ⟨by simp, none, 0, rfl, Nat.le_refl _, by simp [maxLen], fun _ => rfl, fun h => (h rfl).elim⟩
theorem Sv.upd {S : Nat → Prop} {w w' : World} {sz n : Nat} {v : Value} {cs : List Value} (h : Sv w sz n v cs) (u : Upd S w w')
    (hs : ∀ k, v.ownBlock = some k → k < w.heap.size → cs ≠ [] → ¬ S k) : Sv w' sz n v cs := by
  obtain ⟨hl, a, cap, rfl, h1, h2, h0, h3⟩ := h
  refine ⟨hl, a, cap, rfl, h1, h2, h0, fun hne => ?_⟩
  obtain ⟨b, off, rfl, hc⟩ := h3 hne
  refine ⟨b, off, rfl, fun i hi => u.cell (hc i hi) ?_⟩
  exact hs b rfl (World.block_lt_of_cell? w _ (hc i hi)) hne
theorem Sv.ofOwn {w : World} {base : Nat} {e : TypeId} {sz n : Nat} {v : Value} {cs : List Value} (h : w.ownsRow base e sz v n cs) : Sv w sz n v cs := by
  obtain ⟨hl, h⟩ := h
  rcases h with ⟨rfl, rfl⟩ | ⟨g, cap, cur, rfl, hb, hh, hn, hc, hs, ht⟩
  · have : cs = [] := by simpa using hl
    subst this; exact Sv.nil w sz
  · refine ⟨hl, _, cap, rfl, hn, hc, fun e => (by cases e), fun _ => ⟨g, 0, rfl, fun i hi => ?_⟩⟩
    rw [cellAt hh]
    subst ht
    simp only [List.length_take] at hi
    have hi' : i < cur.size := by simp at hi; omega
    simp [hi']

/-- bytes -/
def byteCells (l : List UInt8) : List Value := l.map fun c => .int .u8 (c.toNat : Int)
theorem byteCells_length (l : List UInt8) : (byteCells l).length = l.length := by simp [byteCells]
def Bs (w : World) (v : Value) (l : List UInt8) : Prop := Sv w 1 l.length v (byteCells l)

theorem byteCells_ne {l : List UInt8} : byteCells l ≠ [] ↔ l ≠ [] := by simp [byteCells]
theorem Bs.nil (w : World) : Bs w (.slice none 0 0) [] := Sv.nil w 1
theorem Bs.upd {S : Nat → Prop} {w w' : World} {v : Value} {l : List UInt8} (h : Bs w v l) (u : Upd S w w')
    (hs : ∀ k, v.ownBlock = some k → k < w.heap.size → l ≠ [] → ¬ S k) : Bs w' v l :=
  Sv.upd h u fun k h1 h2 h3 => hs k h1 h2 (byteCells_ne.1 h3)
theorem Bs.shape {w : World} {v : Value} {l : List UInt8} (h : Bs w v l) : ∃ a cap, v = .slice a l.length cap ∧ l.length ≤ cap ∧ cap ≤ maxLen := by
  obtain ⟨_, a, cap, h1, h2, h3, _, _⟩ := h; exact ⟨a, cap, h1, h2, h3⟩
theorem Bs.cells {w : World} {a : Option Addr} {n cap : Nat} {l : List UInt8} (h : Bs w (.slice a n cap) l) (hne : l ≠ []) :
    ∃ b off, a = some ⟨b, off, none⟩ ∧ ∀ i (hi : i < l.length), w.cell? ⟨b, off + i, none⟩ = some (.int .u8 (l[i].toNat : Int)) := by
  obtain ⟨_, a', cap', h1, _, _, _, h3⟩ := h
  cases h1
  obtain ⟨b, off, rfl, hc⟩ := h3 (byteCells_ne.2 hne)
  refine ⟨b, off, rfl, fun i hi => ?_⟩
  have := hc i (by simpa [byteCells] using hi)
  simpa [byteCells] using this
theorem Bs.len {w : World} {a : Option Addr} {n cap : Nat} {l : List UInt8} (h : Bs w (.slice a n cap) l) : l.length = n ∧ n ≤ cap ∧ cap ≤ maxLen := by
  obtain ⟨a', cap', h1, h2, h3⟩ := h.shape
  cases h1; exact ⟨rfl, h2, h3⟩
theorem Bs.nilcap {w : World} {a : Option Addr} {n cap : Nat} {l : List UInt8} (h : Bs w (.slice a n cap) l) (ha : a = none) : cap = 0 := by
  obtain ⟨_, a', cap', h1, _, _, h2, _⟩ := h
  cases h1; exact h2 ha
theorem Bs.ofBlk {w : World} {b : Nat} {l : List UInt8} {t : TypeId} {fr : Nat × Nat} (h : w.heap[b]? = some (.cells (byteCells l).toArray t fr)) (hl : l.length ≤ maxLen) : Bs w (.slice (some ⟨b, 0, none⟩) l.length l.length) l := by
  refine ⟨by simp [byteCells], _, _, rfl, Nat.le_refl _, hl, fun e => (by cases e), fun _ => ⟨b, 0, rfl, fun i hi => ?_⟩⟩
  rw [cellAt h]
  simp [hi]
/-- a piece of a slice reads as the piece -/
theorem Bs.sub {w : World} {a : Option Addr} {n cap lo hi mx : Nat} {l : List UInt8} (h : Bs w (.slice a n cap) l) (h1 : lo ≤ hi) (h2 : hi ≤ l.length) (h3 : hi ≤ mx) (h4 : mx ≤ cap) :
    Bs w (.slice (if mx = lo then a else a.map (·.add (lo * 1))) (hi - lo) (mx - lo)) ((l.take hi).drop lo) := by
  rw [Nat.mul_one]
  obtain ⟨hn, hc, hm⟩ := h.len
  have hlen : ((l.take hi).drop lo).length = hi - lo := by simp; omega
  refine ⟨by simp [byteCells_length], _, mx - lo, by rw [hlen], by omega, by omega, fun e => ?_, fun hne => ?_⟩
  · split at e
    · omega
    · have := h.nilcap (by simpa using e); omega
  have hne' : (l.take hi).drop lo ≠ [] := byteCells_ne.1 hne
  have hlt : lo < hi := by
    rcases Nat.lt_or_ge lo hi with x | x
    · exact x
    · exact (hne' (by apply List.eq_nil_of_length_eq_zero; omega)).elim
  obtain ⟨b, off, rfl, hcell⟩ := h.cells (fun e => by subst e; simp at h2; omega)
  refine ⟨b, off + lo, ?_, fun i hi' => ?_⟩
  · rw [if_neg (by omega)]
    simp only [Option.map_some, Addr.add]
    split
    · subst lo; rfl
    · rfl
  · have hi2 : i < hi - lo := by rw [byteCells_length, hlen] at hi'; exact hi'
    have := hcell (lo + i) (by omega)
    rw [show off + lo + i = off + (lo + i) by omega, this]
    simp [byteCells]

/-! ### bytes as numbers -/
/-- the number that bytes are, the lowest first -/
def leN : List UInt8 → Nat
  | [] => 0
  | c :: r => c.toNat + 256 * leN r
theorem leN_lt (l : List UInt8) : leN l < 256 ^ l.length := by
  induction l with
  | nil => simp [leN]
  | cons c r ih =>
    have := c.toNat_lt
    simp only [leN, List.length_cons, Nat.pow_succ]
    omega
theorem leN_append (l m : List UInt8) : leN (l ++ m) = leN l + 256 ^ l.length * leN m := by
  induction l with
  | nil => simp [leN]
  | cons c r ih => simp only [List.cons_append, leN, ih, List.length_cons, Nat.pow_succ]; rw [Nat.mul_add, Nat.mul_comm (256 ^ r.length) 256, Nat.mul_assoc]; omega
theorem bitsOr_nat (k : IntKind) (hk : k.signed = false) (x y : Nat) (hx : x < 2 ^ k.bits) (hy : y < 2 ^ k.bits) : bits .or k (x : Int) (y : Int) = ((x ||| y : Nat) : Int) := by
  have h1 : (BitVec.ofInt k.bits (x : Int)).toNat = x := by simp [Int.emod_eq_of_lt, Nat.mod_eq_of_lt hx]
  have h2 : (BitVec.ofInt k.bits (y : Int)).toNat = y := by simp [Int.emod_eq_of_lt, Nat.mod_eq_of_lt hy]
  have h3 : x ||| y < 2 ^ k.bits := Nat.or_lt_two_pow hx hy
  simp only [bits, BitVec.toNat_or, h1, h2, IntKind.wrap, hk]
  simp
  exact_mod_cast Nat.mod_eq_of_lt h3
theorem or_disjoint (a b i : Nat) (ha : a < 2 ^ i) : a ||| (b * 2 ^ i) = a + b * 2 ^ i := by
  have := Nat.shiftLeft_add_eq_or_of_lt ha b
  rw [Nat.shiftLeft_eq] at this
  rw [Nat.or_comm, ← this, Nat.add_comm]

theorem wrap_small (k : IntKind) (x : Int) (h0 : 0 ≤ x) (h : x < 2 ^ (k.bits - 1)) : k.wrap x = x := by
  have hb : (2 : Int) ^ k.bits = 2 * 2 ^ (k.bits - 1) := by cases k <;> rfl
  simp only [IntKind.wrap]
  rw [Int.emod_eq_of_lt h0 (by omega)]
  rw [if_neg (by simp; intro _; omega)]
theorem bitsAnd_mask (k : IntKind) (x m : Int) (j : Nat) (hj : j < k.bits) (hm : m = 2 ^ j - 1) : bits .and k x m = x % 2 ^ j := by
  subst hm
  have hp : (0 : Int) < 2 ^ j := Int.pow_pos (by decide)
  have hlt : (2 : Nat) ^ j < 2 ^ k.bits := Nat.pow_lt_pow_right (by decide) hj
  have hle : (2 : Nat) ^ j ≤ 2 ^ (k.bits - 1) := Nat.pow_le_pow_right (by decide) (by omega)
  have e1 : ((2 : Int) ^ j - 1) = ((2 ^ j - 1 : Nat) : Int) := by
    have : 1 ≤ (2 : Nat) ^ j := Nat.one_le_two_pow
    rw [Int.natCast_sub this]; simp
  have h2 : (BitVec.ofInt k.bits ((2 : Int) ^ j - 1)).toNat = 2 ^ j - 1 := by
    have hlt' : (2 : Nat) ^ j - 1 < 2 ^ k.bits := Nat.lt_of_le_of_lt (Nat.sub_le _ _) hlt
    rw [e1, BitVec.toNat_ofInt, Int.emod_eq_of_lt (Int.natCast_nonneg _) (Int.ofNat_lt.2 hlt')]
    rfl
  have h1 : ((BitVec.ofInt k.bits x).toNat : Int) = x % 2 ^ k.bits := by
    rw [BitVec.toNat_ofInt]
    have : 0 ≤ x % ((2 ^ k.bits : Nat) : Int) := Int.emod_nonneg _ (by have : 0 < (2 : Nat) ^ k.bits := Nat.two_pow_pos _; omega)
    rw [Int.toNat_of_nonneg this]; simp
  have hd : ((2 : Int) ^ j) ∣ 2 ^ k.bits := ⟨2 ^ (k.bits - j), by rw [← Int.pow_add]; congr 1; omega⟩
  simp only [bits, BitVec.toNat_and, h2, Nat.and_two_pow_sub_one_eq_mod]
  have e3 : (((BitVec.ofInt k.bits x).toNat % 2 ^ j : Nat) : Int) = x % 2 ^ j := by
    rw [Int.natCast_emod, h1]; simp [Int.emod_emod_of_dvd x hd]
  rw [e3]
  exact wrap_small k _ (Int.emod_nonneg _ (by omega)) (by
    have := Int.emod_lt_of_pos x hp
    have : (2 : Int) ^ j ≤ 2 ^ (k.bits - 1) := by exact_mod_cast hle
    omega)
theorem tmod2_nat (k : Nat) : ((k : Int).tmod 2) = ((k % 2 : Nat) : Int) := by rw [Int.tmod_eq_emod_of_nonneg (by omega)]; omega

end Go.Pt
