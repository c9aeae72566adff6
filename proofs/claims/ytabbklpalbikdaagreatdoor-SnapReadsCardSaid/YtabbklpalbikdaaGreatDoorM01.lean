/-
 23 texts,one behind the other;each says what it proves. Conditions: as each text says.
-/
import Derived.WalkKit
import Derived.WalkSpells
import Derived.WalkLawsBesides
import Derived.ProofKit
import Derived.Lib.SmallJoins
import Derived.Lib.Hide
import Derived.Deep.Quiet
import Derived.Laws.Slices
import Derived.LoopN
import Derived.Test.YtabbklpalbikdaaGreatDoorProg
import Derived.KernelRfl
import Derived.Maps.Views
import Derived.Maps.OwnSet
import Derived.Laws.BitsAllLaws
import Derived.Laws.Closers25b
set_option maxHeartbeats 32000000
set_option linter.unusedVariables false
set_option linter.unusedSimpArgs false
namespace Go
theorem odq {p : Prop} [Decidable p] (h : decide p = true := by exact rfl) : p := of_decide_eq_true h
theorem k5 {p : Prop} (h : p := by with_reducible first | rfl | assumption | decide) : p := h
theorem k6 {p : Prop} (h : p := by simp only [List.mem_cons,List.not_mem_nil,or_false,forall_eq_or_imp,forall_eq];omega) : p := h
theorem k7 {p : Prop} (h : p := by repeat (first | exact List.Mem.head _ | apply List.Mem.tail)) : p := h
theorem ka {p : Prop} (h : p := by repeat (first | apply Fills.nil | (apply Fills.one;exact rfl;exact rfl;(repeat (first | apply LSet.z | apply LSet.s))) | (apply Fills.agg;exact rfl;exact rfl;(repeat (first | apply LPut.s | apply LPut.z | apply LOver.nil | apply LOver.cons))))) : p := h
theorem kb {p : Prop} (h : p := by decide +kernel) : p := h
theorem kc {p : Prop} (h : p := by omega) : p := h
theorem kd {p : Prop} (h : p := by focus repeat constructor) : p := h
theorem ke {p : Prop} (h : p := by repeat (first | apply CatP.nil | (apply CatP.one;exact rfl;exact rfl) | (apply CatP.agg;exact rfl) | apply LApp.nil | apply LApp.cons)) : p := h
theorem kf {p : Prop} (h : p := by exact rfl) : p := h
theorem kg {p : Prop} (h : p := by first | with_reducible assumption | with_reducible exact Sha.rr_lt _ _ | with_reducible exact Sha.X_lt _ _ | with_reducible exact Sha.A_lt _ _ | with_reducible exact Sha.P_lt _ _ | with_reducible exact Sha.div_lt _ (by with_reducible assumption) | omega) : p := h
theorem kh {p : Prop} (h : p := by first | with_reducible rfl | (show _ = false;with_reducible assumption) | (show _ = true;with_reducible assumption) | decide) : p := h
theorem ki {p : Prop} (h : p := by repeat (first | apply LSet.z | apply LSet.s)) : p := h
theorem kj {p : Prop} (h : p := by repeat (first | exact Parts.nil | apply Parts.cons rfl)) : p := h
theorem km {p : Prop} (h : p := by repeat (first | exact trivial | refine ⟨by first | omega | (simp only;omega),?_⟩)) : p := h
theorem kn {p : Prop} (h : p := by repeat (first | apply LPut.s | apply LPut.z | apply LOver.nil | apply LOver.cons)) : p := h
theorem kq {p : Prop} (h : p := by repeat constructor) : p := h
theorem kt {p : Prop} (h : p := by kernel_rfl) : p := h
theorem ku {p : Prop} (h : p := by decide) : p := h
theorem kv {p : Prop} (h : p := by first | exact hov4 | exact hov9 | exact hov14) : p := h
theorem kw {p : Prop} (h : p := by first | exact BoundIs.no | exact BoundIs.yes rfl (by omega)) : p := h
theorem kx {p : Prop} (h : p := by first | with_reducible assumption | with_reducible rfl) : p := h
theorem ky {p : Prop} (h : p := by simp only;omega) : p := h
theorem za {p : Prop} (h : p := by rw [hrw,rowsC_so hrs];simp only;rw [show n - (j + 1) = q by omega]) : p := h
theorem zb {p : Prop} (h : p := by show (true && Value.oneCell' xv && true) = true;rw [hxone];rfl) : p := h
theorem zd {p : Prop} (h : p := by simp) : p := h
theorem ze {p : Prop} (h : p := by rw [addLit];show Off _ vb;repeat (first | exact trivial | refine ⟨by first | omega | (simp only;omega),?_⟩)) : p := h
theorem zf {p : Prop} (h : p := by (repeat (first | exact trivial | exact hX.off (by omega) | refine ⟨by first | assumption | omega | (simp only;omega),?_⟩))) : p := h
theorem zg {p : Prop} (h : p := by (repeat rw [List.length_append]);(repeat rw [leB_length]);(try simp only [List.length_cons,List.length_nil]);omega) : p := h
theorem zh {p : Prop} (h : p := by rw [flat_get (k := 2) (fun x hx => by obtain ⟨z,_,rfl⟩ := List.mem_map.1 hx;rfl) (by rw [List.getElem?_map,hy];rfl) hq2];exact hq) : p := h
theorem zi {p : Prop} (h : p := by simp;omega) : p := h
theorem zj {p : Prop} (h : p := by repeat (first | apply Fills.nil | (apply Fills.one;(first | exact rfl | assumption);(first | exact rfl | assumption);(repeat (first | apply LSet.z | apply LSet.s))))) : p := h
theorem zk {p : Prop} (h : p := by first | exact fun _ => rfl | exact fun h => nomatch h) : p := h
theorem zn {p : Prop} (h : p := by with_reducible assumption) : p := h
theorem zp {p : Prop} (h : p := by first | (repeat (first | exact trivial | exact hX.off (by omega) | refine ⟨by first | assumption | omega | (simp only;omega),?_⟩)) | (apply Off.of;simp;omega)) : p := h
theorem zt {p : Prop} (h : p := by have h1 := lvge k hk;simp only [List.mem_cons,List.not_mem_nil,or_false,forall_eq_or_imp,forall_eq];omega) : p := h
theorem zu {p : Prop} (h : p := by first | exact hash_n _ _ _ | exact hash_h _ _ _ (by assumption)) : p := h
theorem zx {p : Prop} (h : p := by first | assumption) : p := h
theorem zy {p : Prop} (h : p := by first | omega | (simp only;omega)) : p := h
theorem q7 {p : Prop} (h : p := by repeat (first | exact trivial | refine ⟨by first | assumption | omega,?_⟩)) : p := h
theorem q9 {p : Prop} (h : p := by simp only [List.mem_cons,List.not_mem_nil,or_false,forall_eq];omega) : p := h
theorem qa {p : Prop} (h : p := by first | exact hash_sn _ _ _ _ | exact hash_sp _ _ _ _ (Nat.mod_lt _ (by decide)) | exact hash_sh _ _ _ _ (by assumption)) : p := h
theorem qb {p : Prop} (h : p := by simp only [List.mem_cons,List.not_mem_nil,or_false,forall_eq_or_imp,forall_eq];exact ⟨fun h => absurd (hcl _ h) (by omega),fun h => absurd (hcl _ h) (by omega)⟩) : p := h
theorem qc {p : Prop} (h : p := by first | with_reducible assumption | omega) : p := h
theorem qd {p : Prop} (h : p := by show ¬ w.heap.size ≤ ib;omega) : p := h
theorem qe {p : Prop} (h : p := by simp only at e;omega) : p := h
theorem qf {p : Prop} (h : p := by rw [hxl35];rfl) : p := h
theorem qg {p : Prop} (h : p := by rw [addLit];exact off_in (by simp;omega)) : p := h
theorem qh {p : Prop} (h : p := by simp [List.mem_of_getElem? e1]) : p := h
theorem qi {p : Prop} (h : p := by rw [addLit];show Off _ lb;repeat (first | exact trivial | refine ⟨by first | omega | (simp only;omega),?_⟩)) : p := h
theorem qj {p : Prop} (h : p := by rw [hxo.len];exact rfl) : p := h
theorem qk {p : Prop} (h : p := by first | rfl | assumption) : p := h
theorem qm {p : Prop} (h : p := by first | exact rfl | assumption) : p := h
theorem qn {p : Prop} (h : p := by rw [List.getElem?_map,hy];rfl) : p := h
theorem qp {p : Prop} (h : p := by show (true && Value.oneCell' lt && true) = true;rw [lt1];rfl) : p := h
theorem qq {p : Prop} (h : p := by first | exact hx3 | exact rfl) : p := h
theorem qr {p : Prop} (h : p := by repeat (first | exact trivial | refine ⟨by simp only;omega,?_⟩)) : p := h
theorem qs {p : Prop} (h : p := by rw [List.length_take];omega) : p := h
theorem qt {p : Prop} (h : p := by first | exact cellsN_len _ _ _ | exact rfl) : p := h
theorem qu {p : Prop} (h : p := by simp only [List.not_mem_nil,false_implies,implies_true]) : p := h
theorem qw {p : Prop} (h : p := by rw [flat_get (stas_len hok) (stas_at hx) hq35];exact hq) : p := h
theorem qx {p : Prop} (h : p := by constructor <;> omega) : p := h
theorem qy {p : Prop} (h : p := by rw [hr] at e;cases e) : p := h
theorem qz {p : Prop} (h : p := by simpa using h) : p := h
theorem j0 {p : Prop} (h : p := by first | decide | omega) : p := h
theorem j1 {p : Prop} (h : p := by simpa using hi) : p := h
theorem j2 {p : Prop} (h : p := by have := in_off y;simp at this;omega) : p := h
theorem j3 {p : Prop} (h : p := by rw [List.length_drop];omega) : p := h
theorem j4 {p : Prop} (h : p := by rw [IntWalk.i64_in _ hb];exact h) : p := h
theorem j5 {p : Prop} (h : p := by assumption) : p := h
theorem j6 {p : Prop} (h : p := by simpa using hr) : p := h
end Go
section
namespace Go.Pt
open Go.RowKit
structure Upd (S : Nat → Prop) (w w' : World) : Prop where
 os : w'.os = w.os
 tape : w'.tape = w.tape
 output : w'.output = w.output
 size : w.heap.size ≤ w'.heap.size
 block : ∀ k,k < w.heap.size → ¬ S k → w'.heap[k]? = w.heap[k]?
theorem Upd.refl (S : Nat → Prop) (w : World) : Upd S w w := ⟨rfl,rfl,rfl,Nat.le_refl _,fun _ _ _ => rfl⟩
theorem Upd.trans {S : Nat → Prop} {a b c : World} (h : Upd S a b) (k : Upd S b c) : Upd S a c :=
 ⟨k.os.trans h.os,k.tape.trans h.tape,k.output.trans h.output,Nat.le_trans h.size k.size,
 fun i hi hs => (k.block i (Nat.lt_of_lt_of_le hi h.size) hs).trans (h.block i hi hs)⟩
theorem Upd.mono {S S' : Nat → Prop} {a b : World} (h : Upd S a b) (hs : ∀ k,k < a.heap.size → S k → S' k) : Upd S' a b :=
 ⟨h.os,h.tape,h.output,h.size,fun k hk hn => h.block k hk fun x => hn (hs k hk x)⟩
theorem Upd.comp {S S' T : Nat → Prop} {a b c : World} (h : Upd S a b) (k : Upd S' b c) (ht : ∀ k,k < a.heap.size → S k ∨ S' k → T k) : Upd T a c :=
 ⟨k.os.trans h.os,k.tape.trans h.tape,k.output.trans h.output,Nat.le_trans h.size k.size,
 fun i hi hs => (k.block i (Nat.lt_of_lt_of_le hi h.size) fun x => hs (ht i hi (.inr x))).trans (h.block i hi fun x => hs (ht i hi (.inl x)))⟩
theorem Upd.drew (S : Nat → Prop) (w : World) : Upd S w w.drew := ⟨rfl,rfl,rfl,Nat.le_refl _,fun _ _ _ => rfl⟩
theorem Upd.alloc (S : Nat → Prop) (w : World) (o : Obj) : Upd S w (w.alloc o) :=
 ⟨rfl,rfl,rfl,by simp,fun k hk _ => Below.heap_alloc _ _ _ hk⟩
theorem Upd.setCell {S : Nat → Prop} (w : World) (p : Addr) (u : Value) (hp : S p.block) : Upd S w (w.setCell p u) :=
 ⟨rfl,rfl,rfl,by simp [World.setCell],fun k _ hs => Below.heap_setCell _ _ _ _ fun e => hs (e ▸ hp)⟩
theorem Upd.grown {S : Nat → Prop} {w w' : World} {row : Option Nat} (hg : w.grownBy w' row) (hr : ∀ k,row = some k → S k) : Upd S w w' :=
 ⟨hg.os,hg.tape,hg.output,hg.size,fun k hk hs => hg.block k hk fun e => hs (hr k e.symm)⟩
theorem Upd.toBelow {S : Nat → Prop} {B : Nat} {w w' : World} (h : Upd S w w') (hB : B ≤ w.heap.size) (hs : ∀ k,k < B → ¬ S k) : Below B w w' :=
 ⟨h.os,h.tape,h.output,h.size,fun k hk => h.block k (Nat.lt_of_lt_of_le hk hB) (hs k hk)⟩
theorem Upd.cell {S : Nat → Prop} {w w' : World} (h : Upd S w w') {p : Addr} {v : Value} (hc : w.cell? p = some v) (hs : ¬ S p.block) : w'.cell? p = some v :=
 (World.cell?_of_block (w := w) (h.block p.block (World.block_lt_of_cell? w p hc) hs)).trans hc
theorem Upd.heap {S : Nat → Prop} {w w' : World} (h : Upd S w w') {k : Nat} {o : Obj} (hc : w.heap[k]? = some o) (hs : ¬ S k) : w'.heap[k]? = some o :=
 (h.block k (lt_of_block hc) hs).trans hc
theorem cellAt {w : World} {g : Nat} {cs : Array Value} {t : TypeId} {fr : Nat × Nat} (h : w.heap[g]? = some (.cells cs t fr)) (i : Nat) : w.cell? ⟨g,i,none⟩ = cs[i]? := by simp [World.cell?,h]
theorem freeAt {w : World} {g : Nat} {cs : Array Value} {t : TypeId} (h : w.heap[g]? = some (.cells cs t (0,0))) (i : Nat) : w.frozen? ⟨g,i,none⟩ = false := by simp [World.frozen?,h]
theorem blockSet {w : World} {g i : Nat} {cs : Array Value} {t : TypeId} {fr : Nat × Nat} (h : w.heap[g]? = some (.cells cs t fr)) (v : Value) : (w.setCell ⟨g,i,none⟩ v).heap[g]? = some (.cells (cs.setIfInBounds i v) t fr) := by
 have hlt := lt_of_block h
 have h' : w.heap[g] = .cells cs t fr := by simpa [Array.getElem?_eq_getElem hlt] using h
 show (w.heap.modify g _)[g]? = _
 rw [Array.getElem?_eq_getElem (by simpa using hlt),Array.getElem_modify_self,h']
 rfl
def Sv (w : World) (sz n : Nat) (v : Value) (cs : List Value) : Prop :=
 cs.length = n * sz ∧ ∃ a cap,v = .slice a n cap ∧ n ≤ cap ∧ cap ≤ maxLen ∧ (a = none → cap = 0) ∧
  (cs ≠ [] → ∃ b off,a = some ⟨b,off,none⟩ ∧ ∀ i (h : i < cs.length),w.cell? ⟨b,off + i,none⟩ = some cs[i])
theorem Sv.nil (w : World) (sz : Nat) : Sv w sz 0 (.slice none 0 0) [] := ⟨by simp,none,0,rfl,Nat.le_refl _,by simp [maxLen],fun _ => rfl,fun h => (h rfl).elim⟩
theorem Sv.upd {S : Nat → Prop} {w w' : World} {sz n : Nat} {v : Value} {cs : List Value} (h : Sv w sz n v cs) (u : Upd S w w')
  (hs : ∀ k,v.ownBlock = some k → k < w.heap.size → cs ≠ [] → ¬ S k) : Sv w' sz n v cs := by
 obtain ⟨hl,a,cap,rfl,h1,h2,h0,h3⟩ := h
 refine ⟨hl,a,cap,rfl,h1,h2,h0,fun hne => ?_⟩
 obtain ⟨b,off,rfl,hc⟩ := h3 hne
 refine ⟨b,off,rfl,fun i hi => u.cell (hc i hi) ?_⟩
 exact hs b rfl (World.block_lt_of_cell? w _ (hc i hi)) hne
theorem Sv.ofOwn {w : World} {base : Nat} {e : TypeId} {sz n : Nat} {v : Value} {cs : List Value} (h : w.ownsRow base e sz v n cs) : Sv w sz n v cs := by
 obtain ⟨hl,h⟩ := h
 rcases h with ⟨rfl,rfl⟩ | ⟨g,cap,cur,rfl,hb,hh,hn,hc,hs,ht⟩
 ·have : cs = [] := by simpa using hl
  subst this;exact Sv.nil w sz
 ·refine ⟨hl,_,cap,rfl,hn,hc,fun e => (by cases e),fun _ => ⟨g,0,rfl,fun i hi => ?_⟩⟩
  rw [cellAt hh]
  subst ht
  simp only [List.length_take] at hi
  have hi' : i < cur.size := by simp at hi;omega
  simp [hi']
def byteCells (l : List UInt8) : List Value := l.map fun c => .int .u8 (c.toNat : Int)
theorem byteCells_length (l : List UInt8) : (byteCells l).length = l.length := by simp [byteCells]
def Bs (w : World) (v : Value) (l : List UInt8) : Prop := Sv w 1 l.length v (byteCells l)
theorem byteCells_ne {l : List UInt8} : byteCells l ≠ [] ↔ l ≠ [] := by simp [byteCells]
theorem Bs.nil (w : World) : Bs w (.slice none 0 0) [] := Sv.nil w 1
theorem Bs.upd {S : Nat → Prop} {w w' : World} {v : Value} {l : List UInt8} (h : Bs w v l) (u : Upd S w w')
  (hs : ∀ k,v.ownBlock = some k → k < w.heap.size → l ≠ [] → ¬ S k) : Bs w' v l :=
 Sv.upd h u fun k h1 h2 h3 => hs k h1 h2 (byteCells_ne.1 h3)
theorem Bs.shape {w : World} {v : Value} {l : List UInt8} (h : Bs w v l) : ∃ a cap,v = .slice a l.length cap ∧ l.length ≤ cap ∧ cap ≤ maxLen := by
 obtain ⟨_,a,cap,h1,h2,h3,_,_⟩ := h;exact ⟨a,cap,h1,h2,h3⟩
theorem Bs.cells {w : World} {a : Option Addr} {n cap : Nat} {l : List UInt8} (h : Bs w (.slice a n cap) l) (hne : l ≠ []) :
  ∃ b off,a = some ⟨b,off,none⟩ ∧ ∀ i (hi : i < l.length),w.cell? ⟨b,off + i,none⟩ = some (.int .u8 (l[i].toNat : Int)) := by
 obtain ⟨_,a',cap',h1,_,_,_,h3⟩ := h
 cases h1
 obtain ⟨b,off,rfl,hc⟩ := h3 (byteCells_ne.2 hne)
 refine ⟨b,off,rfl,fun i hi => ?_⟩
 have := hc i (by simpa [byteCells] using hi)
 simpa [byteCells] using this
theorem Bs.len {w : World} {a : Option Addr} {n cap : Nat} {l : List UInt8} (h : Bs w (.slice a n cap) l) : l.length = n ∧ n ≤ cap ∧ cap ≤ maxLen := by
 obtain ⟨a',cap',h1,h2,h3⟩ := h.shape
 cases h1;exact ⟨rfl,h2,h3⟩
theorem Bs.nilcap {w : World} {a : Option Addr} {n cap : Nat} {l : List UInt8} (h : Bs w (.slice a n cap) l) (ha : a = none) : cap = 0 := by
 obtain ⟨_,a',cap',h1,_,_,h2,_⟩ := h
 cases h1;exact h2 ha
theorem Bs.ofBlk {w : World} {b : Nat} {l : List UInt8} {t : TypeId} {fr : Nat × Nat} (h : w.heap[b]? = some (.cells (byteCells l).toArray t fr)) (hl : l.length ≤ maxLen) : Bs w (.slice (some ⟨b,0,none⟩) l.length l.length) l := by
 refine ⟨by simp [byteCells],_,_,rfl,Nat.le_refl _,hl,fun e => (by cases e),fun _ => ⟨b,0,rfl,fun i hi => ?_⟩⟩
 rw [cellAt h]
 simp [hi]
theorem Bs.sub {w : World} {a : Option Addr} {n cap lo hi mx : Nat} {l : List UInt8} (h : Bs w (.slice a n cap) l) (h1 : lo ≤ hi) (h2 : hi ≤ l.length) (h3 : hi ≤ mx) (h4 : mx ≤ cap) :
  Bs w (.slice (if mx = lo then a else a.map (·.add (lo * 1))) (hi - lo) (mx - lo)) ((l.take hi).drop lo) := by
 rw [Nat.mul_one]
 obtain ⟨hn,hc,hm⟩ := h.len
 have hlen : ((l.take hi).drop lo).length = hi - lo := by simp;omega
 refine ⟨by simp [byteCells_length],_,mx - lo,by rw [hlen],by omega,by omega,fun e => ?_,fun hne => ?_⟩
 ·split at e
  ·omega
  ·have := h.nilcap (by simpa using e);omega
 have hne' : (l.take hi).drop lo ≠ [] := byteCells_ne.1 hne
 have hlt : lo < hi := by
  rcases Nat.lt_or_ge lo hi with x | x
  ·exact x
  ·exact (hne' (by apply List.eq_nil_of_length_eq_zero;omega)).elim
 obtain ⟨b,off,rfl,hcell⟩ := h.cells (fun e => by subst e;simp at h2;omega)
 refine ⟨b,off + lo,?_,fun i hi' => ?_⟩
 ·rw [if_neg kc]
  simp only [Option.map_some,Addr.add]
  split
  ·subst lo;rfl
  ·rfl
 ·have hi2 : i < hi - lo := by rw [byteCells_length,hlen] at hi';exact hi'
  have := hcell (lo + i) kc
  rw [show off + lo + i = off + (lo + i) by omega,this]
  simp [byteCells]
def leN : List UInt8 → Nat
 | [] => 0
 | c :: r => c.toNat + 256 * leN r
theorem leN_lt (l : List UInt8) : leN l < 256 ^ l.length := by
 induction l with
 | nil => simp [leN]
 | cons c r ih =>
  have := c.toNat_lt
  simp only [leN,List.length_cons,Nat.pow_succ]
  omega
theorem leN_append (l m : List UInt8) : leN (l ++ m) = leN l + 256 ^ l.length * leN m := by
 induction l with
 | nil => simp [leN]
 | cons c r ih => simp only [List.cons_append,leN,ih,List.length_cons,Nat.pow_succ];rw [Nat.mul_add,Nat.mul_comm (256 ^ r.length) 256,Nat.mul_assoc];omega
theorem bitsOr_nat (k : IntKind) (hk : k.signed = false) (x y : Nat) (hx : x < 2 ^ k.bits) (hy : y < 2 ^ k.bits) : bits .or k (x : Int) (y : Int) = ((x ||| y : Nat) : Int) := by
 have h1 : (BitVec.ofInt k.bits (x : Int)).toNat = x := by simp [Int.emod_eq_of_lt,Nat.mod_eq_of_lt hx]
 have h2 : (BitVec.ofInt k.bits (y : Int)).toNat = y := by simp [Int.emod_eq_of_lt,Nat.mod_eq_of_lt hy]
 have h3 : x ||| y < 2 ^ k.bits := Nat.or_lt_two_pow hx hy
 simp only [bits,BitVec.toNat_or,h1,h2,IntKind.wrap,hk]
 simp
 exact_mod_cast Nat.mod_eq_of_lt h3
theorem or_disjoint (a b i : Nat) (ha : a < 2 ^ i) : a ||| (b * 2 ^ i) = a + b * 2 ^ i := by
 have := Nat.shiftLeft_add_eq_or_of_lt ha b
 rw [Nat.shiftLeft_eq] at this
 rw [Nat.or_comm,← this,Nat.add_comm]
end Go.Pt
end
section
namespace Go.Pt
open Go.RowKit
abbrev Env := List (Nat × Value)
def look : Env → Nat → Option Value
 | [],_ => none
 | (d,v) :: r,t => bif Nat.beq t d then some v else look r t
def ev (Γ : Env) : Operand → Option Value
 | .tmp t => look Γ t
 | .const v => some v
 | .global g => some (.pointer (some ⟨g,0,none⟩))
 | .func f => some (.func (.func f) #[] #[])
theorem beqFalse {a b : Nat} (h : ¬ a = b) : Nat.beq a b = false := by
 cases e : Nat.beq a b
 ·rfl
 ·exact (h (Nat.eq_of_beq_eq_true e)).elim
structure Fr (N : Nat) (a : Act) (Γ : Env) : Prop where
 defers : a.defers = []
 size : a.tmps.size = N
 get : ∀ t v,look Γ t = some v → a.tmps[t]? = some v
theorem Fr.ev {N : Nat} {a : Act} {Γ : Env} (h : Fr N a Γ) {x : Operand} {v : Value} (hx : ev Γ x = some v) : a.eval x = v := by
 cases x with
 | tmp t => simp only [Go.Pt.ev] at hx;simp [Act.eval,h.get t v hx]
 | const c => simp only [Go.Pt.ev] at hx;cases hx;rfl
 | global g => simp only [Go.Pt.ev] at hx;cases hx;rfl
 | func f => simp only [Go.Pt.ev] at hx;cases hx;rfl
theorem Fr.put {N : Nat} {a : Act} {Γ : Env} (h : Fr N a Γ) {d : Nat} (hd : Nat.blt d N = true) (v : Value) : Fr N (a.put (some d) v) ((d,v) :: Γ) := by
 have hlt : d < N := Nat.le_of_ble_eq_true hd
 refine ⟨h.defers,by simp [Act.put,h.size],fun t u hu => ?_⟩
 simp only [look] at hu
 by_cases e : t = d
 ·subst e
  simp at hu
  subst hu
  simp [Act.put,h.size,hlt]
 ·have : Nat.beq t d = false := beqFalse e
  rw [this] at hu
  simp at hu
  have := h.get t u hu
  simp [Act.put,Array.getElem?_setIfInBounds_ne (Ne.symm e),this]
theorem Fr.put0 {N : Nat} {a : Act} {Γ : Env} (h : Fr N a Γ) (v : Value) : Fr N (a.put none v) Γ := h
inductive Sub (Γ : Env) : Env → Prop
 | nil : Sub Γ []
 | cons {t : Nat} {v : Value} {r : Env} (h : look Γ t = some v) (hs : Sub Γ r) : Sub Γ ((t,v) :: r)
theorem Sub.look {Γ Γ' : Env} (h : Sub Γ Γ') {t : Nat} {v : Value} (ht : look Γ' t = some v) : look Γ t = some v := by
 induction h with
 | nil => simp [Go.Pt.look] at ht
 | @cons d u r h hs ih =>
  simp only [Go.Pt.look] at ht
  by_cases e : t = d
  ·subst e;simp at ht;subst ht;exact h
  ·have : Nat.beq t d = false := beqFalse e
   rw [this] at ht;exact ih (by simpa using ht)
theorem Sub.cons' {Γ r : Env} {t : Nat} {v u : Value} (h : Pt.look Γ t = some u) (e : u = v) (hs : Sub Γ r) : Sub Γ ((t,v) :: r) := Sub.cons (e ▸ h) hs
theorem Fr.sub {N : Nat} {a : Act} {Γ Γ' : Env} (h : Fr N a Γ) (hs : Sub Γ Γ') : Fr N a Γ' := ⟨h.defers,h.size,fun t v ht => h.get t v (hs.look ht)⟩
structure Blk where
 b : Nat
 cs : List Value
 t : TypeId
def Off : List Blk → Nat → Prop
 | [],_ => True
 | x :: r,b => x.b ≠ b ∧ Off r b
def Apart : List Blk → Prop
 | [] => True
 | x :: r => Off r x.b ∧ Apart r
def Own (w : World) : List Blk → Prop
 | [] => True
 | x :: r => w.heap[x.b]? = some (.cells x.cs.toArray x.t (0,0)) ∧ Own w r
structure Hp (w0 : World) (H : List Blk) (w : World) : Prop where
 upd : Upd (fun k => ¬ Off H k) w0 w
 own : Own w H
 apart : Apart H
theorem Hp.start (w : World) : Hp w [] w := ⟨Upd.refl _ _,trivial,trivial⟩
theorem Hp.rebase {w0 w : World} {H : List Blk} (h : Hp w0 H w) : Hp w H w := ⟨Upd.refl _ _,h.own,h.apart⟩
theorem Hp.open {w0 w : World} {H : List Blk} (h : Hp w0 H w) {c : Nat} {cs : List Value} {t : TypeId} (hc : w0.heap[c]? = some (.cells cs.toArray t (0,0))) (ho : Off H c := by exact trivial) : Hp w0 (⟨c,cs,t⟩ :: H) w :=
 ⟨h.upd.mono fun _ _ hn ho => hn ho.2,⟨h.upd.heap hc fun x => x ho,h.own⟩,⟨ho,h.apart⟩⟩
theorem Hp.drew {w0 w : World} {H : List Blk} (h : Hp w0 H w) : Hp w0 H w.drew := ⟨h.upd.trans (Upd.drew _ _),by
 have := h.own
 clear h
 induction H with
 | nil => trivial
 | cons x r ih => exact ⟨this.1,ih this.2⟩,h.apart⟩
theorem Off.of {H : List Blk} {b : Nat} (h : ∀ x ∈ H,x.b ≠ b) : Off H b := by
 induction H with
 | nil => trivial
 | cons x r ih => exact ⟨h x zd,ih fun y hy => h y (by simp [hy])⟩
theorem Off.at {H : List Blk} {b : Nat} (h : Off H b) {x : Blk} (hx : x ∈ H) : x.b ≠ b := by
 induction H with
 | nil => cases hx
 | cons y r ih => cases hx with
  | head => exact h.1
  | tail _ hx => exact ih h.2 hx
theorem Own.at {w : World} {H : List Blk} (h : Own w H) {x : Blk} (hx : x ∈ H) : w.heap[x.b]? = some (.cells x.cs.toArray x.t (0,0)) := by
 induction H with
 | nil => cases hx
 | cons y r ih => cases hx with
  | head => exact h.1
  | tail _ hx => exact ih h.2 hx
theorem Own.of {w : World} {H : List Blk} (h : ∀ x ∈ H,w.heap[x.b]? = some (.cells x.cs.toArray x.t (0,0))) : Own w H := by
 induction H with
 | nil => trivial
 | cons x r ih => exact ⟨h x zd,ih fun y hy => h y (by simp [hy])⟩
theorem Own.lt {w : World} {H : List Blk} (h : Own w H) {x : Blk} (hx : x ∈ H) : x.b < w.heap.size := lt_of_block (h.at hx)
theorem Own.upd {S : Nat → Prop} {w w' : World} {H : List Blk} (h : Own w H) (u : Upd S w w') (hs : ∀ x ∈ H,¬ S x.b) : Own w' H :=
 Own.of fun x hx => u.heap (h.at hx) (hs x hx)
theorem Hp.step {S : Nat → Prop} {w0 w w' : World} {H : List Blk} (h : Hp w0 H w) (u : Upd S w w') (hs : ∀ x ∈ H,¬ S x.b) (ho : ∀ k,k < w0.heap.size → S k → ¬ Off H k) : Hp w0 H w' :=
 ⟨⟨u.os.trans h.upd.os,u.tape.trans h.upd.tape,u.output.trans h.upd.output,Nat.le_trans h.upd.size u.size,fun k hk hn =>
   (u.block k (Nat.lt_of_lt_of_le hk h.upd.size) fun s => hn (ho k hk s)).trans (h.upd.block k hk hn)⟩,h.own.upd u hs,h.apart⟩
theorem Off.lt {w : World} {H : List Blk} (h : Own w H) : Off H w.heap.size := Off.of fun x hx => by have := h.lt hx;omega
theorem Hp.alloc {w0 w : World} {H : List Blk} (h : Hp w0 H w) (cs : List Value) (t : TypeId) : Hp w0 (⟨w.heap.size,cs,t⟩ :: H) (w.alloc (.cells cs.toArray t)) := by
 refine ⟨(h.upd.mono fun k _ hn => fun ho => hn ho.2).trans (Upd.alloc _ _ _),⟨heap_alloc_new w _,h.own.upd (Upd.alloc (fun _ => False) w _) fun _ _ h => h⟩,⟨Off.lt h.own,h.apart⟩⟩
theorem Hp.set {w0 w : World} {A B : List Blk} {c : Nat} {cs cs' : List Value} {t : TypeId} (h : Hp w0 (A ++ ⟨c,cs,t⟩ :: B) w) {w' : World} (u : Upd (· = c) w w') (hc : w'.heap[c]? = some (.cells cs'.toArray t (0,0))) :
  Hp w0 (A ++ ⟨c,cs',t⟩ :: B) w' := by
 have offs : ∀ (A : List Blk) k,Off (A ++ ⟨c,cs',t⟩ :: B) k ↔ Off (A ++ ⟨c,cs,t⟩ :: B) k := by
  intro A k
  induction A with
  | nil => exact Iff.rfl
  | cons x r ih => simp only [List.cons_append,Off,ih]
 have aparts : ∀ (A : List Blk),Apart (A ++ ⟨c,cs,t⟩ :: B) → Apart (A ++ ⟨c,cs',t⟩ :: B) := by
  intro A
  induction A with
  | nil => exact fun h => h
  | cons x r ih => exact fun h => ⟨(offs r x.b).2 h.1,ih h.2⟩
 have ne : ∀ x ∈ A ++ B,x.b ≠ c := by
  have hap := h.apart
  clear h offs aparts
  induction A with
  | nil => intro x hx;exact hap.1.at hx
  | cons y r ih =>
   intro x hx
   cases hx with
   | head => exact fun e => (hap.1.at (x := ⟨c,cs,t⟩) zd) e.symm
   | tail _ hx => exact ih hap.2 x hx
 refine ⟨⟨u.os.trans h.upd.os,u.tape.trans h.upd.tape,u.output.trans h.upd.output,Nat.le_trans h.upd.size u.size,fun k hk hn => ?_⟩,Own.of fun x hx => ?_,aparts A h.apart⟩
 ·have hoff : Off (A ++ ⟨c,cs,t⟩ :: B) k := by
   rcases Classical.em (Off (A ++ ⟨c,cs,t⟩ :: B) k) with e | e
   ·exact e
   ·exact (hn fun e' => e ((offs A k).1 e')).elim
  have hkc : k ≠ c := fun e => hoff.at (x := ⟨c,cs,t⟩) zd e.symm
  exact (u.block k (Nat.lt_of_lt_of_le hk h.upd.size) hkc).trans (h.upd.block k hk fun x => x hoff)
 ·simp only [List.mem_append,List.mem_cons] at hx
  rcases hx with hx | rfl | hx
  ·exact u.heap (h.own.at (by simp [hx])) (ne x (by simp [hx]))
  ·exact hc
  ·exact u.heap (h.own.at (by simp [hx])) (ne x (by simp [hx]))
inductive HSet (c : Nat) (cs cs' : List Value) (t : TypeId) : List Blk → List Blk → Prop
 | here {r : List Blk} : HSet c cs cs' t (⟨c,cs,t⟩ :: r) (⟨c,cs',t⟩ :: r)
 | there {x : Blk} {r r' : List Blk} (h : HSet c cs cs' t r r') : HSet c cs cs' t (x :: r) (x :: r')
theorem HSet.split {c : Nat} {cs cs' : List Value} {t : TypeId} {H H' : List Blk} (h : HSet c cs cs' t H H') : ∃ A B,H = A ++ ⟨c,cs,t⟩ :: B ∧ H' = A ++ ⟨c,cs',t⟩ :: B := by
 induction h with
 | here => exact ⟨[],_,rfl,rfl⟩
 | @there x r r' h ih => obtain ⟨A,B,rfl,rfl⟩ := ih;exact ⟨x :: A,B,rfl,rfl⟩
theorem HSet.mem {c : Nat} {cs cs' : List Value} {t : TypeId} {H H' : List Blk} (h : HSet c cs cs' t H H') : (⟨c,cs,t⟩ : Blk) ∈ H := by
 obtain ⟨A,B,rfl,rfl⟩ := h.split;simp
theorem Hp.hset {w0 w w' : World} {H H' : List Blk} {c : Nat} {cs cs' : List Value} {t : TypeId} (h : Hp w0 H w) (hs : HSet c cs cs' t H H') (u : Upd (· = c) w w') (hc : w'.heap[c]? = some (.cells cs'.toArray t (0,0))) : Hp w0 H' w' := by
 obtain ⟨A,B,rfl,rfl⟩ := hs.split
 exact h.set u hc
theorem Hp.callSet {w0 w w' : World} {H H' : List Blk} {c : Nat} {cs cs' : List Value} {t : TypeId} (h : Hp w0 H w) (hs : HSet c cs cs' t H H') (k : Hp w [⟨c,cs',t⟩] w') : Hp w0 H' w' :=
 h.hset hs (k.upd.mono fun j _ hj => Classical.byContradiction fun e => hj ⟨fun x => e x.symm,trivial⟩) k.own.1
theorem Hp.drop {w0 w : World} {H : List Blk} (h : Hp w0 H w) (hn : ∀ x ∈ H,w0.heap.size ≤ x.b) : Hp w0 [] w :=
 ⟨h.upd.mono fun _ hk hs => (hs (Off.of fun x hx e => by have := hn x hx;omega)).elim,trivial,trivial⟩
theorem Hp.keep {w0 w w' : World} {H : List Blk} (h : Hp w0 H w) (k : Hp w [] w') : Hp w0 H w' := h.step k.upd (fun _ _ x => x trivial) (fun _ _ x => (x trivial).elim)
theorem Hp.cell {w0 w : World} {H : List Blk} (h : Hp w0 H w) {c i : Nat} {cs : List Value} {t : TypeId} {v : Value} (hm : (⟨c,cs,t⟩ : Blk) ∈ H) (hi : cs[i]? = some v) : w.cell? ⟨c,i,none⟩ = some v := by
 rw [cellAt (h.own.at hm)];simpa using hi
theorem Hp.free {w0 w : World} {H : List Blk} (h : Hp w0 H w) {c i : Nat} {cs : List Value} {t : TypeId} (hm : (⟨c,cs,t⟩ : Blk) ∈ H) : w.frozen? ⟨c,i,none⟩ = false := freeAt (h.own.at hm) i
theorem Hp.old {w0 w : World} {H : List Blk} (h : Hp w0 H w) {a : Addr} {v : Value} (hc : w0.cell? a = some v) (ho : Off H a.block) : w.cell? a = some v := h.upd.cell hc fun x => x ho
end Go.Pt
end
section
namespace Go.Pt
def effB (o : Oper) : Bool := match o.op with
 | .call { callee := .builtin .len,.. } => false
 | .call _ | .store .. | .alloc _ | .box .. | .buildSlice .. | .makeSlice .. | .makeMap .. | .mapUpdate .. | .insert .. | .mapEntry .. | .entryStore .. => true
 | _ => false
section
variable {P : Program} {ops : Array Oper} {C : World → Prop}
def wpE (P : Program) (ops : Array Oper) (C : World → Prop) (Q : Act → World → Prop) : List Oper → Act → World → Prop
 | [],a,w => Q a w
 | o :: rest,a,w =>
  if Region.wanted o (yielded ops a.tmps) then
   if effB o then o.wp P a w (fun a' w' => C w' ∧ wpE P ops C Q rest a' w') (fun _ _ _ => False)
   else ∃ v,(∀ w',C w' → (execOp a.eval o).run P w' = .ok (.value v) w') ∧ wpE P ops C Q rest (a.put o.dst v) w
  else wpE P ops C Q rest (a.put o.dst undef) w
def onlyN (Q : Act → World → Prop) : Exit → Act → World → Prop
 | .normal,a,w => Q a w
 | _,_,_ => False
def wpAnyC (P : Program) (ops : Array Oper) (C : World → Prop) (Q : Act → World → Prop) : Nat → Array Bool → Act → World → Prop
 | 0,listed,a,w => C w ∧ Region.ready .any ops listed = [] ∧ Q a w
 | n + 1,listed,a,w => C w ∧ (Region.ready .any ops listed = [] → Q a w) ∧ ∀ i ∈ Region.ready .any ops listed,wpOp P ops (onlyN Q) i (wpAnyC P ops C Q n (listed.setIfInBounds i true)) a w
theorem wpAny_of_C {Q : Act → World → Prop} : ∀ (n : Nat) (listed : Array Bool) (a : Act) (w : World),wpAnyC P ops C Q n listed a w → wpAny P .any ops (onlyN Q) n listed a w
 | 0,_,_,_,h => ⟨h.2.1,h.2.2⟩
 | n + 1,_,_,_,h => ⟨h.2.1,fun i hi => wpOp_mono (fun a' w' hh => wpAny_of_C n _ a' w' hh) (h.2.2 i hi)⟩
def YC (P : Program) (ops : Array Oper) (C : World → Prop) (o : Oper) (v : Value) (a : Act) : Prop :=
 (Region.wanted o (yielded ops a.tmps) = true ∧ ∀ w,C w → (execOp a.eval o).run P w = .ok (.value v) w) ∨ (Region.wanted o (yielded ops a.tmps) = false ∧ v = undef)
theorem YC.same {o : Oper} {v : Value} {a a' : Act} (hy : YC P ops C o v a) (he : execOp a'.eval o = execOp a.eval o) (hw : Region.wanted o (yielded ops a'.tmps) = Region.wanted o (yielded ops a.tmps)) : YC P ops C o v a' := by
 unfold YC at *;rw [he,hw];exact hy
theorem YC.now {i : Nat} {o : Oper} {v : Value} {a : Act} {w : World} (hi : ops[i]? = some o) (hy : YC P ops C o v a) (hC : C w) {Q : Exit → Act → World → Prop} {K : Act → World → Prop} (h : K (a.put o.dst v) w) : wpOp P ops Q i K a w := by
 unfold wpOp
 simp only [hi]
 rcases hy with ⟨hw,hv⟩ | ⟨hw,rfl⟩
 ·rw [if_pos hw];refine .inl ?_;simp only [Oper.wp,hv w hC,Oper.upon];exact h
 ·rw [hw];exact h
theorem wpOp_swap {j : Nat} {oi oj : Oper} {v : Value} {Q : Act → World → Prop} (hj : ops[j]? = some oj) (hap : oi.apart ops oj = true) (hsi : ∀ cs b,oi.op ≠ .select cs b) (hsj : ∀ cs b,oj.op ≠ .select cs b)
  {K : Act → World → Prop} {a : Act} {w : World} (hy : YC P ops C oi v a) (h : wpOp P ops (onlyN Q) j K (a.put oi.dst v) w) :
  wpOp P ops (onlyN Q) j (fun a' w' => YC P ops C oi v a' ∧ K (a'.put oi.dst v) w') a w := by
 obtain ⟨h1,h2,h3⟩ := Oper.apart_spec hap
 have keep : ∀ (a : Act),YC P ops C oi v a → ∀ u,YC P ops C oi v (a.put oj.dst u) := fun a hy u => hy.same (execOp_put oi hsi a oj.dst u h3) (wanted_put oi a oj.dst u h3)
 have keepD : ∀ d,YC P ops C oi v { a with defers := d :: a.defers } := fun d => hy.same rfl rfl
 have noOut : ¬ LetsOut (onlyN Q) := fun ⟨_,_,h⟩ => h
 unfold wpOp at *
 simp only [hj] at *
 rw [wanted_put oj a oi.dst v h1] at h
 by_cases hw : Region.wanted oj (yielded ops a.tmps) = true
 ·rw [if_pos hw] at h ⊢
  rcases h with h | ⟨_,hout⟩
  case inr => exact (noOut hout).elim
  refine .inl ?_
  unfold Oper.wp at *
  rw [execOp_put oj hsj a oi.dst v h1] at h
  generalize (execOp a.eval oj).run P w = r at *
  cases r with
  | halt x w' => cases x <;> simp only [Oper.upon,onlyN] at h
  | ok n w' =>
   cases n <;> simp only [Oper.upon] at h ⊢
   case value u => exact ⟨keep a hy u,by rw [← Act.put_comm a v u h2];exact h⟩
   case skip => exact ⟨keep a hy _,by rw [← Act.put_comm a v undef h2];exact h⟩
   case defer d => exact ⟨keep _ (keepD d) _,by rw [← Act.put_comm _ v undef h2,← Act.put_defers];exact h⟩
   case enter f args =>
    refine Calls.mono h fun e w'' he => ?_
    cases e with
    | returned u => exact ⟨keep a hy u,by rw [← Act.put_comm a v u h2];exact he⟩
    | panicked c => exact he.elim
    | outgrown => exact (noOut he).elim
   case row row args => exact Rows.mono h fun u w'' he => ⟨keep a hy u,by rw [← Act.put_comm a v u h2];exact he⟩
 ·rw [if_neg hw] at h ⊢
  exact ⟨keep a hy _,by rw [← Act.put_comm a v undef h2];exact h⟩
theorem firstC {Q : Act → World → Prop} {i : Nat} {oi : Oper} {v : Value} (hi : ops[i]? = some oi) (hsel : Region.noSelect ops = true) :
  ∀ (n : Nat) (listed : Array Bool) (a : Act) (w : World),
   (∀ j oj,ops[j]? = some oj → j ≠ i → listed.getD j true = false → (∀ e ∈ oj.after,Region.binds .any e = true → e.on ≠ i) → oi.apart ops oj = true) →
   i ∈ Region.ready .any ops listed → YC P ops C oi v a → wpAnyC P ops C Q n (listed.setIfInBounds i true) (a.put oi.dst v) w → wpAnyC P ops C Q (n + 1) listed a w := by
 have hs := fun j o cs b => Region.noSelect_spec hsel j o cs b
 intro n
 induction n with
 | zero =>
  intro listed a w _ hr hy H
  refine ⟨H.1,fun h => (by rw [h] at hr;cases hr),fun j hj => ?_⟩
  by_cases hji : j = i
  ·subst hji;exact hy.now hi H.1 H
  ·have := ready_mono hj hji
   rw [H.2.1] at this
   cases this
 | succ n ih =>
  intro listed a w hfree hr hy H
  refine ⟨H.1,fun h => (by rw [h] at hr;cases hr),fun j hj => ?_⟩
  by_cases hji : j = i
  ·subst hji;exact hy.now hi H.1 H
  ·have h1 := H.2.2 j (ready_mono hj hji)
   obtain ⟨hjun,oj,hoj,hall⟩ := mem_ready.1 hj
   have hnot : ∀ e ∈ oj.after,Region.binds .any e = true → e.on ≠ i := fun e he hb heq => by
    have h1 := hall e he hb
    have h0 := (mem_ready.1 hr).1
    rw [heq] at h1
    rcases Nat.lt_or_ge i listed.size with h' | h'
    ·simp [h'] at h0 h1;rw [h0] at h1;cases h1
    ·simp [Array.getElem?_eq_none h'] at h1
   have h2 := wpOp_swap hoj (hfree j oj hoj hji hjun hnot) (fun cs b => hs i oi cs b hi) (fun cs b => hs j oj cs b hoj) hy h1
   have hfree' : ∀ k ok,ops[k]? = some ok → k ≠ i → (listed.setIfInBounds j true).getD k true = false → (∀ e ∈ ok.after,Region.binds .any e = true → e.on ≠ i) → oi.apart ops ok = true := fun k ok hk hki hun hno => by
    refine hfree k ok hk hki ?_ hno
    by_cases hjk : j = k
    ·subst hjk;exact hjun
    ·rw [getD_set_ne true hjk] at hun;exact hun
   refine wpOp_mono (fun a' w' h3 => ih (listed.setIfInBounds j true) a' w' hfree' (ready_mono hr (Ne.symm hji)) h3.1 ?_) h2
   rw [Array.setIfInBounds_comm _ _ hji]
   exact h3.2
end
end Go.Pt
end
section
namespace Go.Pt
open Go.RowKit
inductive LSet : List Value → Nat → Value → List Value → Prop
 | z {x v : Value} {r : List Value} : LSet (x :: r) 0 v (v :: r)
 | s {x v : Value} {r r' : List Value} {n : Nat} (h : LSet r n v r') : LSet (x :: r) (n + 1) v (x :: r')
theorem LSet.out {l l' : List Value} {i : Nat} {v : Value} (h : LSet l i v l') : i < l.length ∧ l.set i v = l' := by
 induction h with
 | z => simp
 | s h ih => simpa using ih
inductive LOver : List Value → List Value → List Value → Prop
 | nil {l : List Value} : LOver l [] l
 | cons {x y : Value} {r r' xs : List Value} (h : LOver r xs r') : LOver (y :: r) (x :: xs) (x :: r')
inductive LPut : List Value → Nat → List Value → List Value → Prop
 | z {l l' xs : List Value} (h : LOver l xs l') : LPut l 0 xs l'
 | s {x : Value} {r r' xs : List Value} {n : Nat} (h : LPut r n xs r') : LPut (x :: r) (n + 1) xs (x :: r')
theorem LOver.out {l l' xs : List Value} (h : LOver l xs l') : xs.length ≤ l.length ∧ l' = xs ++ l.drop xs.length := by
 induction h with
 | nil => simp
 | cons h ih => obtain ⟨h1,h2⟩ := ih;exact ⟨by simpa using h1,by simpa using h2⟩
theorem LPut.out {l l' xs : List Value} {n : Nat} (h : LPut l n xs l') : n + xs.length ≤ l.length ∧ l.take n ++ xs ++ l.drop (n + xs.length) = l' := by
 induction h with
 | z h => obtain ⟨h1,h2⟩ := h.out;exact ⟨by simpa using h1,by simp [h2]⟩
 | @s x r r' xs n h ih =>
  obtain ⟨h1,h2⟩ := ih
  refine ⟨by simp;omega,?_⟩
  rw [← h2,show n + 1 + xs.length = (n + xs.length) + 1 by omega]
  simp
inductive LSub : List Value → Nat → Nat → List Value → Prop
 | z {l : List Value} : LSub l 0 0 []
 | t {x : Value} {r xs : List Value} {n : Nat} (h : LSub r 0 n xs) : LSub (x :: r) 0 (n + 1) (x :: xs)
 | s {x : Value} {r xs : List Value} {i n : Nat} (h : LSub r i n xs) : LSub (x :: r) (i + 1) n xs
theorem LSub.out {l xs : List Value} {i n : Nat} (h : LSub l i n xs) : (l.drop i).take n = xs ∧ xs.length = n := by
 induction h with
 | z => simp
 | t h ih => simpa using ih
 | s h ih => simpa using ih
def aggB (P : Program) (t : Nat) : Bool := match P.underlying t with | some (.struct _) | some (.array _ _) => true | _ => false
def sizeB (P : Program) (t : Nat) : Nat := ((P.info? t).map (·.size)).getD 0
def fieldB (P : Program) (t i : Nat) : Option (Nat × Nat × Bool) := match P.underlying t with
 | some (.struct fs) => (fs[i]?).map fun f => (f.offset,f.type,!(Nat.beq (sizeB P f.type) 0))
 | _ => none
class TyD (P : Program) (t : Nat) (d : outParam TypeDesc) : Prop where
 out : P.underlying t = some d
class TyS (P : Program) (t : Nat) (size bytes : outParam Nat) : Prop where
 out : (P.info? t).map (fun i => (i.size,i.bytes)) = some (size,bytes)
class TyZ (P : Program) (t : Nat) (z : outParam Value) : Prop where
 out : (P.info? t).bind (fun i => i.zero) = some z
class TyC (P : Program) (t : Nat) : Prop where
 out : (P.underlying t).isSome = true ∧ aggB P t = false ∧ (P.info? t).map (fun i => i.size) = some 1
class TyA (P : Program) (t : Nat) (n : outParam Nat) : Prop where
 out : aggB P t = true ∧ (P.info? t).map (fun i => i.size) = some n
class Fld (P : Program) (t i : Nat) (off ft : outParam Nat) : Prop where
 out : fieldB P t i = some (off,ft,true)
class Ent (P : Program) (f : Nat) : Prop where
 out : ∀ args w,(callFunc f args).run P w = .ok (.enter f args) w
section
variable {P : Program} {w : World}
theorem ent_of {P : Program} {f : Nat} {fn : Func} (h1 : P.funcs[f]? = some fn) (h2 : (fn.name == "runtime.NumGoroutine") = false) (h3 : fn.body.isNone = false) : Ent P f :=
 ⟨fun args w => by
  have h2' : ¬ fn.name = "runtime.NumGoroutine" := by simpa using h2
  have h3' : ¬ fn.body = none := by cases hb : fn.body <;> simp_all
  simp [callFunc,h1,h2',h3']⟩
theorem run_size {t s b : Nat} [h : TyS P t s b] : (sizeOf t).run P w = .ok s w := by
 have h := h.out
 cases e : P.info? t with
 | none => rw [e] at h;cases h
 | some i => rw [e] at h;simp at h;simp [sizeOf,typeInfo,e,h.1]
theorem run_sizeA {t n : Nat} [h : TyA P t n] : (sizeOf t).run P w = .ok n w := by
 have h := h.out.2
 cases e : P.info? t with
 | none => rw [e] at h;cases h
 | some i => rw [e] at h;simp at h;simp [sizeOf,typeInfo,e,h]
theorem run_zero {t : Nat} {z : Value} [h : TyZ P t z] : (zeroValue t).run P w = .ok z w := by
 have h := h.out
 cases e : P.info? t with
 | none => rw [e] at h;cases h
 | some i => rw [e] at h;simp at h;simp [zeroValue,typeInfo,e,h]
theorem run_aggC {t : Nat} [h : TyC P t] : (isAgg t).run P w = .ok false w := by
 obtain ⟨h1,h2,_⟩ := h.out
 unfold aggB at h2
 cases e : P.underlying t with
 | none => rw [e] at h1;cases h1
 | some d => rw [e] at h2;cases d <;> simp_all [isAgg,run_underlying e]
theorem run_aggA {t n : Nat} [h : TyA P t n] : (isAgg t).run P w = .ok true w := by
 obtain ⟨h2,_⟩ := h.out
 unfold aggB at h2
 cases e : P.underlying t with
 | none => rw [e] at h2;cases h2
 | some d => rw [e] at h2;cases d <;> simp_all [isAgg,run_underlying e]
theorem run_loadC {t : Nat} [TyC P t] {a : Addr} {v : Value} (h : w.cell? a = some v) : (loadVar t a).run P w = .ok v w := by
 simp [loadVar,run_aggC,h]
theorem run_loadA {t n : Nat} [TyA P t n] {a : Addr} {xs : List Value} (hn : xs.length = n) (h : ∀ i v,xs[i]? = some v → w.cell? (a.add i) = some v) : (loadVar t a).run P w = .ok (.agg xs.toArray) w := by
 have := run_loadCells_list (P := P) w a xs h
 subst hn
 simp [loadVar,run_aggA,run_sizeA,this]
end
inductive Parts (Γ : Env) : List (Nat × Operand) → List (Nat × Value) → Prop
 | nil : Parts Γ [] []
 | cons {i : Nat} {x : Operand} {v : Value} {r : List (Nat × Operand)} {r' : List (Nat × Value)} (h : ev Γ x = some v) (hs : Parts Γ r r') : Parts Γ ((i,x) :: r) ((i,v) :: r')
theorem Parts.map {N : Nat} {a : Act} {Γ : Env} {parts : Array (Nat × Operand)} {ps : List (Nat × Value)} (hp : Parts Γ parts.toList ps) (ha : Fr N a Γ) : (parts.map fun (i,x) => (i,a.eval x)) = ps.toArray := by
 obtain ⟨l⟩ := parts
 simp only at hp
 simp only [List.map_toArray]
 congr 1
 induction hp with
 | nil => rfl
 | cons h hs ih => simp [ha.ev h,ih]
inductive Evs (Γ : Env) : List Operand → List Value → Prop
 | nil : Evs Γ [] []
 | cons {x : Operand} {v : Value} {r : List Operand} {r' : List Value} (h : ev Γ x = some v) (hs : Evs Γ r r') : Evs Γ (x :: r) (v :: r')
theorem Evs.map {N : Nat} {a : Act} {Γ : Env} {xs : List Operand} {vs : List Value} (hp : Evs Γ xs vs) (ha : Fr N a Γ) : (xs.map a.eval) = vs := by
 induction hp with
 | nil => rfl
 | cons h hs ih => simp [ha.ev h,ih]
inductive BoundIs (Γ : Env) : Option Operand → Nat → Nat → Prop
 | no {n : Nat} : BoundIs Γ none n n
 | yes {x : Operand} {k : IntKind} {j : Int} {n : Nat} (h : ev Γ x = some (.int k j)) (h0 : 0 ≤ j) : BoundIs Γ (some x) n j.toNat
theorem bounds_run {P : Program} {w : World} {N : Nat} {a : Act} {Γ : Env} (ha : Fr N a Γ) {lo hi mx : Option Operand} {n c l h' m : Nat} (hlo : BoundIs Γ lo 0 l) (hhi : BoundIs Γ hi n h') (hmx : BoundIs Γ mx c m)
  (hs : mx.isSome = true → hi.isSome = true) (h1 : l ≤ h') (h2 : h' ≤ m) (h3 : m ≤ c) : (Instr.sliceBounds true n c (lo.map a.eval) (hi.map a.eval) (mx.map a.eval)).run P w = .ok (l,h',m) w := by
 have bd : ∀ (x : Operand) (k : IntKind) (j : Int) (y : Nat) (code : BoundsCode),ev Γ x = some (.int k j) → 0 ≤ j → j.toNat ≤ y → (Instr.sliceBound (a.eval x) y code).run P w = .ok j.toNat w := by
  intro x k j y code hx h0 hy
  simp only [Instr.sliceBound,ha.ev hx,asIntOf,pure_bind]
  rw [if_pos kc]
  simp
 cases hmx with
 | no =>
  cases hhi with
  | no => cases hlo with
   | no => simp [Instr.sliceBounds]
   | yes hx h0 => simp [Instr.sliceBounds,bd _ _ _ _ _ hx h0 h1]
  | yes hy g0 => cases hlo with
   | no => simp [Instr.sliceBounds,bd _ _ _ _ _ hy g0 h2]
   | yes hx h0 => simp [Instr.sliceBounds,bd _ _ _ _ _ hy g0 h2,bd _ _ _ _ _ hx h0 h1]
 | yes hz k0 =>
  cases hhi with
  | no => simp at hs
  | yes hy g0 => cases hlo with
   | no => simp [Instr.sliceBounds,bd _ _ _ _ _ hz k0 h3,bd _ _ _ _ _ hy g0 h2]
   | yes hx h0 => simp [Instr.sliceBounds,bd _ _ _ _ _ hz k0 h3,bd _ _ _ _ _ hy g0 h2,bd _ _ _ _ _ hx h0 h1]
theorem run_eql_nilp {P : Program} {w : World} {t e : TypeId} (h : P.underlying t = some (.pointer e)) (p : Option Addr) : (binOp .eql t (.pointer p) (.pointer none)).run P w = .ok (.bool p.isNone) w :=
 run_eql_pointer_nil w t p (by rw [h];simp [Program.pointee,h])
theorem run_neq_nilp {P : Program} {w : World} {t e : TypeId} (h : P.underlying t = some (.pointer e)) (p : Option Addr) : (binOp .neq t (.pointer p) (.pointer none)).run P w = .ok (.bool (!p.isNone)) w :=
 run_neq_pointer_nil w t p (by rw [h];simp [Program.pointee,h])
inductive Fills (place : Nat → Option (Nat × Nat)) : List Value → List (Nat × Value) → List Value → Prop
 | nil {cs : List Value} : Fills place cs [] cs
 | one {i off : Nat} {v : Value} {cs cs1 cs2 : List Value} {r : List (Nat × Value)} (hp : place i = some (off,1)) (h1 : v.oneCell' = true) (hs : LSet cs off v cs1) (h : Fills place cs1 r cs2) : Fills place cs ((i,v) :: r) cs2
 | agg {i off n : Nat} {xs cs cs1 cs2 : List Value} {r : List (Nat × Value)} (hp : place i = some (off,n)) (hn : Nat.beq xs.length n = true) (hs : LPut cs off xs cs1) (h : Fills place cs1 r cs2) : Fills place cs ((i,.agg xs.toArray) :: r) cs2
theorem foldl_set (xs : List Value) : ∀ (off k : Nat) (cs : Array Value),off + k + xs.length ≤ cs.size →
  ((xs.zipIdx k).foldl (fun cs (x : Value × Nat) => cs.setIfInBounds (off + x.2) x.1) cs) = (cs.toList.take (off + k) ++ xs ++ cs.toList.drop (off + k + xs.length)).toArray := by
 induction xs with
 | nil => intro off k cs _;simp
 | cons x xs ih =>
  intro off k cs h
  simp only [List.length_cons] at h
  simp only [List.zipIdx_cons,List.foldl_cons]
  rw [ih off (k + 1) _ zi]
  congr 1
  have e := list_seg_step cs.toList (off + k) x xs zi
  simpa [Array.toList_setIfInBounds,Nat.add_assoc] using e
theorem fill_step {place : Nat → Option (Nat × Nat)} {i off : Nat} {cs cs1 : Array Value} {v : Value} {xs : List Value} {r : List (Nat × Value)} (hv : v.cells = xs.toArray) (hp : place i = some (off,xs.length)) (hle : off + xs.length ≤ cs.size)
  (h1 : (cs.toList.take off ++ xs ++ cs.toList.drop (off + xs.length)).toArray = cs1) : Instr.fill place cs ((i,v) :: r) = Instr.fill place cs1 r := by
 simp only [Instr.fill,hp,hv]
 have : ¬ (off + xs.length > cs.size) := by omega
 simp [this]
 have e := foldl_set xs off 0 cs kc
 simp only [Nat.add_zero] at e
 rw [← h1,← e]
theorem fill_of {cs cs' : List Value} {ps : List (Nat × Value)} {place : Nat → Option (Nat × Nat)} (h : Fills place cs ps cs') : Instr.fill place cs.toArray ps = some cs'.toArray := by
 induction h with
 | nil => rfl
 | @one i off v cs cs1 cs2 r hp h1 hset h ih =>
  obtain ⟨hlt,hset⟩ := hset.out
  rw [fill_step (v := v) (xs := [v]) (cs1 := cs1.toArray) (by cases v <;> simp_all [Value.cells,Value.oneCell']) hp zi ?_,ih]
  rw [← hset]
  simp only [List.length_singleton]
  rw [List.set_eq_take_append_cons_drop]
  simp [hlt]
 | @agg i off n xs cs cs1 cs2 r hp hn hput h ih =>
  have hn : xs.length = n := Nat.eq_of_beq_eq_true hn
  obtain ⟨hle,hput⟩ := hput.out
  rw [fill_step (v := .agg xs.toArray) (xs := xs) (cs1 := cs1.toArray) rfl (by rw [hp,hn]) (by simpa using hle) (by rw [← hput]),ih]
inductive LApp : List Value → List Value → List Value → Prop
 | nil {l : List Value} : LApp [] l l
 | cons {x : Value} {xs l r : List Value} (h : LApp xs l r) : LApp (x :: xs) l (x :: r)
theorem LApp.out {xs l r : List Value} (h : LApp xs l r) : r = xs ++ l := by
 induction h with
 | nil => rfl
 | cons h ih => rw [ih];rfl
inductive CatP (sz : Nat) : Nat → List (Nat × Value) → List Value → Prop
 | nil {i : Nat} : CatP sz i [] []
 | one {i : Nat} {v : Value} {r : List (Nat × Value)} {cs : List Value} (h1 : v.oneCell' = true) (hs : Nat.beq sz 1 = true) (h : CatP sz (i + 1) r cs) : CatP sz i ((i,v) :: r) (v :: cs)
 | agg {i : Nat} {xs : List Value} {r : List (Nat × Value)} {cs ys : List Value} (hs : Nat.beq xs.length sz = true) (h : CatP sz (i + 1) r cs) (ha : LApp xs cs ys) : CatP sz i ((i,.agg xs.toArray) :: r) ys
theorem CatP.fill {sz i : Nat} {ps : List (Nat × Value)} {cs : List Value} (h : CatP sz i ps cs) : ∀ (pre rest : List Value),pre.length = i * sz → rest.length = ps.length * sz →
  Instr.fill (fun j => some (j * sz,sz)) (pre ++ rest).toArray ps = some (pre ++ cs).toArray := by
 induction h with
 | nil => intro pre rest h1 h2;simp at h2;subst h2;rfl
 | @one i v r cs h1 hs h ih =>
  intro pre rest hp hr
  have := Nat.eq_of_beq_eq_true hs
  subst this
  simp at hp hr
  obtain ⟨y,rest,rfl⟩ := List.exists_cons_of_length_eq_add_one hr
  rw [fill_step (v := v) (xs := [v]) (off := i * 1) (cs1 := ((pre ++ [v]) ++ rest).toArray) (by cases v <;> simp_all [Value.cells,Value.oneCell']) rfl zi ?_,ih (pre ++ [v]) rest zi j6]
  ·simp
  ·simp [← hp]
 | @agg i xs r cs ys hs h ha ih =>
  intro pre rest hp hr
  have hx := Nat.eq_of_beq_eq_true hs
  have hr' : rest.length = r.length * sz + sz := by rw [hr,List.length_cons,Nat.succ_mul]
  rw [fill_step (v := .agg xs.toArray) (xs := xs) (off := i * sz) (cs1 := ((pre ++ xs) ++ rest.drop sz).toArray) rfl (by rw [hx]) zi ?_,ih (pre ++ xs) (rest.drop sz) (by simp [hp,hx,Nat.succ_mul]) zi]
  ·rw [ha.out];simp
  ·rw [← hp,hx];simp
theorem run_buildSlice_cat {P : Program} {w : World} {t e sz by_ n : Nat} {z : Value} {ps : List (Nat × Value)} {cs : List Value} [hd : TyD P t (.slice e)] [hs : TyS P e sz by_] [hz : TyZ P e z] (hn : Nat.beq ps.length n = true) (hb : Nat.ble (n * sz) 16777216 = true) (hF : CatP sz 0 ps cs) :
  (Instr.buildSlice t n ps.toArray).run P w = .ok (.slice (some ⟨w.heap.size,0,none⟩) n n) (w.alloc (.cells cs.toArray e)) := by
 have hn := Nat.eq_of_beq_eq_true hn
 have hb' := Nat.le_of_ble_eq_true hb
 have key : ∀ zc : Array Value,Instr.fill (fun i => some (i * sz,sz)) ((Array.range (n * sz)).map (zc[· % zc.size]!)) ps = some cs.toArray := by
  intro zc
  have := hF.fill [] (((Array.range (n * sz)).map (zc[· % zc.size]!)).toList) zd (by simp [hn])
  rw [List.nil_append,Array.toArray_toList,List.nil_append] at this
  exact this
 have hgt : ¬ (n * sz > 2 ^ 24) := by simp;omega
 simp only [Instr.buildSlice,Sem.run_bind,run_underlying hd.out,Result.andThen_ok,run_size (P := P) (t := e),if_neg hgt,pure_bind]
 by_cases h0 : n * sz = 0
 ·have k := key #[]
  simp only [if_pos h0,pure_bind,k,newRow,Sem.run_bind,run_newObj,Result.andThen_ok,Sem.run_pure]
  rfl
 ·simp [h0,run_zero (P := P) (t := e),key,newRow]
def placesB (P : Program) (t : Nat) : Option (List (Nat × Nat) × Value) :=
 match P.info? t,P.underlying t with
 | some it,some (.struct fields) => match it.zero,fields.toList.mapM (fun f => (P.info? f.type).map fun i => (f.offset,i.size)) with
  | some z,some pl => some (pl,z)
  | _,_ => none
 | _,_ => none
class TyP (P : Program) (t : Nat) (pl : outParam (List (Nat × Nat))) (z : outParam (List Value)) : Prop where
 out : placesB P t = some (pl,.agg z.toArray)
theorem run_build_struct {P : Program} {w : World} {t : Nat} {pl : List (Nat × Nat)} {z cs : List Value} {ps : List (Nat × Value)} [h : TyP P t pl z] (hF : Fills (pl.toArray[·]?) z ps cs) : (Instr.build t ps.toArray).run P w = .ok (.agg cs.toArray) w := by
 refine run_build w t _ _ ?_
 have h := h.out
 unfold placesB at h
 unfold Program.built
 split at h <;> try cases h
 rename_i it fields e1 e2
 split at h <;> try cases h
 rename_i z' pl' e3 e4
 simp only [e1,e2,e3,e4]
 simpa [Value.cells] using fill_of hF
theorem run_build_array {P : Program} {w : World} {t n e sz by_ : Nat} {z cs : List Value} {ps : List (Nat × Value)} [hd : TyD P t (.array n e)] [hs : TyS P e sz by_] [hz : TyZ P t (.agg z.toArray)] (hF : Fills (fun i => some (i * sz,sz)) z ps cs) : (Instr.build t ps.toArray).run P w = .ok (.agg cs.toArray) w := by
 refine run_build w t _ _ ?_
 have h1 := hz.out
 have h2 := hs.out
 unfold Program.built
 cases e1 : P.info? t with
 | none => rw [e1] at h1;cases h1
 | some it =>
  cases e2 : P.info? e with
  | none => rw [e2] at h2;cases h2
  | some ie =>
   rw [e1] at h1;rw [e2] at h2
   simp at h1 h2
   simp only [hd.out,h1,e2,h2.1]
   simpa [Value.cells] using fill_of hF
def strOf (l : List UInt8) : ByteArray := ⟨l.toArray⟩
theorem strBeq (a b : List UInt8) : ((strOf a).toList == (strOf b).toList) = decide (a = b) := by
 rw [ByteArray.toList_eq,ByteArray.toList_eq]
 show (a == b) = decide (a = b)
 rw [Bool.eq_iff_iff];simp
inductive Md where
 | seq
 | quiet
 | mix (D : World → Prop)
def Wl (l : List Oper) (P : Program) (md : Md) (ops : Array Oper) (N : Nat) (Γ : Env) (C : World → Prop) (Q : Exit → Act → World → Prop) : Prop :=
 match md with
 | .seq => ∀ a w,Fr N a Γ → C w → wpList P ops Q l a w
 | .quiet => ∀ a,Fr N a Γ → wpQuiet P ops C (fun a' => ∀ w',C w' → Q .normal a' w') l a
 | .mix D => ∀ a w,Fr N a Γ → D w → C w → wpE P ops C (fun a' w' => Q .normal a' w') l a w
def St (c : Code) (P : Program) (N : Nat) (Γ : Env) (C : World → Prop) (Q : Exit → Act → World → Prop) : Prop := ∀ a w,Fr N a Γ → C w → c.wp P Q a w
def Gt (N : Nat) (e : Exit) (Γ : Env) (C : World → Prop) (Q : Exit → Act → World → Prop) : Prop := ∀ a w,Fr N a Γ → C w → Q e a w
section
variable {P : Program} {md : Md} {ops : Array Oper} {N : Nat} {rest l : List Oper} {Γ : Env} {C : World → Prop} {Q K : Exit → Act → World → Prop}
theorem Wl.nil (h : Gt N .normal Γ C Q) : Wl [] P .seq ops N Γ C Q := fun a w ha hw => h a w ha hw
theorem Wl.nilQ (h : Gt N .normal Γ C Q) : Wl [] P .quiet ops N Γ C Q := fun a ha w hw => h a w ha hw
theorem Wl.nilM {D : World → Prop} (h : Gt N .normal Γ D Q) : Wl [] P (.mix D) ops N Γ C Q := fun a w ha hd _ => h a w ha hd
theorem Wl.val {d : Nat} {op : Op} {ty : TypeId} {pos : String} {af : Array Edge} {v : Value} (hd : Nat.blt d N = true)
  (hr : ∀ a w,Fr N a Γ → C w → (execOp a.eval ⟨some d,op,ty,pos,af,none⟩).run P w = .ok (.value v) w)
  (h : Wl rest P md ops N ((d,v) :: Γ) C Q) : Wl (⟨some d,op,ty,pos,af,none⟩ :: rest) P md ops N Γ C Q := by
 cases md
 ·intro a w ha hw
  refine wpList_plain rfl fun K hK => ?_
  simp only [Oper.wp,hr a w ha hw,Oper.upon]
  exact hK _ _ (h _ _ (ha.put hd v) hw)
 ·intro a ha
  simp only [wpQuiet,Region.wanted,if_true]
  exact ⟨v,fun w hw => by simp [Oper.quietAt,hr a w ha hw,Oper.quietUpon],h _ (ha.put hd v)⟩
 ·intro a w ha hD hw
  simp only [wpE,Region.wanted,if_true]
  split
  ·simp only [Oper.wp,hr a w ha hw,Oper.upon];exact ⟨hw,h _ _ (ha.put hd v) hD hw⟩
  ·exact ⟨v,fun w' hw' => hr a w' ha hw',h _ _ (ha.put hd v) hD hw⟩
theorem Wl.eff {d : Option Nat} {op : Op} {ty : TypeId} {pos : String} {af : Array Edge}
  (hr : ∀ a w,Fr N a Γ → C w → ∃ v w',((execOp a.eval ⟨d,op,ty,pos,af,none⟩).run P w = .ok (.value v) w' ∨ ((execOp a.eval ⟨d,op,ty,pos,af,none⟩).run P w = .ok .skip w' ∧ v = undef)) ∧
   wpList P ops Q rest (a.put d v) w') : Wl (⟨d,op,ty,pos,af,none⟩ :: rest) P .seq ops N Γ C Q := by
 intro a w ha hw
 obtain ⟨v,w',h1,h2⟩ := hr a w ha hw
 refine wpList_plain rfl fun K hK => ?_
 rcases h1 with h1 | ⟨h1,rfl⟩
 ·simp only [Oper.wp,h1,Oper.upon];exact hK _ _ h2
 ·simp only [Oper.wp,h1,Oper.upon];exact hK _ _ h2
theorem Wl.cls {C' : World → Prop} (hc : ∀ w,C w → C' w) (h : Wl l P .seq ops N Γ C' Q) : Wl l P .seq ops N Γ C Q := fun a w ha hw => h a w ha (hc w hw)
theorem Wl.reb {H' : List Blk} (h : ∀ w,C w → Own w H' ∧ Apart H' ∧ Wl l P .seq ops N Γ (Hp w H') Q) : Wl l P .seq ops N Γ C Q := fun a w ha hw => by
 obtain ⟨h1,h2,h3⟩ := h w hw
 exact h3 a w ha ⟨Upd.refl _ _,h1,h2⟩
theorem yielded_of {a : Act} (ha : Fr N a Γ) {j t : Nat} {b : Bool} (hj : (ops[j]?).bind (·.dst) = some t) (ht : look Γ t = some (.bool b)) : yielded ops a.tmps j = some b := by
 simp [yielded,hj,ha.get t _ ht]
theorem Wl.on {d : Option Nat} {op : Op} {ty : TypeId} {pos : String} {af : Array Edge} {j t : Nat} {want b : Bool} (hj : (ops[j]?).bind (·.dst) = some t) (ht : look Γ t = some (.bool b)) (hb : b = want)
  (h : Wl (⟨d,op,ty,pos,af,none⟩ :: rest) P md ops N Γ C Q) : Wl (⟨d,op,ty,pos,af,some (j,want)⟩ :: rest) P md ops N Γ C Q := by
 subst hb
 cases md
 ·intro a w ha hw
  have hy := yielded_of (ops := ops) ha hj ht
  have h := h a w ha hw
  simp only [wpList,Region.wanted,if_true] at h
  simp only [wpList,Region.wanted,hy,beq_self_eq_true,if_true]
  exact h
 ·intro a ha
  have hy := yielded_of (ops := ops) ha hj ht
  have h := h a ha
  simp only [wpQuiet,Region.wanted,if_true] at h
  simp only [wpQuiet,Region.wanted,hy,beq_self_eq_true,if_true]
  exact h
 ·intro a w ha hD hw
  have hy := yielded_of (ops := ops) ha hj ht
  have h := h a w ha hD hw
  simp only [wpE,Region.wanted,if_true] at h
  simp only [wpE,Region.wanted,hy,beq_self_eq_true,if_true]
  exact h
theorem Wl.off {d : Nat} {op : Op} {ty : TypeId} {pos : String} {af : Array Edge} {j t : Nat} {want b : Bool} (hd : Nat.blt d N = true) (hj : (ops[j]?).bind (·.dst) = some t) (ht : look Γ t = some (.bool b)) (hb : b = !want)
  (h : Wl rest P md ops N ((d,undef) :: Γ) C Q) : Wl (⟨some d,op,ty,pos,af,some (j,want)⟩ :: rest) P md ops N Γ C Q := by
 subst hb
 cases md
 ·intro a w ha hw
  have hy := yielded_of (ops := ops) ha hj ht
  have e : ((some (!want) : Option Bool) == some want) = false := by cases want <;> rfl
  simp only [wpList,Region.wanted,hy,e]
  exact h _ _ (ha.put hd _) hw
 ·intro a ha
  have hy := yielded_of (ops := ops) ha hj ht
  have e : ((some (!want) : Option Bool) == some want) = false := by cases want <;> rfl
  simp only [wpQuiet,Region.wanted,hy,e]
  exact h _ (ha.put hd _)
 ·intro a w ha hD hw
  have hy := yielded_of (ops := ops) ha hj ht
  have e : ((some (!want) : Option Bool) == some want) = false := by cases want <;> rfl
  simp only [wpE,Region.wanted,hy,e]
  exact h _ _ (ha.put hd _) hD hw
theorem Wl.offU {d : Nat} {op : Op} {ty : TypeId} {pos : String} {af : Array Edge} {j t : Nat} {want : Bool} (hd : Nat.blt d N = true) (hj : (ops[j]?).bind (·.dst) = some t) (ht : look Γ t = some undef)
  (h : Wl rest P md ops N ((d,undef) :: Γ) C Q) : Wl (⟨some d,op,ty,pos,af,some (j,want)⟩ :: rest) P md ops N Γ C Q := by
 have e : ((none : Option Bool) == some want) = false := by cases want <;> rfl
 cases md
 ·intro a w ha hw
  have hy : yielded ops a.tmps j = none := by simp [yielded,hj,ha.get t _ ht,undef]
  simp only [wpList,Region.wanted,hy,e]
  exact h _ _ (ha.put hd _) hw
 ·intro a ha
  have hy : yielded ops a.tmps j = none := by simp [yielded,hj,ha.get t _ ht,undef]
  simp only [wpQuiet,Region.wanted,hy,e]
  exact h _ (ha.put hd _)
 ·intro a w ha hD hw
  have hy : yielded ops a.tmps j = none := by simp [yielded,hj,ha.get t _ ht,undef]
  simp only [wpE,Region.wanted,hy,e]
  exact h _ _ (ha.put hd _) hD hw
theorem Wl.splitB {d : Option Nat} {op : Op} {ty : TypeId} {pos : String} {af : Array Edge} {j t : Nat} {want b : Bool} (_hj : (ops[j]?).bind (·.dst) = some t) (_ht : look Γ t = some (.bool b))
  (h1 : b = true → Wl (⟨d,op,ty,pos,af,some (j,want)⟩ :: rest) P md ops N Γ C Q) (h2 : b = false → Wl (⟨d,op,ty,pos,af,some (j,want)⟩ :: rest) P md ops N Γ C Q) :
  Wl (⟨d,op,ty,pos,af,some (j,want)⟩ :: rest) P md ops N Γ C Q := by
 cases hb : b
 ·exact h2 hb
 ·exact h1 hb
theorem Wl.splitP {d : Option Nat} {op : Op} {ty : TypeId} {pos : String} {af : Array Edge} {j t : Nat} {want : Bool} {p : Prop} {_i : Decidable p} (_hj : (ops[j]?).bind (·.dst) = some t) (_ht : look Γ t = some (.bool (decide p)))
  (h1 : p → decide p = true → Wl (⟨d,op,ty,pos,af,some (j,want)⟩ :: rest) P md ops N Γ C Q) (h2 : ¬ p → decide p = false → Wl (⟨d,op,ty,pos,af,some (j,want)⟩ :: rest) P md ops N Γ C Q) :
  Wl (⟨d,op,ty,pos,af,some (j,want)⟩ :: rest) P md ops N Γ C Q := by
 by_cases hp : p
 ·exact h1 hp (decide_eq_true hp)
 ·exact h2 hp (decide_eq_false hp)
section ops
variable {d : Nat} {ty : TypeId} {pos : String} {af : Array Edge}
theorem Wl.move {x : Operand} {v : Value} (hd : Nat.blt d N = true) (hx : ev Γ x = some v) (h : Wl rest P md ops N ((d,v) :: Γ) C Q) : Wl (⟨some d,.move x,ty,pos,af,none⟩ :: rest) P md ops N Γ C Q :=
 Wl.val hd (fun a w ha _ => by simp [execOp,ha.ev hx]) h
theorem Wl.assign {x : Operand} {v : Value} (hd : Nat.blt d N = true) (hx : ev Γ x = some v) (h : Wl rest P md ops N ((d,v) :: Γ) C Q) : Wl (⟨some d,.assign x,ty,pos,af,none⟩ :: rest) P md ops N Γ C Q :=
 Wl.val hd (fun a w ha _ => by simp [execOp,ha.ev hx]) h
theorem Wl.pickT {c x y : Operand} {b : Bool} {v : Value} (hd : Nat.blt d N = true) (hc : ev Γ c = some (.bool b)) (hb : b = true) (hx : ev Γ x = some v) (h : Wl rest P md ops N ((d,v) :: Γ) C Q) :
  Wl (⟨some d,.pick c x y,ty,pos,af,none⟩ :: rest) P md ops N Γ C Q :=
 Wl.val hd (fun a w ha _ => by simp [execOp,ha.ev hc,ha.ev hx,asBool,hb]) h
theorem Wl.pickF {c x y : Operand} {b : Bool} {v : Value} (hd : Nat.blt d N = true) (hc : ev Γ c = some (.bool b)) (hb : b = false) (hy : ev Γ y = some v) (h : Wl rest P md ops N ((d,v) :: Γ) C Q) :
  Wl (⟨some d,.pick c x y,ty,pos,af,none⟩ :: rest) P md ops N Γ C Q :=
 Wl.val hd (fun a w ha _ => by simp [execOp,ha.ev hc,ha.ev hy,asBool,hb]) h
theorem Wl.not {t : TypeId} {x : Operand} {b : Bool} (hd : Nat.blt d N = true) (hx : ev Γ x = some (.bool b)) (h : Wl rest P md ops N ((d,.bool (!b)) :: Γ) C Q) : Wl (⟨some d,.unOp .not t x,ty,pos,af,none⟩ :: rest) P md ops N Γ C Q :=
 Wl.val hd (fun a w ha _ => by simp [execOp,ha.ev hx,Op.unary]) h
section bin
variable {t u : TypeId} {x y : Operand} {k : IntKind} {m n : Int}
theorem Wl.add (hd : Nat.blt d N = true) (hx : ev Γ x = some (.int k m)) (hy : ev Γ y = some (.int k n)) (h : Wl rest P md ops N ((d,.int k (k.wrap (m + n))) :: Γ) C Q) : Wl (⟨some d,.binOp .add t x y u,ty,pos,af,none⟩ :: rest) P md ops N Γ C Q :=
 Wl.val hd (fun a w ha _ => by simp [execOp,ha.ev hx,ha.ev hy,eqGuard_add,binOp_add,Op.intArith]) h
theorem Wl.sub' (hd : Nat.blt d N = true) (hx : ev Γ x = some (.int k m)) (hy : ev Γ y = some (.int k n)) (h : Wl rest P md ops N ((d,.int k (k.wrap (m - n))) :: Γ) C Q) : Wl (⟨some d,.binOp .sub t x y u,ty,pos,af,none⟩ :: rest) P md ops N Γ C Q :=
 Wl.val hd (fun a w ha _ => by simp [execOp,ha.ev hx,ha.ev hy,eqGuard_sub,binOp_sub,Op.intArith]) h
theorem Wl.mul (hd : Nat.blt d N = true) (hx : ev Γ x = some (.int k m)) (hy : ev Γ y = some (.int k n)) (h : Wl rest P md ops N ((d,.int k (k.wrap (m * n))) :: Γ) C Q) : Wl (⟨some d,.binOp .mul t x y u,ty,pos,af,none⟩ :: rest) P md ops N Γ C Q :=
 Wl.val hd (fun a w ha _ => by simp [execOp,ha.ev hx,ha.ev hy,eqGuard_mul,binOp_mul,Op.intArith]) h
theorem Wl.addI (hd : Nat.blt d N = true) (hx : ev Γ x = some (.int .i64 m)) (hy : ev Γ y = some (.int .i64 n)) (hb : -9223372036854775808 ≤ m + n ∧ m + n ≤ 9223372036854775807) (h : Wl rest P md ops N ((d,.int .i64 (m + n)) :: Γ) C Q) : Wl (⟨some d,.binOp .add t x y u,ty,pos,af,none⟩ :: rest) P md ops N Γ C Q :=
 Wl.add hd hx hy j4
theorem Wl.subI (hd : Nat.blt d N = true) (hx : ev Γ x = some (.int .i64 m)) (hy : ev Γ y = some (.int .i64 n)) (hb : -9223372036854775808 ≤ m - n ∧ m - n ≤ 9223372036854775807) (h : Wl rest P md ops N ((d,.int .i64 (m - n)) :: Γ) C Q) : Wl (⟨some d,.binOp .sub t x y u,ty,pos,af,none⟩ :: rest) P md ops N Γ C Q :=
 Wl.sub' hd hx hy j4
theorem Wl.mulI (hd : Nat.blt d N = true) (hx : ev Γ x = some (.int .i64 m)) (hy : ev Γ y = some (.int .i64 n)) (hb : -9223372036854775808 ≤ m * n ∧ m * n ≤ 9223372036854775807) (h : Wl rest P md ops N ((d,.int .i64 (m * n)) :: Γ) C Q) : Wl (⟨some d,.binOp .mul t x y u,ty,pos,af,none⟩ :: rest) P md ops N Γ C Q :=
 Wl.mul hd hx hy j4
theorem Wl.addU (hd : Nat.blt d N = true) (hx : ev Γ x = some (.int .u64 m)) (hy : ev Γ y = some (.int .u64 n)) (hb : 0 ≤ m + n ∧ m + n ≤ 18446744073709551615) (h : Wl rest P md ops N ((d,.int .u64 (m + n)) :: Γ) C Q) : Wl (⟨some d,.binOp .add t x y u,ty,pos,af,none⟩ :: rest) P md ops N Γ C Q :=
 Wl.add hd hx hy (by rw [IntWalk.u64_in _ hb];exact h)
theorem Wl.quo (hd : Nat.blt d N = true) (hx : ev Γ x = some (.int k m)) (hy : ev Γ y = some (.int k n)) (hn : n ≠ 0) (h : Wl rest P md ops N ((d,.int k (k.wrap (m.tdiv n))) :: Γ) C Q) : Wl (⟨some d,.binOp .quo t x y u,ty,pos,af,none⟩ :: rest) P md ops N Γ C Q :=
 Wl.val hd (fun a w ha _ => by simp [execOp,ha.ev hx,ha.ev hy,eqGuard_quo,binOp_quo,Op.intDiv,hn]) h
theorem Wl.rem (hd : Nat.blt d N = true) (hx : ev Γ x = some (.int k m)) (hy : ev Γ y = some (.int k n)) (hn : n ≠ 0) (h : Wl rest P md ops N ((d,.int k (m.tmod n)) :: Γ) C Q) : Wl (⟨some d,.binOp .rem t x y u,ty,pos,af,none⟩ :: rest) P md ops N Γ C Q :=
 Wl.val hd (fun a w ha _ => by simp [execOp,ha.ev hx,ha.ev hy,eqGuard_rem,binOp_rem,Op.intDiv,hn]) h
theorem Wl.and (hd : Nat.blt d N = true) (hx : ev Γ x = some (.int k m)) (hy : ev Γ y = some (.int k n)) (h : Wl rest P md ops N ((d,.int k (bits .and k m n)) :: Γ) C Q) : Wl (⟨some d,.binOp .and t x y u,ty,pos,af,none⟩ :: rest) P md ops N Γ C Q :=
 Wl.val hd (fun a w ha _ => by simp [execOp,ha.ev hx,ha.ev hy,eqGuard_and,binOp_and,intBits_and]) h
theorem Wl.or (hd : Nat.blt d N = true) (hx : ev Γ x = some (.int k m)) (hy : ev Γ y = some (.int k n)) (h : Wl rest P md ops N ((d,.int k (bits .or k m n)) :: Γ) C Q) : Wl (⟨some d,.binOp .or t x y u,ty,pos,af,none⟩ :: rest) P md ops N Γ C Q :=
 Wl.val hd (fun a w ha _ => by simp [execOp,ha.ev hx,ha.ev hy,eqGuard_or,binOp_or,intBits_or]) h
theorem Wl.xor (hd : Nat.blt d N = true) (hx : ev Γ x = some (.int k m)) (hy : ev Γ y = some (.int k n)) (h : Wl rest P md ops N ((d,.int k (bits .xor k m n)) :: Γ) C Q) : Wl (⟨some d,.binOp .xor t x y u,ty,pos,af,none⟩ :: rest) P md ops N Γ C Q :=
 Wl.val hd (fun a w ha _ => by simp [execOp,ha.ev hx,ha.ev hy,eqGuard_xor,binOp_xor,intBits_xor]) h
theorem Wl.shl {k' : IntKind} (hd : Nat.blt d N = true) (hx : ev Γ x = some (.int k m)) (hy : ev Γ y = some (.int k' n)) (hn : 0 ≤ n) (h : Wl rest P md ops N ((d,.int k (k.wrap (m * 2 ^ min n.toNat k.bits))) :: Γ) C Q) : Wl (⟨some d,.binOp .shl t x y u,ty,pos,af,none⟩ :: rest) P md ops N Γ C Q :=
 Wl.val hd (fun a w ha _ => by simp [execOp,ha.ev hx,ha.ev hy,eqGuard_shl,binOp_shl,Op.shift,show ¬ n < 0 by omega]) h
theorem Wl.shr {k' : IntKind} (hd : Nat.blt d N = true) (hx : ev Γ x = some (.int k m)) (hy : ev Γ y = some (.int k' n)) (hn : 0 ≤ n) (h : Wl rest P md ops N ((d,.int k (m.fdiv (2 ^ min n.toNat k.bits))) :: Γ) C Q) : Wl (⟨some d,.binOp .shr t x y u,ty,pos,af,none⟩ :: rest) P md ops N Γ C Q :=
 Wl.val hd (fun a w ha _ => by simp [execOp,ha.ev hx,ha.ev hy,eqGuard_shr,binOp_shr,Op.shift,show ¬ n < 0 by omega]) h
theorem Wl.eql (hd : Nat.blt d N = true) (hx : ev Γ x = some (.int k m)) (hy : ev Γ y = some (.int k n)) (h : Wl rest P md ops N ((d,.bool (decide (m = n))) :: Γ) C Q) : Wl (⟨some d,.binOp .eql t x y u,ty,pos,af,none⟩ :: rest) P md ops N Γ C Q :=
 Wl.val hd (fun a w ha _ => by simp only [execOp,ha.ev hx,ha.ev hy,eqGuard_at_int,binOp_eql,pure_bind];simp;rfl) h
theorem Wl.neq (hd : Nat.blt d N = true) (hx : ev Γ x = some (.int k m)) (hy : ev Γ y = some (.int k n)) (h : Wl rest P md ops N ((d,.bool (decide (m ≠ n))) :: Γ) C Q) : Wl (⟨some d,.binOp .neq t x y u,ty,pos,af,none⟩ :: rest) P md ops N Γ C Q :=
 Wl.val hd (fun a w ha _ => by simp only [execOp,ha.ev hx,ha.ev hy,eqGuard_at_int,binOp_neq,pure_bind];simp [bne];rfl) h
theorem Wl.eqlIs (hd : Nat.blt d N = true) (hx : ev Γ x = some (.int k m)) (hy : ev Γ y = some (.int k n)) (e : m = n) (h : Wl rest P md ops N ((d,.bool true) :: Γ) C Q) : Wl (⟨some d,.binOp .eql t x y u,ty,pos,af,none⟩ :: rest) P md ops N Γ C Q :=
 Wl.eql hd hx hy (by rw [decide_eq_true e];exact h)
theorem Wl.neqIs (hd : Nat.blt d N = true) (hx : ev Γ x = some (.int k m)) (hy : ev Γ y = some (.int k n)) (e : m = n) (h : Wl rest P md ops N ((d,.bool false) :: Γ) C Q) : Wl (⟨some d,.binOp .neq t x y u,ty,pos,af,none⟩ :: rest) P md ops N Γ C Q :=
 Wl.neq hd hx hy (by rw [decide_eq_false (fun h => h e)];exact h)
theorem Wl.lss (hd : Nat.blt d N = true) (hx : ev Γ x = some (.int k m)) (hy : ev Γ y = some (.int k n)) (h : Wl rest P md ops N ((d,.bool (decide (m < n))) :: Γ) C Q) : Wl (⟨some d,.binOp .lss t x y u,ty,pos,af,none⟩ :: rest) P md ops N Γ C Q :=
 Wl.val hd (fun a w ha _ => by simp [execOp,ha.ev hx,ha.ev hy,eqGuard_lss,binOp_lss]) h
theorem Wl.leq (hd : Nat.blt d N = true) (hx : ev Γ x = some (.int k m)) (hy : ev Γ y = some (.int k n)) (h : Wl rest P md ops N ((d,.bool (decide (m ≤ n))) :: Γ) C Q) : Wl (⟨some d,.binOp .leq t x y u,ty,pos,af,none⟩ :: rest) P md ops N Γ C Q :=
 Wl.val hd (fun a w ha _ => by simp [execOp,ha.ev hx,ha.ev hy,eqGuard_leq,binOp_leq]) h
theorem Wl.gtr (hd : Nat.blt d N = true) (hx : ev Γ x = some (.int k m)) (hy : ev Γ y = some (.int k n)) (h : Wl rest P md ops N ((d,.bool (decide (n < m))) :: Γ) C Q) : Wl (⟨some d,.binOp .gtr t x y u,ty,pos,af,none⟩ :: rest) P md ops N Γ C Q :=
 Wl.val hd (fun a w ha _ => by simp [execOp,ha.ev hx,ha.ev hy,eqGuard_gtr,binOp_gtr]) h
theorem Wl.geq (hd : Nat.blt d N = true) (hx : ev Γ x = some (.int k m)) (hy : ev Γ y = some (.int k n)) (h : Wl rest P md ops N ((d,.bool (decide (n ≤ m))) :: Γ) C Q) : Wl (⟨some d,.binOp .geq t x y u,ty,pos,af,none⟩ :: rest) P md ops N Γ C Q :=
 Wl.val hd (fun a w ha _ => by simp [execOp,ha.ev hx,ha.ev hy,eqGuard_geq,binOp_geq]) h
theorem Wl.neqBs [TyD P t .bool] {p q : Bool} (hd : Nat.blt d N = true) (hx : ev Γ x = some (.bool p)) (hy : ev Γ y = some (.bool q)) (e : p = q) (h : Wl rest P md ops N ((d,.bool false) :: Γ) C Q) : Wl (⟨some d,.binOp .neq t x y u,ty,pos,af,none⟩ :: rest) P md ops N Γ C Q :=
 Wl.val hd (fun a w ha _ => by subst e;simp only [execOp,ha.ev hx,ha.ev hy,eqGuard_at_bool,pure_bind,Sem.run_bind,run_neq_bool w t p p TyD.out,beq_self_eq_true];rfl) h
theorem Wl.neqB [TyD P t .bool] {p q : Bool} (hd : Nat.blt d N = true) (hx : ev Γ x = some (.bool p)) (hy : ev Γ y = some (.bool q)) (h : Wl rest P md ops N ((d,.bool (!(p == q))) :: Γ) C Q) : Wl (⟨some d,.binOp .neq t x y u,ty,pos,af,none⟩ :: rest) P md ops N Γ C Q :=
 Wl.val hd (fun a w ha _ => by simp only [execOp,ha.ev hx,ha.ev hy,eqGuard_at_bool,pure_bind,Sem.run_bind,run_neq_bool w t p q TyD.out];rfl) h
theorem Wl.eqlS {p q : ByteArray} (hd : Nat.blt d N = true) (hx : ev Γ x = some (.string p)) (hy : ev Γ y = some (.string q)) (h : Wl rest P md ops N ((d,.bool (p.toList == q.toList)) :: Γ) C Q) : Wl (⟨some d,.binOp .eql t x y u,ty,pos,af,none⟩ :: rest) P md ops N Γ C Q :=
 Wl.val hd (fun a w ha _ => by simp only [execOp,ha.ev hx,ha.ev hy,eqGuard_at_string,pure_bind,binOp,Op.stringOp,Sem.run_pure]) h
theorem Wl.neqS {p q : ByteArray} (hd : Nat.blt d N = true) (hx : ev Γ x = some (.string p)) (hy : ev Γ y = some (.string q)) (h : Wl rest P md ops N ((d,.bool (!(p.toList == q.toList))) :: Γ) C Q) : Wl (⟨some d,.binOp .neq t x y u,ty,pos,af,none⟩ :: rest) P md ops N Γ C Q :=
 Wl.val hd (fun a w ha _ => by simp only [execOp,ha.ev hx,ha.ev hy,eqGuard_at_string,pure_bind,binOp,Op.stringOp,Sem.run_pure]) h
theorem Wl.eqlSB {p q : List UInt8} (hd : Nat.blt d N = true) (hx : ev Γ x = some (.string (strOf p))) (hy : ev Γ y = some (.string (strOf q))) (h : Wl rest P md ops N ((d,.bool (decide (p = q))) :: Γ) C Q) : Wl (⟨some d,.binOp .eql t x y u,ty,pos,af,none⟩ :: rest) P md ops N Γ C Q :=
 Wl.eqlS hd hx hy (by rw [strBeq];exact h)
theorem Wl.neqSB {p q : List UInt8} (hd : Nat.blt d N = true) (hx : ev Γ x = some (.string (strOf p))) (hy : ev Γ y = some (.string (strOf q))) (h : Wl rest P md ops N ((d,.bool (decide (p ≠ q))) :: Γ) C Q) : Wl (⟨some d,.binOp .neq t x y u,ty,pos,af,none⟩ :: rest) P md ops N Γ C Q :=
 Wl.neqS hd hx hy (by rw [strBeq];simpa using h)
theorem Wl.eqlPN {e : TypeId} [ht : TyD P t (.pointer e)] {a0 : Addr} (hd : Nat.blt d N = true) (hx : ev Γ x = some (.pointer (some a0))) (hy : ev Γ y = some (.pointer none)) (h : Wl rest P md ops N ((d,.bool false) :: Γ) C Q) : Wl (⟨some d,.binOp .eql t x y u,ty,pos,af,none⟩ :: rest) P md ops N Γ C Q :=
 Wl.val hd (fun a w ha _ => by simp only [execOp,ha.ev hx,ha.ev hy,eqGuard_at_pointer,pure_bind,Sem.run_bind,run_eql_nilp ht.out];rfl) h
theorem Wl.neqPN {e : TypeId} [ht : TyD P t (.pointer e)] {a0 : Addr} (hd : Nat.blt d N = true) (hx : ev Γ x = some (.pointer (some a0))) (hy : ev Γ y = some (.pointer none)) (h : Wl rest P md ops N ((d,.bool true) :: Γ) C Q) : Wl (⟨some d,.binOp .neq t x y u,ty,pos,af,none⟩ :: rest) P md ops N Γ C Q :=
 Wl.val hd (fun a w ha _ => by simp only [execOp,ha.ev hx,ha.ev hy,eqGuard_at_pointer,pure_bind,Sem.run_bind,run_neq_nilp ht.out];rfl) h
theorem Wl.eqlNN {e : TypeId} [ht : TyD P t (.pointer e)] (hd : Nat.blt d N = true) (hx : ev Γ x = some (.pointer none)) (hy : ev Γ y = some (.pointer none)) (h : Wl rest P md ops N ((d,.bool true) :: Γ) C Q) : Wl (⟨some d,.binOp .eql t x y u,ty,pos,af,none⟩ :: rest) P md ops N Γ C Q :=
 Wl.val hd (fun a w ha _ => by simp only [execOp,ha.ev hx,ha.ev hy,eqGuard_at_pointer,pure_bind,Sem.run_bind,run_eql_nilp ht.out];rfl) h
end bin
theorem Wl.convI {s t : TypeId} {x : Operand} {k k' : IntKind} {n : Int} [hs : TyD P s (.int k)] [ht : TyD P t (.int k')] (hd : Nat.blt d N = true) (hx : ev Γ x = some (.int k n)) (h : Wl rest P md ops N ((d,.int k' (k'.wrap n)) :: Γ) C Q) :
  Wl (⟨some d,.convert s t x,ty,pos,af,none⟩ :: rest) P md ops N Γ C Q :=
 Wl.val hd (fun a w ha _ => by simp [execOp,ha.ev hx,convert,run_underlying hs.out,run_underlying ht.out,Conv.intToInt]) h
theorem Wl.convI64 {s t : TypeId} {x : Operand} {k : IntKind} {n : Int} [hs : TyD P s (.int k)] [ht : TyD P t (.int .i64)] (hd : Nat.blt d N = true) (hx : ev Γ x = some (.int k n)) (hb : -9223372036854775808 ≤ n ∧ n ≤ 9223372036854775807) (h : Wl rest P md ops N ((d,.int .i64 n) :: Γ) C Q) :
  Wl (⟨some d,.convert s t x,ty,pos,af,none⟩ :: rest) P md ops N Γ C Q := Wl.convI hd hx j4
theorem Wl.convU64 {s t : TypeId} {x : Operand} {k : IntKind} {n : Int} [hs : TyD P s (.int k)] [ht : TyD P t (.int .u64)] (hd : Nat.blt d N = true) (hx : ev Γ x = some (.int k n)) (hb : 0 ≤ n ∧ n ≤ 18446744073709551615) (h : Wl rest P md ops N ((d,.int .u64 n) :: Γ) C Q) :
  Wl (⟨some d,.convert s t x,ty,pos,af,none⟩ :: rest) P md ops N Γ C Q := Wl.convI hd hx (by rw [IntWalk.u64_in _ hb];exact h)
theorem Wl.convU32 {s t : TypeId} {x : Operand} {k : IntKind} {n : Int} [hs : TyD P s (.int k)] [ht : TyD P t (.int .u32)] (hd : Nat.blt d N = true) (hx : ev Γ x = some (.int k n)) (hb : 0 ≤ n ∧ n ≤ 4294967295) (h : Wl rest P md ops N ((d,.int .u32 n) :: Γ) C Q) :
  Wl (⟨some d,.convert s t x,ty,pos,af,none⟩ :: rest) P md ops N Γ C Q := Wl.convI hd hx (by rw [IntWalk.u32_in _ hb];exact h)
theorem Wl.convU8 {s t : TypeId} {x : Operand} {k : IntKind} {n : Int} [hs : TyD P s (.int k)] [ht : TyD P t (.int .u8)] (hd : Nat.blt d N = true) (hx : ev Γ x = some (.int k n)) (hb : 0 ≤ n ∧ n ≤ 255) (h : Wl rest P md ops N ((d,.int .u8 n) :: Γ) C Q) :
  Wl (⟨some d,.convert s t x,ty,pos,af,none⟩ :: rest) P md ops N Γ C Q := Wl.convI hd hx (by rw [IntWalk.u8_in _ hb];exact h)
theorem Wl.nilCheck {x : Operand} {p : Addr} (hd : Nat.blt d N = true) (hx : ev Γ x = some (.pointer (some p))) (h : Wl rest P md ops N ((d,.pointer (some p)) :: Γ) C Q) : Wl (⟨some d,.nilCheck x,ty,pos,af,none⟩ :: rest) P md ops N Γ C Q :=
 Wl.val hd (fun a w ha _ => by simp [execOp,ha.ev hx]) h
theorem Wl.extract {x : Operand} {i : Nat} {vs : List Value} {v : Value} (hd : Nat.blt d N = true) (hx : ev Γ x = some (.tuple vs.toArray)) (hi : vs[i]? = some v) (h : Wl rest P md ops N ((d,v) :: Γ) C Q) : Wl (⟨some d,.extract x i,ty,pos,af,none⟩ :: rest) P md ops N Γ C Q :=
 Wl.val hd (fun a w ha _ => by simp [execOp,ha.ev hx,Instr.extract,hi]) h
theorem Wl.fieldAddr0 {s i ft : Nat} [hf : Fld P s i 0 ft] {x : Operand} {a0 : Addr} (hd : Nat.blt d N = true) (hx : ev Γ x = some (.pointer (some a0))) (h : Wl rest P md ops N ((d,.pointer (some a0)) :: Γ) C Q) :
  Wl (⟨some d,.fieldAddr s x i,ty,pos,af,none⟩ :: rest) P md ops N Γ C Q :=
 Wl.val hd (fun a w ha _ => by
  have h := hf.out
  unfold fieldB at h
  split at h <;> try cases h
  rename_i fs hfs
  cases e : fs[i]? with
  | none => rw [e] at h;cases h
  | some f =>
   rw [e] at h;simp at h
   obtain ⟨h1,h2,h3⟩ := h
   have h3 : ¬ sizeB P f.type = 0 := fun e0 => by rw [e0] at h3;cases h3
   cases e2 : P.info? f.type with
   | none => simp [sizeB,e2] at h3
   | some inf =>
    have h4 : ¬ inf.size = 0 := by simpa [sizeB,e2] using h3
    simp [execOp,ha.ev hx,Instr.fieldAt,run_underlying hfs,e,Instr.sureAddr,fieldPlace,sizeOf,typeInfo,e2,h4,h1,Addr.add]) h
theorem Wl.fieldAddr {s i off ft : Nat} [hf : Fld P s i off ft] {x : Operand} {b o : Nat} (hd : Nat.blt d N = true) (hx : ev Γ x = some (.pointer (some ⟨b,o,none⟩))) (h : Wl rest P md ops N ((d,.pointer (some ⟨b,o + off,none⟩)) :: Γ) C Q) :
  Wl (⟨some d,.fieldAddr s x i,ty,pos,af,none⟩ :: rest) P md ops N Γ C Q :=
 Wl.val hd (fun a w ha _ => by
  have h := hf.out
  unfold fieldB at h
  split at h <;> try cases h
  rename_i fs hfs
  cases e : fs[i]? with
  | none => rw [e] at h;cases h
  | some f =>
   rw [e] at h;simp at h
   obtain ⟨h1,h2,h3⟩ := h
   have h3 : ¬ sizeB P f.type = 0 := fun e0 => by rw [e0] at h3;cases h3
   cases e2 : P.info? f.type with
   | none => simp [sizeB,e2] at h3
   | some inf =>
    have h4 : ¬ inf.size = 0 := by simpa [sizeB,e2] using h3
    simp [execOp,ha.ev hx,Instr.fieldAt,run_underlying hfs,e,Instr.sureAddr,fieldPlace,sizeOf,typeInfo,e2,h4,h1,Addr.add_lit]) h
theorem Wl.fieldAddrZ {s i off ft : Nat} [hf : Fld P s i off ft] {x : Operand} {b : Nat} (hd : Nat.blt d N = true) (hx : ev Γ x = some (.pointer (some ⟨b,0,none⟩))) (h : Wl rest P md ops N ((d,.pointer (some ⟨b,off,none⟩)) :: Γ) C Q) :
  Wl (⟨some d,.fieldAddr s x i,ty,pos,af,none⟩ :: rest) P md ops N Γ C Q :=
 Wl.fieldAddr (o := 0) hd hx (by rw [Nat.zero_add];exact h)
theorem Wl.len {t : TypeId} {e : TypeId} {x : Operand} {a0 : Option Addr} {n c : Nat} [ht : TyD P t (.slice e)] (hd : Nat.blt d N = true) (hx : ev Γ x = some (.slice a0 n c)) (h : Wl rest P md ops N ((d,.int .i64 (n : Int)) :: Γ) C Q) :
  Wl (⟨some d,.call { callee := .builtin .len,args := #[x],argTypes := #[t] },ty,pos,af,none⟩ :: rest) P md ops N Γ C Q :=
 Wl.val hd (fun a w ha _ => by simp [execOp,resolve,invoke,builtin,Builtin.len_,ha.ev hx,run_underlying ht.out,goInt]) h
theorem Wl.lenS {t : TypeId} {x : Operand} {s : ByteArray} [ht : TyD P t .string] (hd : Nat.blt d N = true) (hx : ev Γ x = some (.string s)) (h : Wl rest P md ops N ((d,.int .i64 (s.size : Int)) :: Γ) C Q) :
  Wl (⟨some d,.call { callee := .builtin .len,args := #[x],argTypes := #[t] },ty,pos,af,none⟩ :: rest) P md ops N Γ C Q :=
 Wl.val hd (fun a w ha _ => by simp [execOp,resolve,invoke,builtin,Builtin.len_,ha.ev hx,run_underlying ht.out,goInt]) h
theorem Wl.loadF {t : TypeId} [TyC P t] {x : Operand} {a0 : Addr} {v : Value} (hd : Nat.blt d N = true) (hx : ev Γ x = some (.pointer (some a0))) (hc : ∀ w,C w → w.cell? a0 = some v) (h : Wl rest P md ops N ((d,v) :: Γ) C Q) :
  Wl (⟨some d,.load t x,ty,pos,af,none⟩ :: rest) P md ops N Γ C Q :=
 Wl.val hd (fun a w ha hw => by simp [execOp,ha.ev hx,Instr.loadAt,Instr.sureAddr,run_loadC (P := P) (t := t) (hc w hw)]) h
theorem Wl.loadH {w0 : World} {H : List Blk} {t bt : TypeId} [TyC P t] {x : Operand} {c i : Nat} {cs : List Value} {v : Value} (hd : Nat.blt d N = true) (hx : ev Γ x = some (.pointer (some ⟨c,i,none⟩)))
  (hm : (⟨c,cs,bt⟩ : Blk) ∈ H) (hi : cs[i]? = some v) (h : Wl rest P md ops N ((d,v) :: Γ) (Hp w0 H) Q) : Wl (⟨some d,.load t x,ty,pos,af,none⟩ :: rest) P md ops N Γ (Hp w0 H) Q :=
 Wl.loadF hd hx (fun _ hw => hw.cell hm hi) h
theorem Wl.loadO {w0 : World} {H : List Blk} {t : TypeId} [TyC P t] {x : Operand} {a0 : Addr} {v : Value} (hd : Nat.blt d N = true) (hx : ev Γ x = some (.pointer (some a0)))
  (hc : w0.cell? a0 = some v) (ho : Off H a0.block) (h : Wl rest P md ops N ((d,v) :: Γ) (Hp w0 H) Q) : Wl (⟨some d,.load t x,ty,pos,af,none⟩ :: rest) P md ops N Γ (Hp w0 H) Q :=
 Wl.loadF hd hx (fun _ hw => hw.old hc ho) h
theorem Wl.loadAF {t n : TypeId} [TyA P t n] {x : Operand} {a0 : Addr} {xs : List Value} (hd : Nat.blt d N = true) (hx : ev Γ x = some (.pointer (some a0))) (hn : xs.length = n) (hc : ∀ w,C w → ∀ i v,xs[i]? = some v → w.cell? (a0.add i) = some v)
  (h : Wl rest P md ops N ((d,.agg xs.toArray) :: Γ) C Q) : Wl (⟨some d,.load t x,ty,pos,af,none⟩ :: rest) P md ops N Γ C Q :=
 Wl.val hd (fun a w ha hw => by simp [execOp,ha.ev hx,Instr.loadAt,Instr.sureAddr,run_loadA (P := P) (t := t) hn (hc w hw)]) h
theorem addLit (b o n : Nat) : Addr.add ⟨b,o,none⟩ n = ⟨b,o + n,none⟩ := Addr.add_lit b o n
theorem Wl.loadAH {w0 : World} {H : List Blk} {t n bt : TypeId} [TyA P t n] {x : Operand} {c i : Nat} {cs xs : List Value} (hd : Nat.blt d N = true) (hx : ev Γ x = some (.pointer (some ⟨c,i,none⟩)))
  (hm : (⟨c,cs,bt⟩ : Blk) ∈ H) (hi' : LSub cs i n xs) (h : Wl rest P md ops N ((d,.agg xs.toArray) :: Γ) (Hp w0 H) Q) : Wl (⟨some d,.load t x,ty,pos,af,none⟩ :: rest) P md ops N Γ (Hp w0 H) Q :=
 have hi := hi'.out.1
 have hn := hi'.out.2
 Wl.loadAF hd hx hn (fun w hw j v hj => by
  rw [addLit]
  refine hw.cell hm ?_
  subst hi
  rw [List.getElem?_take] at hj
  split at hj
  ·simpa [List.getElem?_drop] using hj
  ·cases hj) h
theorem Wl.store {w0 : World} {H H' : List Blk} {t bt : TypeId} {b1 : Nat} [ht : TyS P t 1 b1] {x y : Operand} {c i : Nat} {cs cs' : List Value} {v : Value} (hx : ev Γ x = some (.pointer (some ⟨c,i,none⟩))) (hy : ev Γ y = some v) (h1 : v.oneCell' = true)
  (hs : HSet c cs cs' bt H H') (hc' : LSet cs i v cs') (h : Wl rest P .seq ops N Γ (Hp w0 H') Q) : Wl (⟨none,.store t x y,ty,pos,af,none⟩ :: rest) P .seq ops N Γ (Hp w0 H) Q :=
 Wl.eff fun a w ha hw => by
  have hi : i < cs.length := hc'.out.1
  have hc := hc'.out.2
  have hcell : w.cell? ⟨c,i,none⟩ = some cs[i] := hw.cell hs.mem (by simp [hi])
  have hfr : w.frozen? ⟨c,i,none⟩ = false := hw.free hs.mem
  have hcs : v.cells = #[v] := by cases v <;> simp_all [Value.cells,Value.oneCell']
  refine ⟨undef,w.setCell ⟨c,i,none⟩ v,.inr ⟨?_,rfl⟩,h _ _ ha (hw.hset hs (Upd.setCell w _ v rfl) ?_)⟩
  ·simp [execOp,ha.ev hx,ha.ev hy,Instr.storeAt,Instr.sureAddr,storeVar,run_size (P := P) (t := t),hcs,storeCells,run_store P w _ v _ h1,hcell,hfr,Addr.add]
  ·rw [blockSet (hw.own.at hs.mem)]
   subst hc
   simp
theorem Wl.storeA {w0 : World} {H H' : List Blk} {t n bt : TypeId} [ht : TyA P t n] {x y : Operand} {c i : Nat} {cs cs' xs : List Value} (hx : ev Γ x = some (.pointer (some ⟨c,i,none⟩))) (hy : ev Γ y = some (.agg xs.toArray)) (hn : xs.length = n) (h1' : xs.all Value.oneCell' = true)
  (hs : HSet c cs cs' bt H H') (hc' : LPut cs i xs cs') (h : Wl rest P .seq ops N Γ (Hp w0 H') Q) : Wl (⟨none,.store t x y,ty,pos,af,none⟩ :: rest) P .seq ops N Γ (Hp w0 H) Q :=
 Wl.eff fun a w ha hw => by
  have h1 : ∀ v ∈ xs,v.oneCell' = true := fun v hv => List.all_eq_true.1 h1' v hv
  have hi : i + n ≤ cs.length := hn ▸ hc'.out.1
  have hc : cs.take i ++ xs ++ cs.drop (i + n) = cs' := hn ▸ hc'.out.2
  have hb := hw.own.at hs.mem
  have hst := run_storeCells_at P c i bt xs 0 cs.toArray w hb zi h1
  simp only [Nat.add_zero] at hst
  refine ⟨undef,w.setRow c cs'.toArray,.inr ⟨?_,rfl⟩,h _ _ ha (hw.hset hs ⟨rfl,rfl,rfl,by simp,fun k hk hne => ?_⟩ ?_)⟩
  ·have e : (List.take i cs ++ xs ++ List.drop (i + xs.length) cs).toArray = cs'.toArray := by rw [hn,hc]
   rw [← e]
   simp only [execOp,ha.ev hx,ha.ev hy,Instr.storeAt,Instr.sureAddr,storeVar,Sem.run_bind,pure_bind,run_sizeA (P := P) (t := t),Value.cells,Result.andThen]
   simp [hn] at hst ⊢
   rw [hst]
  ·exact setRow_other w c k _ hne
  ·exact setRow_heap w c _ _ bt _ hb
theorem Wl.box {w0 : World} {H : List Blk} {t : TypeId} {x : Operand} {v : Value} (hd : Nat.blt d N = true) (hx : ev Γ x = some v)
  (h : ∀ c,w0.heap.size ≤ c → Off H c → Wl rest P .seq ops N ((d,.pointer (some ⟨c,0,none⟩)) :: Γ) (Hp w0 (⟨c,v.cells.toList,t⟩ :: H)) Q) : Wl (⟨some d,.box t x,ty,pos,af,none⟩ :: rest) P .seq ops N Γ (Hp w0 H) Q :=
 Wl.eff fun a w ha hw => ⟨.pointer (some ⟨w.heap.size,0,none⟩),w.alloc (.cells v.cells t),.inl (by
  simp [execOp,ha.ev hx,Instr.box,newVar,newRow]),h _ hw.upd.size (Off.lt hw.own) _ _ (ha.put hd _) (by simpa using hw.alloc v.cells.toList t)⟩
theorem Wl.boxA {w0 : World} {H : List Blk} {t : TypeId} {x : Operand} {xs : List Value} (hd : Nat.blt d N = true) (hx : ev Γ x = some (.agg xs.toArray))
  (h : ∀ c,w0.heap.size ≤ c → Off H c → Wl rest P .seq ops N ((d,.pointer (some ⟨c,0,none⟩)) :: Γ) (Hp w0 (⟨c,xs,t⟩ :: H)) Q) : Wl (⟨some d,.box t x,ty,pos,af,none⟩ :: rest) P .seq ops N Γ (Hp w0 H) Q :=
 Wl.box hd hx h
theorem Wl.alloc {w0 : World} {H : List Blk} {t : TypeId} {z : Value} [TyZ P t z] (hd : Nat.blt d N = true)
  (h : ∀ c,w0.heap.size ≤ c → Off H c → Wl rest P .seq ops N ((d,.pointer (some ⟨c,0,none⟩)) :: Γ) (Hp w0 (⟨c,z.cells.toList,t⟩ :: H)) Q) : Wl (⟨some d,.alloc t,ty,pos,af,none⟩ :: rest) P .seq ops N Γ (Hp w0 H) Q :=
 Wl.eff fun a w ha hw => ⟨.pointer (some ⟨w.heap.size,0,none⟩),w.alloc (.cells z.cells t),.inl (by
  simp [execOp,Instr.alloc,newVar,newRow,run_zero (P := P) (t := t)]),h _ hw.upd.size (Off.lt hw.own) _ _ (ha.put hd _) (by simpa using hw.alloc z.cells.toList t)⟩
theorem Wl.build {t : TypeId} {parts : Array (Nat × Operand)} {ps : List (Nat × Value)} {v : Value} (hd : Nat.blt d N = true) (hp : Parts Γ parts.toList ps) (hr : ∀ w : World,(Instr.build t ps.toArray).run P w = .ok v w)
  (h : Wl rest P md ops N ((d,v) :: Γ) C Q) : Wl (⟨some d,.build t parts,ty,pos,af,none⟩ :: rest) P md ops N Γ C Q :=
 Wl.val hd (fun a w ha _ => by simp [execOp,hp.map ha,hr]) h
theorem Wl.buildS {t : TypeId} {parts : Array (Nat × Operand)} {ps : List (Nat × Value)} {pl : List (Nat × Nat)} {z cs : List Value} [TyP P t pl z] (hd : Nat.blt d N = true) (hp : Parts Γ parts.toList ps) (hF : Fills (pl.toArray[·]?) z ps cs)
  (h : Wl rest P md ops N ((d,.agg cs.toArray) :: Γ) C Q) : Wl (⟨some d,.build t parts,ty,pos,af,none⟩ :: rest) P md ops N Γ C Q := Wl.build hd hp (fun _ => run_build_struct hF) h
theorem Wl.buildA {t n e sz by_ : TypeId} {parts : Array (Nat × Operand)} {ps : List (Nat × Value)} {z cs : List Value} [TyD P t (.array n e)] [TyS P e sz by_] [TyZ P t (.agg z.toArray)] (hd : Nat.blt d N = true) (hp : Parts Γ parts.toList ps) (hF : Fills (fun i => some (i * sz,sz)) z ps cs)
  (h : Wl rest P md ops N ((d,.agg cs.toArray) :: Γ) C Q) : Wl (⟨some d,.build t parts,ty,pos,af,none⟩ :: rest) P md ops N Γ C Q := Wl.build hd hp (fun _ => run_build_array hF) h
theorem Wl.buildSlice {w0 : World} {H : List Blk} {t e n : TypeId} {parts : Array (Nat × Operand)} {ps : List (Nat × Value)} {cs : List Value} (hd : Nat.blt d N = true) (hp : Parts Γ parts.toList ps)
  (hr : ∀ w : World,(Instr.buildSlice t n ps.toArray).run P w = .ok (.slice (some ⟨w.heap.size,0,none⟩) n n) (w.alloc (.cells cs.toArray e)))
  (h : ∀ c,w0.heap.size ≤ c → Off H c → Wl rest P .seq ops N ((d,.slice (some ⟨c,0,none⟩) n n) :: Γ) (Hp w0 (⟨c,cs,e⟩ :: H)) Q) : Wl (⟨some d,.buildSlice t n parts,ty,pos,af,none⟩ :: rest) P .seq ops N Γ (Hp w0 H) Q :=
 Wl.eff fun a w ha hw => ⟨_,_,.inl (by simp [execOp,hp.map ha,hr]),h _ hw.upd.size (Off.lt hw.own) _ _ (ha.put hd _) (hw.alloc cs e)⟩
theorem Wl.lit {w0 : World} {H : List Blk} {t e sz by_ n : Nat} {z : Value} {parts : Array (Nat × Operand)} {ps : List (Nat × Value)} {cs : List Value} [TyD P t (.slice e)] [TyS P e sz by_] [TyZ P e z] (hd : Nat.blt d N = true) (hp : Parts Γ parts.toList ps)
  (hn : Nat.beq ps.length n = true) (hb : Nat.ble (n * sz) 16777216 = true) (hF : CatP sz 0 ps cs)
  (h : ∀ c,w0.heap.size ≤ c → Off H c → Wl rest P .seq ops N ((d,.slice (some ⟨c,0,none⟩) n n) :: Γ) (Hp w0 (⟨c,cs,e⟩ :: H)) Q) : Wl (⟨some d,.buildSlice t n parts,ty,pos,af,none⟩ :: rest) P .seq ops N Γ (Hp w0 H) Q :=
 Wl.buildSlice hd hp (fun _ => run_buildSlice_cat hn hb hF) h
theorem Wl.indexAddr {t e sz by_ : TypeId} [ht : TyD P t (.slice e)] [TyS P e sz by_] {x i : Operand} {b o n c : Nat} {k : IntKind} {j : Int} (hd : Nat.blt d N = true) (hx : ev Γ x = some (.slice (some ⟨b,o,none⟩) n c)) (hi : ev Γ i = some (.int k j))
  (hj : 0 ≤ j ∧ j < n) (h : Wl rest P md ops N ((d,.pointer (some ⟨b,o + j.toNat * sz,none⟩)) :: Γ) C Q) : Wl (⟨some d,.indexAddr t x i,ty,pos,af,none⟩ :: rest) P md ops N Γ C Q :=
 Wl.val hd (fun a w ha _ => by simp [execOp,ha.ev hx,ha.ev hi,Instr.indexAt,asIntOf,run_underlying ht.out,hj,run_size (P := P) (t := e),Addr.add_lit]) h
theorem Wl.indexAddr1 {t e by_ : TypeId} [ht : TyD P t (.slice e)] [TyS P e 1 by_] {x i : Operand} {b o n c : Nat} {k : IntKind} {j : Int} (hd : Nat.blt d N = true) (hx : ev Γ x = some (.slice (some ⟨b,o,none⟩) n c)) (hi : ev Γ i = some (.int k j))
  (hj : 0 ≤ j ∧ j < n) (h : Wl rest P md ops N ((d,.pointer (some ⟨b,o + j.toNat,none⟩)) :: Γ) C Q) : Wl (⟨some d,.indexAddr t x i,ty,pos,af,none⟩ :: rest) P md ops N Γ C Q :=
 Wl.indexAddr (sz := 1) hd hx hi hj (by rw [Nat.mul_one];exact h)
theorem Wl.indexArr {t e sz by_ n : TypeId} [ht : TyD P t (.array n e)] [TyS P e sz by_] {x i : Operand} {b o : Nat} {k : IntKind} {j : Int} (hd : Nat.blt d N = true) (hx : ev Γ x = some (.pointer (some ⟨b,o,none⟩))) (hi : ev Γ i = some (.int k j))
  (hj : 0 ≤ j ∧ j < (n : Int)) (h : Wl rest P md ops N ((d,.pointer (some ⟨b,o + j.toNat * sz,none⟩)) :: Γ) C Q) : Wl (⟨some d,.indexAddr t x i,ty,pos,af,none⟩ :: rest) P md ops N Γ C Q :=
 Wl.val hd (fun a w ha _ => by simp [execOp,ha.ev hx,ha.ev hi,Instr.indexAt,asIntOf,run_underlying ht.out,hj,run_size (P := P) (t := e),Addr.add_lit,Instr.sureAddr]) h
theorem Wl.sliceFull {t e sz by_ : TypeId} [ht : TyD P t (.slice e)] [TyS P e sz by_] {x : Operand} {lo hi mx : Option Operand} {a0 : Option Addr} {n c l h' m : Nat} (hd : Nat.blt d N = true) (hx : ev Γ x = some (.slice a0 n c))
  (hlo : BoundIs Γ lo 0 l) (hhi : BoundIs Γ hi n h') (hmx : BoundIs Γ mx c m) (hs : mx.isSome = true → hi.isSome = true) (h1 : l ≤ h') (h2 : h' ≤ m) (h3 : m ≤ c)
  (h : Wl rest P md ops N ((d,.slice (if m = l then a0 else a0.map (·.add (l * sz))) (h' - l) (m - l)) :: Γ) C Q) : Wl (⟨some d,.slice t x lo hi mx,ty,pos,af,none⟩ :: rest) P md ops N Γ C Q :=
 Wl.val hd (fun a w ha _ => by
  have e : (Instr.sliceAt t (.slice a0 n c) (lo.map a.eval) (hi.map a.eval) (mx.map a.eval)).run P w = .ok (.slice (if m = l then a0 else a0.map (·.add (l * sz))) (h' - l) (m - l)) w := by
   have eb := bounds_run (P := P) (w := w) ha hlo hhi hmx hs h1 h2 h3
   simp only [Instr.sliceAt,Sem.run_bind,run_underlying ht.out,Result.andThen,Instr.slice,eb,run_size (P := P) (t := e),Sem.run_pure]
  simp only [execOp,ha.ev hx,Sem.run_bind,e,Result.andThen,Sem.run_pure]) h
theorem exec_call {f : FuncId} [hE : Ent P f] {a : Act} {w : World} {N : Nat} {Γ : Env} (ha : Fr N a Γ) {d : Option Nat} {xs : Array Operand} {vs : List Value} {ts : Array TypeId} {ty : TypeId} {pos : String} {af : Array Edge} {g : Option (Nat × Bool)} (hx : Evs Γ xs.toList vs) :
  (execOp a.eval ⟨d,.call { callee := .value (.func f),args := xs,argTypes := ts },ty,pos,af,g⟩).run P w = .ok (.enter f vs.toArray) w := by
 have e : xs.map a.eval = vs.toArray := by
  obtain ⟨l⟩ := xs
  simp only [List.map_toArray]
  exact congrArg _ (hx.map ha)
 simp [execOp,resolve,e,Act.eval,Deferred.ofValue,invoke,hE.out]
theorem Wl.callC {f : FuncId} [Ent P f] {xs : Array Operand} {vs : List Value} {ts : Array TypeId} (hd : Nat.blt d N = true) (hx : Evs Γ xs.toList vs)
  (h : ∀ w,C w → Calls P f vs.toArray w fun e w' => ∃ v C',e = .returned v ∧ C' w' ∧ Wl rest P .seq ops N ((d,v) :: Γ) C' Q) :
  Wl (⟨some d,.call { callee := .value (.func f),args := xs,argTypes := ts },ty,pos,af,none⟩ :: rest) P .seq ops N Γ C Q := by
 intro a w ha hw
 refine wpList_plain rfl fun K hK => ?_
 simp only [Oper.wp,exec_call ha hx,Oper.upon]
 refine (h w hw).mono ?_
 rintro e w' ⟨v,C',rfl,hC,h⟩
 exact hK _ _ (h _ _ (ha.put hd v) hC)
theorem Hp.q {P : Program} {f : FuncId} {xs : Array Value} {e0 : Ending} {w0 wq : World} {H : List Blk} (hq : Hp w0 H wq) (h : Calls P f xs wq fun e w => e = e0 ∧ Hp wq [] w) : Calls P f xs wq fun e w => e = e0 ∧ Hp w0 H w := h.mono fun _ _ h => ⟨h.1,hq.keep h.2⟩
theorem Wl.callQ {f : FuncId} [Ent P f] {xs : Array Operand} {vs : List Value} {ts : Array TypeId} {v : Value} (hd : Nat.blt d N = true) (hx : Evs Γ xs.toList vs)
  (hq : ∀ w,C w → Calls P f vs.toArray w fun e w' => e = .returned v ∧ C w') (h : Wl rest P .seq ops N ((d,v) :: Γ) C Q) :
  Wl (⟨some d,.call { callee := .value (.func f),args := xs,argTypes := ts },ty,pos,af,none⟩ :: rest) P .seq ops N Γ C Q := by
 intro a w ha hw
 refine wpList_plain rfl fun K hK => ?_
 simp only [Oper.wp,exec_call ha hx,Oper.upon]
 refine (hq w hw).mono ?_
 rintro e w' ⟨rfl,hC⟩
 exact hK _ _ (h _ _ (ha.put hd v) hC)
theorem wp_only {o : Oper} {a : Act} {w : World} {K : Act → World → Prop} {Q' : Exit → Act → World → Prop} (hq : ∀ e a w,Q' e a w → e = .normal) (hh : o.wp P a w K Q') : o.wp P a w K fun _ _ _ => False := by
 have hl : ¬ LetsOut Q' := fun ⟨a,w,h⟩ => nomatch hq _ _ _ h
 unfold Oper.wp at *
 generalize (execOp a.eval o).run P w = r at *
 cases r with
 | ok n w' =>
  cases n <;> simp only [Oper.upon] at hh ⊢ <;>
   first
    | exact hh
    | exact Calls.mono hh (fun e w'' he => by cases e <;> first | exact he | exact nomatch hq _ _ _ he | exact (hl he).elim)
    | exact Rows.mono hh (fun _ _ he => he)
 | halt x w' => cases x <;> simp only [Oper.upon] at hh ⊢ <;> first | exact hh | exact nomatch hq _ _ _ hh
theorem Wl.slice0 {t e sz by_ : TypeId} [ht : TyD P t (.slice e)] [TyS P e sz by_] {x : Operand} {hi mx : Option Operand} {a0 : Option Addr} {n c h' m : Nat} (hd : Nat.blt d N = true) (hx : ev Γ x = some (.slice a0 n c))
  (hhi : BoundIs Γ hi n h') (hmx : BoundIs Γ mx c m) (hs : mx.isSome = true → hi.isSome = true) (h2 : h' ≤ m) (h3 : m ≤ c)
  (h : Wl rest P md ops N ((d,.slice a0 h' m) :: Γ) C Q) : Wl (⟨some d,.slice t x none hi mx,ty,pos,af,none⟩ :: rest) P md ops N Γ C Q :=
 Wl.sliceFull (l := 0) hd hx BoundIs.no hhi hmx hs (Nat.zero_le _) h2 h3 (by
  have e : (if m = 0 then a0 else a0.map (·.add (0 * sz))) = a0 := by split <;> cases a0 <;> simp [Addr.add]
  rw [e];exact h)
theorem run_conv_bs {w : World} {s t e : TypeId} {y : Value} {l : List UInt8} [hs : TyD P s (.slice e)] [he : TyD P e (.int .u8)] [ht : TyD P t .string] (hy : Bs w y l) : (convert s t y).run P w = .ok (.string (strOf l)) w := by
 obtain ⟨a,cap,rfl,_⟩ := hy.shape
 by_cases hl : l = []
 ·subst hl
  simp only [List.length_nil]
  rw [run_convert_bytes_string w s t e a 0 cap hs.out he.out ht.out]
  cases a with
  | none => simp [Conv.bytesToString];rfl
  | some a =>
   rw [run_bytesToString w a 0 cap [] (by simp [loadCells,loadCellsFrom])]
   rfl
 ·obtain ⟨b,off,rfl,hc⟩ := hy.cells hl
  have := run_convert_bytes_arg (P := P) w s e hs.out he.out b off l.length cap (l.map fun c => (c.toNat : Int)) zd (fun i hi => by rw [hc i hi];simp [hi]) t ht.out
  rw [this]
  congr 2
  simp only [strOfNums,strOf,List.map_map]
  congr 1
  rw [show l.map ((fun n : Int => UInt8.ofNat n.toNat) ∘ fun c : UInt8 => (c.toNat : Int)) = l.map id from List.map_congr_left fun c _ => by simp]
  simp
theorem Wl.convBS {s t e : TypeId} {x : Operand} {y : Value} {l : List UInt8} [TyD P s (.slice e)] [TyD P e (.int .u8)] [TyD P t .string] (hd : Nat.blt d N = true) (hx : ev Γ x = some y) (hy : ∀ w,C w → Bs w y l)
  (h : Wl rest P md ops N ((d,.string (strOf l)) :: Γ) C Q) : Wl (⟨some d,.convert s t x,ty,pos,af,none⟩ :: rest) P md ops N Γ C Q :=
 Wl.val hd (fun a w ha hw => by simp only [execOp,ha.ev hx,Sem.run_bind,run_conv_bs (P := P) (s := s) (t := t) (hy w hw),Result.andThen,Sem.run_pure]) h
theorem Wl.convBSo {w0 : World} {H : List Blk} {s t e : TypeId} {x : Operand} {y : Value} {l : List UInt8} [TyD P s (.slice e)] [TyD P e (.int .u8)] [TyD P t .string] (hd : Nat.blt d N = true) (hx : ev Γ x = some y) (hy : Bs w0 y l)
  (ho : ∀ k,y.ownBlock = some k → k < w0.heap.size → l ≠ [] → Off H k) (h : Wl rest P md ops N ((d,.string (strOf l)) :: Γ) (Hp w0 H) Q) : Wl (⟨some d,.convert s t x,ty,pos,af,none⟩ :: rest) P md ops N Γ (Hp w0 H) Q :=
 Wl.convBS hd hx (fun _ hw => hy.upd hw.upd fun k h1 h2 h3 h4 => h4 (ho k h1 h2 h3)) h
theorem ownsRow_upd {S : Nat → Prop} {w w' : World} {base : Nat} {e : TypeId} {sz n : Nat} {v : Value} {xs : List Value} (h : w.ownsRow base e sz v n xs) (u : Upd S w w') (hs : ∀ k,v.ownBlock = some k → ¬ S k) : w'.ownsRow base e sz v n xs := by
 obtain ⟨h1,h2⟩ := h
 refine ⟨h1,?_⟩
 rcases h2 with h2 | ⟨g,cap,cur,rfl,hg,hh,r⟩
 ·exact .inl h2
 ·exact .inr ⟨g,cap,cur,rfl,hg,u.heap hh (hs g rfl),r⟩
theorem run_append2 {w : World} {t ty e sz by_ base n m c : Nat} {z v : Value} {xs news : List Value} {ad : Addr} [ht : TyD P t (.slice e)] [hs : TyS P e sz by_] [hz : TyZ P e z] (hzs : z.cells.size = sz) (hsz : 0 < sz)
  (hown : w.ownsRow base e sz v n xs) (hl : news.length = m * sz) (hnews : ∀ j u,news[j]? = some u → w.cell? (ad.add j) = some u) (h1 : news.all Value.oneCell' = true) (h63 : n + m ≤ maxLen) (hb : (n + m) * by_ ≤ 140737488355328) (hbase : base ≤ w.heap.size) :
  ∃ v' w',(Builtin.append_ #[t,t] ty #[v,.slice (some ad) m c]).run P w = .ok v' w' ∧ w'.ownsRow base e sz v' (n + m) (xs ++ news) ∧ w.grownBy w' v.ownBlock ∧ (v' = .slice none 0 0 ↔ v = .slice none 0 0 ∧ m = 0) ∧
   (∀ k,v'.ownBlock = some k → v.ownBlock = some k ∨ w.heap.size ≤ k) := by
 have a1 := hs.out
 have a2 := hz.out
 cases e1 : P.info? e with
 | none => rw [e1] at a1;cases a1
 | some i =>
  rw [e1] at a1 a2
  simp at a1 a2
  have hn1 : ∀ u ∈ news,u.oneCell' = true := fun u hu => List.all_eq_true.1 h1 u hu
  rcases hown.2 with ⟨rfl,rfl⟩ | ⟨g,cap,cur,rfl,hg,hh,hnc,hcm,hcs,htk⟩
  ·have hx0 : xs = [] := by simpa using hown.1
   subst hx0
   obtain ⟨v',w',r1,r2,r3,r4⟩ := run_append_own (P := P) w w.heap.size t ty e i z sz by_ ht.out e1 a2 a1.1 a1.2 hzs hsz (.slice none 0 0) 0 [] (World.ownsRow_nil w _ e sz) ad m c news hl hnews hn1 h63 hb (Nat.le_refl _)
   exact ⟨v',w',r1,Go.Joins.ownsRow_le r2 hbase,r3,r4,fun k hk => .inr (r2.lt k hk).1⟩
  ·by_cases hroom : n + m ≤ cap
   ·obtain ⟨w',r1,r2,r3⟩ := run_append_fits (P := P) w base t ty e i sz ht.out e1 a1.1 g n cap xs hown ad m c news hl hnews hn1 hroom
    exact ⟨_,w',r1,r2,r3,by simp,fun k hk => .inl hk⟩
   ·obtain ⟨v',w',r1,r2,r3⟩ := run_append_arg_grows (P := P) w t ty e i z sz by_ ht.out e1 a2 a1.1 a1.2 hzs hsz ⟨g,0,none⟩ n cap xs hown.1 (fun j u hj => hown.cells rfl j u hj) ad m c news hl hnews kc h63 hb
    refine ⟨v',w',r1,Go.Joins.ownsRow_le r2 hbase,⟨r3.os,r3.tape,r3.output,r3.size,fun k hk _ => r3.block k hk zd⟩,?_,fun k hk => .inr (r2.lt k hk).1⟩
    refine ⟨fun hv => ?_,fun hv => by simp at hv⟩
    rcases r2.2 with ⟨_,h0⟩ | ⟨g',cap',_,hv',_⟩
    ·omega
    ·rw [hv'] at hv;cases hv
theorem Wl.append {w0 : World} {H : List Blk} {t e sz by_ base n m c : Nat} {z v : Value} {xs news : List Value} {ad : Addr} {s x : Operand} [ht : TyD P t (.slice e)] [hs : TyS P e sz by_] [hz : TyZ P e z]
  (hd : Nat.blt d N = true) (hs' : ev Γ s = some v) (hx : ev Γ x = some (.slice (some ad) m c)) (hown : w0.ownsRow base e sz v n xs) (hl : news.length = m * sz) (hnews : ∀ w,Hp w0 H w → ∀ j u,news[j]? = some u → w.cell? (ad.add j) = some u)
  (hoff : ∀ k,v.ownBlock = some k → Off H k) (h1 : news.all Value.oneCell' = true) (hzs : z.cells.size = sz) (hsz : 0 < sz) (h63 : n + m ≤ maxLen) (hb : (n + m) * by_ ≤ 140737488355328) (hbase : base ≤ w0.heap.size)
  (h : ∀ v' w1,w1.ownsRow base e sz v' (n + m) (xs ++ news) → Upd (fun k => v.ownBlock = some k ∨ ¬ Off H k) w0 w1 → (v' = .slice none 0 0 ↔ v = .slice none 0 0 ∧ m = 0) → (∀ k,v'.ownBlock = some k → Off H k ∧ (v.ownBlock = some k ∨ w0.heap.size ≤ k)) → Wl rest P .seq ops N ((d,v') :: Γ) (Hp w1 H) Q) :
  Wl (⟨some d,.call { callee := .builtin .append,args := #[s,x],argTypes := #[t,t] },ty,pos,af,none⟩ :: rest) P .seq ops N Γ (Hp w0 H) Q :=
 Wl.eff fun a w ha hw => by
  have hown' : w.ownsRow base e sz v n xs := ownsRow_upd hown hw.upd fun k hk x => x (hoff k hk)
  obtain ⟨v',w',hrun,ho,hg,hn,hk⟩ := run_append2 (P := P) (t := t) (ty := ty) (c := c) hzs hsz hown' hl (hnews w hw) h1 h63 hb (Nat.le_trans hbase hw.upd.size)
  have u : Upd (fun k => v.ownBlock = some k) w w' := Upd.grown hg fun k hk => hk
  have hp1 : Own w' H := hw.own.upd u fun y hy hk => (hoff _ hk).at hy rfl
  refine ⟨v',w',.inl ?_,h v' w' ho ((hw.upd.mono fun k _ hk => .inr hk).trans (u.mono fun k _ hk => .inl hk)) hn (fun k hk' => (hk k hk').elim (fun e => ⟨hoff k e,.inl e⟩) fun hge => ⟨Off.of fun y hy e => by have := hw.own.lt hy;omega,.inr (Nat.le_trans hw.upd.size hge)⟩) _ _ (ha.put hd _) ⟨Upd.refl _ _,hp1,hw.apart⟩⟩
  simp [execOp,resolve,invoke,builtin,ha.ev hs',ha.ev hx,hrun]
theorem Wl.appendH {w0 : World} {H : List Blk} {t e sz by_ base n m c b bt : Nat} {z v : Value} {xs news : List Value} {s x : Operand} [ht : TyD P t (.slice e)] [hs : TyS P e sz by_] [hz : TyZ P e z]
  (hd : Nat.blt d N = true) (hs' : ev Γ s = some v) (hx : ev Γ x = some (.slice (some ⟨b,0,none⟩) m c)) (hm : (⟨b,news,bt⟩ : Blk) ∈ H) (hl : Nat.beq news.length (m * sz) = true) (hown : w0.ownsRow base e sz v n xs)
  (hoff : ∀ k,v.ownBlock = some k → Off H k) (h1 : news.all Value.oneCell' = true) (hzs : z.cells.size = sz) (hsz : 0 < sz) (h63 : n + m ≤ maxLen) (hb : (n + m) * by_ ≤ 140737488355328) (hbase : base ≤ w0.heap.size)
  (h : ∀ v' w1,w1.ownsRow base e sz v' (n + m) (xs ++ news) → Upd (fun k => v.ownBlock = some k ∨ ¬ Off H k) w0 w1 → (v' = .slice none 0 0 ↔ v = .slice none 0 0 ∧ m = 0) → (∀ k,v'.ownBlock = some k → Off H k ∧ (v.ownBlock = some k ∨ w0.heap.size ≤ k)) → Wl rest P .seq ops N ((d,v') :: Γ) (Hp w1 H) Q) :
  Wl (⟨some d,.call { callee := .builtin .append,args := #[s,x],argTypes := #[t,t] },ty,pos,af,none⟩ :: rest) P .seq ops N Γ (Hp w0 H) Q :=
 Wl.append hd hs' hx hown (Nat.eq_of_beq_eq_true hl) (fun w hw j u hj => by rw [addLit];exact hw.cell hm (by simpa using hj)) hoff h1 hzs hsz h63 hb hbase h
theorem Wl.appendT {w0 : World} {H : List Blk} {t e sz by_ base n m c b bt : Nat} {z v : Value} {xs news : List Value} {s x : Operand} [ht : TyD P t (.slice e)] [hs : TyS P e sz by_] [hz : TyZ P e z]
  (hd : Nat.blt d N = true) (hs' : ev Γ s = some v) (hx : ev Γ x = some (.slice (some ⟨b,0,none⟩) m c)) (hb0 : w0.heap.size ≤ b) (hl : Nat.beq news.length (m * sz) = true) (hown : w0.ownsRow base e sz v n xs)
  (hoff : ∀ k,v.ownBlock = some k → Off H k) (h1 : news.all Value.oneCell' = true) (hzs : z.cells.size = sz) (hsz : 0 < sz) (h63 : n + m ≤ maxLen) (hb : (n + m) * by_ ≤ 140737488355328) (hbase : base ≤ w0.heap.size)
  (h : ∀ v' w1,w1.ownsRow base e sz v' (n + m) (xs ++ news) → Upd (fun k => v.ownBlock = some k ∨ ¬ Off H k) w0 w1 → (v' = .slice none 0 0 ↔ v = .slice none 0 0 ∧ m = 0) → (∀ k,v'.ownBlock = some k → Off H k ∧ (v.ownBlock = some k ∨ w0.heap.size ≤ k)) → Wl rest P .seq ops N ((d,v') :: Γ) (Hp w1 H) Q) :
  Wl (⟨some d,.call { callee := .builtin .append,args := #[s,x],argTypes := #[t,t] },ty,pos,af,none⟩ :: rest) P .seq ops N Γ (Hp w0 (⟨b,news,bt⟩ :: H)) Q :=
 Wl.appendH hd hs' hx (List.Mem.head _) hl hown (fun k hk => ⟨fun e => by have := (hown.lt k hk).2;simp only at e;omega,hoff k hk⟩) h1 hzs hsz h63 hb hbase fun v' w1 a1 a2 a3 a4 =>
  Wl.reb fun w hw => ⟨hw.own.2,hw.apart.2,h v' w (ownsRow_upd a1 hw.upd fun k hk y => y (a4 k hk).1) (a2.comp hw.upd fun k hk hs => by
   have key : ¬ Off (⟨b,news,bt⟩ :: H) k → ¬ Off H k := fun hn ho => hn ⟨fun e => by simp only at e;omega,ho⟩
   rcases hs with (hs | hs) | hs
   ·exact .inl hs
   ·exact .inr (key hs)
   ·exact .inr (key hs)) a3 fun k hk => ⟨(a4 k hk).1.2,(a4 k hk).2⟩⟩
theorem Wl.appendV {w0 : World} {H : List Blk} {t e sz by_ base n m : Nat} {z v y : Value} {xs news : List Value} {s x : Operand} [ht : TyD P t (.slice e)] [hs : TyS P e sz by_] [hz : TyZ P e z]
  (hd : Nat.blt d N = true) (hs' : ev Γ s = some v) (hx : ev Γ x = some y) (hy : Sv w0 sz m y news) (hyo : ∀ k,y.ownBlock = some k → k < w0.heap.size → news ≠ [] → Off H k) (hown : w0.ownsRow base e sz v n xs)
  (hoff : ∀ k,v.ownBlock = some k → Off H k) (h1 : news.all Value.oneCell' = true) (hzs : z.cells.size = sz) (hsz : 0 < sz) (h63 : n + m ≤ maxLen) (hb : (n + m) * by_ ≤ 140737488355328) (hbase : base ≤ w0.heap.size)
  (h : ∀ v' w1,w1.ownsRow base e sz v' (n + m) (xs ++ news) → Upd (fun k => v.ownBlock = some k ∨ ¬ Off H k) w0 w1 → (v' = .slice none 0 0 ↔ v = .slice none 0 0 ∧ m = 0) → (∀ k,v'.ownBlock = some k → Off H k ∧ (v.ownBlock = some k ∨ w0.heap.size ≤ k)) → Wl rest P .seq ops N ((d,v') :: Γ) (Hp w1 H) Q) :
  Wl (⟨some d,.call { callee := .builtin .append,args := #[s,x],argTypes := #[t,t] },ty,pos,af,none⟩ :: rest) P .seq ops N Γ (Hp w0 H) Q := by
 obtain ⟨hl,a0,cap,rfl,h2,h3,h5,h4⟩ := hy
 rcases a0 with _ | ad
 ·have hn : news = [] := Classical.byContradiction fun e => by obtain ⟨b,o,e',_⟩ := h4 e;cases e'
  subst hn
  have hc0 := h5 rfl
  subst hc0
  have hm0 : m = 0 := by
   have : 0 = m * sz := by simpa using hl
   rcases Nat.mul_eq_zero.1 this.symm with e | e
   ·exact e
   ·omega
  subst hm0
  refine Wl.eff fun a w ha hw => ?_
  have hown' : w.ownsRow base e sz v n xs := ownsRow_upd hown hw.upd fun k hk x => x (hoff k hk)
  have a1 := hs.out
  obtain ⟨i,e1⟩ : ∃ i,P.info? e = some i := by
   cases e1 : P.info? e with
   | none => rw [e1] at a1;cases a1
   | some i => exact ⟨i,rfl⟩
  rw [e1] at a1
  simp at a1
  have hrun := run_append_owned_none (P := P) (w := w) base t ty e i sz ht.out e1 v n xs hown'
  refine ⟨v,w,.inl ?_,h v w ?_ (hw.upd.mono fun k _ hk => .inr hk) ?_ (fun k hk => ⟨hoff k hk,.inl hk⟩) _ _ (ha.put hd _) ⟨Upd.refl _ _,hw.own,hw.apart⟩⟩
  ·simp [execOp,resolve,invoke,builtin,ha.ev hs',ha.ev hx,hrun]
  ·simpa using hown'
  ·simp
 ·refine Wl.append hd hs' hx hown hl (fun w hw j u hj => ?_) hoff h1 hzs hsz h63 hb hbase h
  obtain ⟨hj,e⟩ := List.getElem?_eq_some_iff.1 hj
  obtain ⟨b,o,e',hc⟩ := h4 (fun e => by subst e;simp at hj)
  cases e'
  rw [addLit]
  have := hc j hj
  rw [e] at this
  exact hw.old this (hyo b rfl (World.block_lt_of_cell? w0 _ this) (fun e => by subst e;simp at hj))
end ops
theorem St.seq {x y : Code} (h : St x P N Γ C (Exit.then (y.wp P Q) Q)) : St (.seq x y) P N Γ C Q := fun a w ha hw => wp_seq (h a w ha hw)
theorem St.skip (h : Gt N .normal Γ C Q) : St .skip P N Γ C Q := fun a w ha hw => wp_skip (h a w ha hw)
theorem St.ret (h : Gt N .ret Γ C Q) : St .ret P N Γ C Q := fun a w ha hw => wp_ret (h a w ha hw)
theorem St.exit {i : Nat} (h : Gt N (.exit i) Γ C Q) : St (.exit i) P N Γ C Q := fun a w ha hw => wp_exit (h a w ha hw)
theorem St.block {i : Nat} {c : Code} (h : St c P N Γ C (Exit.inBlock i Q)) : St (.block i c) P N Γ C Q := fun a w ha hw => wp_block (h a w ha hw)
theorem St.region {i : Nat} {l : List Oper} (h : Wl l P .seq l.toArray N Γ C Q) : St (.region i l.toArray false) P N Γ C Q := fun a w ha hw => wp_region_lit (h a w ha hw)
theorem St.draw {i : Nat} {l : List Oper} (hm : P.follows .mixedOrders = true) (hB : Region.lexB .any l.toArray = true) (hC : ∀ w,C w → C w.drew) (h : Wl l P .quiet l.toArray N Γ C Q) : St (.region i l.toArray true) P N Γ C Q :=
 fun a w ha hw => wp_region_quiet (C := C) hm hB (hC w hw) (by simpa using h a ha)
theorem St.condT {x : Operand} {b : Bool} {p q : Code} (hx : ev Γ x = some (.bool b)) (hb : b = true) (h : St p P N Γ C Q) : St (.cond x p q) P N Γ C Q :=
 fun a w ha hw => wp_cond_true (by rw [ha.ev hx,hb]) (h a w ha hw)
theorem St.condF {x : Operand} {b : Bool} {p q : Code} (hx : ev Γ x = some (.bool b)) (hb : b = false) (h : St q P N Γ C Q) : St (.cond x p q) P N Γ C Q :=
 fun a w ha hw => wp_cond_false (by rw [ha.ev hx,hb]) (h a w ha hw)
theorem St.condP {x : Operand} {r : Prop} {_i : Decidable r} {p q : Code} (hx : ev Γ x = some (.bool (decide r))) (h1 : r → decide r = true → St p P N Γ C Q) (h2 : ¬ r → decide r = false → St q P N Γ C Q) : St (.cond x p q) P N Γ C Q := by
 by_cases hr : r
 ·exact St.condT hx (decide_eq_true hr) (h1 hr (decide_eq_true hr))
 ·exact St.condF hx (decide_eq_false hr) (h2 hr (decide_eq_false hr))
theorem St.cls {c : Code} {C' : World → Prop} (hc : ∀ w,C w → C' w) (h : St c P N Γ C' Q) : St c P N Γ C Q := fun a w ha hw => h a w ha (hc w hw)
theorem St.sub {c : Code} {Γ' : Env} (hs : Sub Γ Γ') (h : St c P N Γ' C Q) : St c P N Γ C Q := fun a w ha hw => h a w (ha.sub hs) hw
theorem St.base {c : Code} {w0 : World} {H : List Blk} (h : ∀ w,Hp w0 H w → St c P N Γ (Hp w H) Q) : St c P N Γ (Hp w0 H) Q := fun a w ha hw => h w hw a w ha hw.rebase
theorem St.reb {c : Code} {H' : List Blk} (h : ∀ w,C w → Own w H' ∧ Apart H' ∧ St c P N Γ (Hp w H') Q) : St c P N Γ C Q := fun a w ha hw => by
 obtain ⟨h1,h2,h3⟩ := h w hw
 exact h3 a w ha ⟨Upd.refl _ _,h1,h2⟩
theorem St.loop {σ : Type} (I : σ → Prop) (Γf : σ → Env) (Cf : σ → World → Prop) (μ : σ → Nat) {c : Code} (τ0 : σ) (h0 : I τ0) (hs : Sub Γ (Γf τ0)) (hc : ∀ w,C w → Cf τ0 w)
  (round : ∀ τ,I τ → St c P N (Γf τ) (Cf τ) (Exit.then (fun a w => ∃ τ',I τ' ∧ μ τ' < μ τ ∧ Fr N a (Γf τ') ∧ Cf τ' w) Q)) : St (.loop c) P N Γ C Q := by
 intro a w ha hw b k cs
 have key : ∀ n τ a w,μ τ = n → I τ → Fr N a (Γf τ) → Cf τ w →
   ∃ e a' w',Q e a' w' ∧ Arrives P (lone (b.at a (.code c :: .inLoop c :: k)) cs w) b k cs e a' w' := by
  intro n
  induction n using Nat.strongRecOn with
  | _ n ih =>
   intro τ a w hn hI hfr hC
   obtain ⟨e,a₁,w₁,hq,harr⟩ := round τ hI a w hfr hC b (.inLoop c :: k) cs
   cases e with
   | normal =>
    obtain ⟨τ',hI',hlt,hfr',hC'⟩ := hq
    obtain ⟨e₂,a₂,w₂,hq₂,harr₂⟩ := ih (μ τ') (hn ▸ hlt) τ' a₁ w₁ rfl hI' hfr' hC'
    exact ⟨e₂,a₂,w₂,hq₂,.of_steps (Steps.trans harr (.one step_inLoop)) harr₂⟩
   | exit id => exact ⟨_,a₁,w₁,hq,.pass (x := .inLoop c) rfl (fun _ _ => .inl zd) harr⟩
   | goto l => exact ⟨_,a₁,w₁,hq,.pass (x := .inLoop c) rfl (fun _ _ => .inl zd) harr⟩
   | ret => exact ⟨_,a₁,w₁,hq,.pass (x := .inLoop c) rfl (fun _ _ => .inl zd) harr⟩
   | panic ch => exact ⟨_,a₁,w₁,hq,.pass (x := .inLoop c) rfl (fun _ _ => .inl zd) harr⟩
   | outgrown => exact ⟨_,a₁,w₁,hq,.pass (x := .inLoop c) rfl (fun _ _ => .inl zd) harr⟩
 obtain ⟨e,a',w',hq,harr⟩ := key _ τ0 a w rfl h0 (ha.sub hs) (hc w hw)
 exact ⟨e,a',w',hq,.of_steps (.one step_loop) harr⟩
theorem Gt.round {σ : Type} {I : σ → Prop} {Γf : σ → Env} {Cf : σ → World → Prop} {μ : σ → Nat} {m : Nat} (τ' : σ) (hI : I τ') (hm : μ τ' < m) (hs : Sub Γ (Γf τ')) (hc : ∀ w,C w → Cf τ' w) :
  Gt N .normal Γ C (Exit.then (fun a w => ∃ τ',I τ' ∧ μ τ' < m ∧ Fr N a (Γf τ') ∧ Cf τ' w) Q) := fun _ w ha hw => ⟨τ',hI,hm,ha.sub hs,hc w hw⟩
theorem St.cut {σ : Type} (I : σ → Prop) (Γf : σ → Env) (Cf : σ → World → Prop) {x y : Code} (h1 : St x P N Γ C (Exit.then (fun a w => ∃ τ,I τ ∧ Fr N a (Γf τ) ∧ Cf τ w) Q)) (h2 : ∀ τ,I τ → St y P N (Γf τ) (Cf τ) Q) : St (.seq x y) P N Γ C Q :=
 St.seq fun a w ha hw => Code.wp_mono (fun e a' w' q => by
  cases e with
  | normal => obtain ⟨τ,hI,hf,hC⟩ := q;exact h2 τ hI a' w' hf hC
  | _ => exact q) (h1 a w ha hw)
theorem Gt.meet {σ : Type} {I : σ → Prop} {Γf : σ → Env} {Cf : σ → World → Prop} (τ' : σ) (hI : I τ') (hs : Sub Γ (Γf τ')) (hc : ∀ w,C w → Cf τ' w) :
  Gt N .normal Γ C (Exit.then (fun a w => ∃ τ',I τ' ∧ Fr N a (Γf τ') ∧ Cf τ' w) Q) := fun _ w ha hw => ⟨τ',hI,ha.sub hs,hc w hw⟩
theorem Gt.next {y : Code} {Q' : Exit → Act → World → Prop} (h : St y P N Γ C Q) : Gt N .normal Γ C (Exit.then (y.wp P Q) Q') := h
theorem Gt.thenExit {i : Nat} {k : Act → World → Prop} (h : Gt N (.exit i) Γ C Q) : Gt N (.exit i) Γ C (Exit.then k Q) := h
theorem Gt.thenRet {k : Act → World → Prop} (h : Gt N .ret Γ C Q) : Gt N .ret Γ C (Exit.then k Q) := h
theorem Gt.inNormal {i : Nat} (h : Gt N .normal Γ C Q) : Gt N .normal Γ C (Exit.inBlock i Q) := h
theorem Gt.inRet {i : Nat} (h : Gt N .ret Γ C Q) : Gt N .ret Γ C (Exit.inBlock i Q) := h
theorem Gt.inExit {i : Nat} (h : Gt N .normal Γ C Q) : Gt N (.exit i) Γ C (Exit.inBlock i Q) := fun a w ha hw => by
 simp only [Exit.inBlock,if_true];exact h a w ha hw
theorem Gt.out1 {fn : Func} {R : Ending → World → Prop} {t : Nat} {v : Value} (hr : fn.results = #[.tmp t]) (ht : look Γ t = some v) (h : ∀ w,C w → R (.returned v) w) : Gt N .ret Γ C (bodyPost P fn R) := fun a w ha hw => by
 refine ⟨ha.defers,v,?_,h w hw⟩
 rw [results_tmp hr]
 simp [ha.get t v ht]
theorem Gt.out0n {fn : Func} {R : Ending → World → Prop} (hr : fn.results = #[]) (h : ∀ w,C w → R (.returned (.tuple #[])) w) : Gt N .normal Γ C (bodyPost P fn R) := fun a w ha hw =>
 ⟨ha.defers,_,results_none hr _ _ _,h w hw⟩
theorem Gt.out2 {fn : Func} {R : Ending → World → Prop} {t u : Nat} {v v' : Value} (hr : fn.results = #[.tmp t,.tmp u]) (ht : look Γ t = some v) (hu : look Γ u = some v') (h : ∀ w,C w → R (.returned (.tuple #[v,v'])) w) : Gt N .ret Γ C (bodyPost P fn R) := fun a w ha hw => by
 refine ⟨ha.defers,_,?_,h w hw⟩
 rw [results_tmp2 hr]
 simp [ha.get t v ht,ha.get u v' hu]
theorem Fr.start {args : List Value} {N : Nat} {Γ : Env} (hN : args.length ≤ N) (hg : ∀ t v,look Γ t = some v → args[t]? = some v) : Fr N { tmps := args.toArray ++ Array.replicate (N - args.toArray.size) undef,defers := [] } Γ := by
 refine ⟨rfl,by simp;omega,fun t v ht => ?_⟩
 have h := hg t v ht
 have hlt : t < args.length := (List.getElem?_eq_some_iff.1 h).1
 simp [Array.getElem?_append,hlt]
 simpa [List.getElem?_eq_getElem hlt] using h
inductive ArgEnv (args : List Value) : Env → Prop
 | nil : ArgEnv args []
 | cons {t : Nat} {v : Value} {r : Env} (h : args[t]? = some v) (hs : ArgEnv args r) : ArgEnv args ((t,v) :: r)
theorem ArgEnv.get {args : List Value} {Γ : Env} (h : ArgEnv args Γ) : ∀ t v,look Γ t = some v → args[t]? = some v := by
 induction h with
 | nil => intro t v h;simp [look] at h
 | @cons d u r h hs ih =>
  intro t v ht
  simp only [look] at ht
  by_cases e : t = d
  ·subst e;simp at ht;subst ht;exact h
  ·rw [beqFalse e] at ht;exact ih t v (by simpa using ht)
theorem enter {f : FuncId} {fn : Func} {c : Code} {args : List Value} {w : World} {R : Ending → World → Prop} (hf : P.funcs[f]? = some fn) (hn : fn.ntmps = N) (hb : fn.body = some c) (hN : args.length ≤ N) (hΓ : ArgEnv args Γ)
  (h : St c P N Γ (Hp w []) (bodyPost P fn R)) : Calls P f args.toArray w R := by
 refine calls_of_wp hf hb ?_
 have := h _ w (Fr.start (N := N) hN hΓ.get) (Hp.start w)
 rw [hn]
 exact this
end
abbrev Ext (w w' : World) : Prop := Upd (fun _ => False) w w'
theorem Ext.start (w0 w : World) (h : Hp w0 [] w) : Ext w0 w.drew := (h.upd.mono fun _ _ y => y trivial).trans (Upd.drew _ _)
theorem Ext.trans (a b c : World) (h : Ext a b) (k : Ext b c) : Ext a c := h.comp k fun _ _ hs => hs.elim id id
def RAt : List (Value → World → Prop) → Nat → Value → World → Prop
 | [],_ => fun _ _ => True
 | r :: _,0 => r
 | _ :: rs,i + 1 => RAt rs i
def dstO (o : Oper) : Nat := match o.dst with
 | some d => d
 | none => 0
def dstAt (l : List Oper) (i : Nat) : Nat := match l[i]? with
 | some o => dstO o
 | none => 0
def DepG (l : List Oper) (Rs : List (Value → World → Prop)) (w1 : World) (K : Env → Prop) : List Edge → Env → Prop
 | [],Γ => K Γ
 | e :: es,Γ => if Region.binds .any e then ∀ v,RAt Rs e.on v w1 → DepG l Rs w1 K es ((dstAt l e.on,v) :: Γ) else DepG l Rs w1 K es Γ
def SelG (l : List Oper) (Rs : List (Value → World → Prop)) (w1 : World) (K : Env → Prop) : List Nat → Env → Prop
 | [],Γ => K Γ
 | i :: is,Γ => ∀ v,RAt Rs i v w1 → SelG l Rs w1 K is ((dstAt l i,v) :: Γ)
def BagPost (E : World → World → Prop) (N : Nat) (w1 : World) (d : Nat) (R : Value → World → Prop) : Exit → Act → World → Prop := fun e a' w' => e = .normal ∧ E w1 w' ∧ ∃ v,Fr N a' [(d,v)] ∧ R v w'
inductive BagOps (E : World → World → Prop) (P : Program) (l : List Oper) (N : Nat) (Γ : Env) (w0 : World) (Rs : List (Value → World → Prop)) : List Oper → Nat → Prop
 | nil {i : Nat} : BagOps E P l N Γ w0 Rs [] i
 | cons {o : Oper} {rest : List Oper} {i : Nat}
   (h : ∀ w1,E w0 w1 → DepG l Rs w1 (fun Γ' => Wl [o] P .seq l.toArray N Γ' (Hp w1 []) (BagPost E N w1 (dstO o) (RAt Rs i))) o.after.toList Γ)
   (hs : BagOps E P l N Γ w0 Rs rest (i + 1)) : BagOps E P l N Γ w0 Rs (o :: rest) i
inductive BagSt (E : World → World → Prop) : List (Value → World → Prop) → Prop
 | nil : BagSt E []
 | cons {r : Value → World → Prop} {rs : List (Value → World → Prop)} (h : ∀ v w w',E w w' → r v w → r v w') (hs : BagSt E rs) : BagSt E (r :: rs)
def bagB (l : List Oper) (N : Nat) (Γ : Env) : Nat → List Oper → Bool
 | _,[] => true
 | i,o :: rest => (match o.dst with | some d => Nat.blt d N && !(Γ.any fun p => Nat.beq p.1 d) && rest.all fun o' => !(Nat.beq (dstO o') d) | none => false) && o.after.toList.all (fun e => Nat.blt e.on i) && bagB l N Γ (i + 1) rest
theorem BagSt.out {E : World → World → Prop} {Rs : List (Value → World → Prop)} (h : BagSt E Rs) {i : Nat} {v : Value} {w w' : World} (e : E w w') (hr : RAt Rs i v w) : RAt Rs i v w' := by
 induction h generalizing i with
 | nil => trivial
 | cons h hs ih => cases i with
  | zero => exact h _ _ _ e hr
  | succ i => exact ih hr
theorem BagOps.out {E : World → World → Prop} {P : Program} {l : List Oper} {N : Nat} {Γ : Env} {w0 : World} {Rs : List (Value → World → Prop)} {l' : List Oper} {k : Nat} (h : BagOps E P l N Γ w0 Rs l' k) {i : Nat} {o : Oper} (hi : l'[i]? = some o) :
  ∀ w1,E w0 w1 → DepG l Rs w1 (fun Γ' => Wl [o] P .seq l.toArray N Γ' (Hp w1 []) (BagPost E N w1 (dstO o) (RAt Rs (k + i)))) o.after.toList Γ := by
 induction h generalizing i with
 | nil => simp at hi
 | @cons o' rest j h hs ih =>
  cases i with
  | zero => simp only [List.getElem?_cons_zero,Option.some.injEq] at hi;subst hi;exact h
  | succ i =>
   have := ih (i := i) j1
   rw [show j + (i + 1) = j + 1 + i by omega]
   exact this
theorem look_any {Γ : Env} {t : Nat} {v : Value} (h : look Γ t = some v) : (Γ.any fun p => Nat.beq p.1 t) = true := by
 induction Γ with
 | nil => simp [look] at h
 | cons p r ih =>
  obtain ⟨d,u⟩ := p
  simp only [look] at h
  by_cases e : t = d
  ·subst e;simp
  ·rw [beqFalse e] at h
   simp only [List.any_cons,Bool.or_eq_true]
   exact .inr (ih h)
theorem bagB_out {l : List Oper} {N : Nat} {Γ : Env} {k : Nat} {l' : List Oper} (h : bagB l N Γ k l' = true) {i : Nat} {o : Oper} (hi : l'[i]? = some o) :
  o.dst = some (dstO o) ∧ dstO o < N ∧ (∀ t v,look Γ t = some v → t ≠ dstO o) ∧ (∀ e ∈ o.after.toList,e.on < k + i) ∧ ∀ j o',i < j → l'[j]? = some o' → dstO o' ≠ dstO o := by
 induction l' generalizing k i with
 | nil => simp at hi
 | cons x rest ih =>
  simp only [bagB,Bool.and_eq_true] at h
  obtain ⟨⟨h1,h2⟩,h3⟩ := h
  cases i with
  | zero =>
   simp only [List.getElem?_cons_zero,Option.some.injEq] at hi
   subst hi
   cases hd : x.dst with
   | none => rw [hd] at h1;cases h1
   | some d =>
    rw [hd] at h1
    simp only [Bool.and_eq_true,Bool.not_eq_true',List.all_eq_true] at h1
    obtain ⟨⟨h1,h4⟩,h5⟩ := h1
    have hx : dstO x = d := by simp [dstO,hd]
    rw [hx]
    refine ⟨rfl,Nat.le_of_ble_eq_true h1,fun t v ht e => ?_,fun e he => ?_,fun j o' hj ho' e => ?_⟩
    ·rw [← e,look_any ht] at h4;cases h4
    ·have := List.all_eq_true.1 h2 e he
     exact Nat.le_of_ble_eq_true this
    ·cases j with
     | zero => omega
     | succ j =>
      have := h5 o' (List.mem_of_getElem? (by simpa using ho'))
      rw [e] at this
      simp at this
  | succ i =>
   have := ih h3 (i := i) j1
   refine ⟨this.1,this.2.1,this.2.2.1,fun e he => by have := this.2.2.2.1 e he;omega,fun j o' hj ho' => ?_⟩
   cases j with
   | zero => omega
   | succ j => exact this.2.2.2.2 j o' kc (by simpa using ho')
theorem Fr.cons {N : Nat} {a : Act} {Γ : Env} (h : Fr N a Γ) {d : Nat} {v : Value} (hv : a.tmps[d]? = some v) : Fr N a ((d,v) :: Γ) := by
 refine ⟨h.defers,h.size,fun t u hu => ?_⟩
 simp only [look] at hu
 by_cases e : t = d
 ·subst e;simp at hu;subst hu;exact hv
 ·rw [beqFalse e] at hu;exact h.get t u (by simpa using hu)
theorem DepG.run {l : List Oper} {Rs : List (Value → World → Prop)} {w1 : World} {K : Env → Prop} {N : Nat} {a : Act} {es : List Edge} {Γ : Env} (h : DepG l Rs w1 K es Γ) (ha : Fr N a Γ)
  (hes : ∀ e ∈ es,Region.binds .any e = true → ∃ v,a.tmps[dstAt l e.on]? = some v ∧ RAt Rs e.on v w1) : ∃ Γ',Fr N a Γ' ∧ K Γ' := by
 induction es generalizing Γ with
 | nil => exact ⟨Γ,ha,h⟩
 | cons e es ih =>
  unfold DepG at h
  split at h
  ·rename_i hb
   obtain ⟨v,hv,hr⟩ := hes e zd hb
   exact ih (h v hr) (ha.cons hv) fun e he => hes e (by simp [he])
  ·exact ih h ha fun e he => hes e (by simp [he])
theorem SelG.run {l : List Oper} {Rs : List (Value → World → Prop)} {w1 : World} {K : Env → Prop} {N : Nat} {a : Act} {is : List Nat} {Γ : Env} (h : SelG l Rs w1 K is Γ) (ha : Fr N a Γ)
  (hes : ∀ i ∈ is,∃ v,a.tmps[dstAt l i]? = some v ∧ RAt Rs i v w1) : ∃ Γ',Fr N a Γ' ∧ K Γ' := by
 induction is generalizing Γ with
 | nil => exact ⟨Γ,ha,h⟩
 | cons i is ih =>
  obtain ⟨v,hv,hr⟩ := hes i zd
  exact ih (h v hr) (ha.cons hv) fun e he => hes e (by simp [he])
theorem wp_tmps {P : Program} {o : Oper} {a : Act} {w : World} {K : Act → World → Prop} {E : Exit → Act → World → Prop} (h : o.wp P a w K E) : o.wp P a w (fun a' w' => K a' w' ∧ ∃ v,a'.tmps = (a.put o.dst v).tmps) E := by
 unfold Oper.wp at *
 generalize (execOp a.eval o).run P w = r at *
 cases r with
 | ok n w' =>
  cases n <;> simp only [Oper.upon] at h ⊢
  case value u => exact ⟨h,u,rfl⟩
  case skip => exact ⟨h,undef,rfl⟩
  case defer d => exact ⟨h,undef,by cases o.dst <;> rfl⟩
  case enter f args => exact Calls.mono h (fun e w'' he => by cases e <;> first | exact ⟨he,_,rfl⟩ | exact he)
  case row row args => exact Rows.mono h (fun u _ he => ⟨he,u,rfl⟩)
 | halt x w' => cases x <;> simp only [Oper.upon] at h ⊢ <;> exact h
structure BagInv (E : World → World → Prop) (l : List Oper) (N : Nat) (Γ : Env) (w0 : World) (Rs : List (Value → World → Prop)) (listed : Array Bool) (a : Act) (w : World) : Prop where
 fr : Fr N a Γ
 ext : E w0 w
 held : ∀ i o,l[i]? = some o → listed.getD i true = true → ∃ v,a.tmps[dstO o]? = some v ∧ RAt Rs i v w
theorem getD_set {x : Array Bool} {i j : Nat} (h : i ≠ j) (b : Bool) : (x.setIfInBounds i b).getD j true = x.getD j true := by
 simp [Array.getD_eq_getD_getElem?,Array.getElem?_setIfInBounds_ne h]
theorem BagInv.step {E : World → World → Prop} (hE : ∀ a b c,E a b → E b c → E a c) {P : Program} {l : List Oper} {N : Nat} {Γ : Env} {w0 : World} {Rs : List (Value → World → Prop)} {Q : Exit → Act → World → Prop} {listed : Array Bool} {a : Act} {w : World} (hc : bagB l N Γ 0 l = true) (hst : BagSt E Rs)
  (hops : BagOps E P l N Γ w0 Rs l 0) (hi : BagInv E l N Γ w0 Rs listed a w) (hsz : listed.size = l.length) {i : Nat} (hr : i ∈ Region.ready .any l.toArray listed) {K : Act → World → Prop}
  (hK : ∀ a' w',BagInv E l N Γ w0 Rs (listed.setIfInBounds i true) a' w' → K a' w') : wpOp P l.toArray Q i K a w := by
 unfold Region.ready at hr
 rw [List.mem_filter] at hr
 obtain ⟨hlt,hr⟩ := hr
 simp only [List.size_toArray,List.mem_range] at hlt
 have ho : l[i]? = some l[i] := List.getElem?_eq_getElem hlt
 generalize l[i] = o at ho
 have hoa : l.toArray[i]? = some o := by simpa using ho
 simp only [hoa,Option.map_some,Option.getD_some,Bool.and_eq_true,Bool.not_eq_true',Array.all_eq_true'] at hr
 obtain ⟨hun,hedges⟩ := hr
 obtain ⟨hd,hdN,hΓ,hed,hlater⟩ := bagB_out hc ho
 have hop := hops.out ho w hi.ext
 rw [Nat.zero_add] at hop
 obtain ⟨Γ',hf',hW⟩ := hop.run hi.fr fun e he hb => by
  have h1 := hedges e (by simpa using he)
  rw [hb] at h1
  simp only [Bool.not_true,Bool.false_or] at h1
  have h2 := hed e he
  have h3 : l[e.on]? = some l[e.on] := List.getElem?_eq_getElem kc
  obtain ⟨v,hv,hR⟩ := hi.held e.on _ h3 (by
   simp only [Array.getD_eq_getD_getElem?] at h1 ⊢
   cases hx : listed[e.on]? with
   | none => rfl
   | some b => rw [hx] at h1;exact h1)
  exact ⟨v,by unfold dstAt;rw [h3];exact hv,hR⟩
 have hwl : wpList P l.toArray (BagPost E N w (dstO o) (RAt Rs i)) [o] a w := hW a w hf' (Hp.start w)
 have key : ∀ a' w',BagPost E N w (dstO o) (RAt Rs i) .normal a' w' → (∃ v,a'.tmps = (a.put o.dst v).tmps) → BagInv E l N Γ w0 Rs (listed.setIfInBounds i true) a' w' := by
  rintro a' w' ⟨_,he,v,hfr,hR⟩ ⟨u,hu⟩
  rw [hd] at hu
  have hne : ∀ t,t ≠ dstO o → a'.tmps[t]? = a.tmps[t]? := fun t ht => by rw [hu];simp [Act.put,Array.getElem?_setIfInBounds_ne (Ne.symm ht)]
  refine ⟨⟨hfr.defers,hfr.size,fun t x ht => ?_⟩,hE _ _ _ hi.ext he,fun j oj hj hl => ?_⟩
  ·rw [hne t (hΓ t x ht)];exact hi.fr.get t x ht
  ·by_cases e : i = j
   ·subst e
    rw [ho] at hj
    cases hj
    exact ⟨v,hfr.get _ _ (by simp [look]),hR⟩
   ·rw [getD_set e] at hl
    obtain ⟨x,hx,hRx⟩ := hi.held j oj hj hl
    refine ⟨x,?_,hst.out he hRx⟩
    rw [hne _ ?_]
    ·exact hx
    ·rcases Nat.lt_or_gt_of_ne e with e | e
     ·exact hlater j oj e hj
     ·exact fun e' => (bagB_out hc hj).2.2.2.2 i o e ho e'.symm
 unfold wpOp
 simp only [hoa]
 simp only [wpList] at hwl
 split
 ·rename_i hw
  rw [if_pos hw] at hwl
  rcases hwl with h | ⟨_,x,y,h⟩
  ·have h1 := wp_only (fun _ _ _ h => h.1) (wp_tmps h)
   refine .inl ?_
   have h2 := Oper.wp_mono (fun a' w' hh => hK a' w' (key a' w' hh.1 hh.2)) h1
   unfold Oper.wp at *
   generalize (execOp a.eval o).run P w = r at *
   cases r with
   | ok n w' =>
    cases n <;> simp only [Oper.upon] at h2 ⊢
    case value u => exact h2
    case skip => exact h2
    case defer d => exact h2
    case enter f args => exact Calls.mono h2 (fun e w'' he => by cases e <;> first | exact he | exact he.elim | (obtain ⟨_,_,hf⟩ := he;exact hf.elim))
    case row row args => exact h2
   | halt x w' => cases x <;> simp only [Oper.upon] at h2
  ·cases h.1
 ·rename_i hw
  rw [if_neg hw] at hwl
  exact hK _ _ (key _ _ hwl ⟨undef,rfl⟩)
theorem bag_done {l : List Oper} {N : Nat} {Γ : Env} {listed : Array Bool} (hc : bagB l N Γ 0 l = true) (hsz : listed.size = l.length) (hr : Region.ready .any l.toArray listed = []) : ∀ i,listed.getD i true = true := by
 intro i
 induction i using Nat.strongRecOn with
 | _ i ih =>
  cases hl : listed.getD i true with
  | true => rfl
  | false =>
   have hlt : i < l.length := by
    rcases Nat.lt_or_ge i l.length with h | h
    ·exact h
    ·rw [Array.getD_eq_getD_getElem?,Array.getElem?_eq_none kc] at hl;cases hl
   have ho : l[i]? = some l[i] := List.getElem?_eq_getElem hlt
   generalize l[i] = o at ho
   have hoa : l.toArray[i]? = some o := by simpa using ho
   obtain ⟨_,_,_,hed,_⟩ := bagB_out hc ho
   have : i ∈ Region.ready .any l.toArray listed := by
    unfold Region.ready
    rw [List.mem_filter]
    refine ⟨by simpa using hlt,?_⟩
    simp only [hoa,Option.map_some,Option.getD_some,Bool.and_eq_true,Bool.not_eq_true',Array.all_eq_true']
    refine ⟨hl,fun e he => ?_⟩
    have h1 := hed e (by simpa using he)
    have h2 := ih e.on kc
    rw [Bool.or_eq_true]
    refine .inr ?_
    simp only [Array.getD_eq_getD_getElem?] at h2 ⊢
    rw [Array.getElem?_eq_getElem kc] at h2 ⊢
    exact h2
   rw [hr] at this
   cases this
theorem bag_run {E : World → World → Prop} (hE : ∀ a b c,E a b → E b c → E a c) {P : Program} {l : List Oper} {N : Nat} {Γ : Env} {w0 : World} {Rs : List (Value → World → Prop)} {Q : Exit → Act → World → Prop} (hc : bagB l N Γ 0 l = true) (hst : BagSt E Rs) (hops : BagOps E P l N Γ w0 Rs l 0)
  (hend : ∀ a w,BagInv E l N Γ w0 Rs (Array.replicate l.length true) a w → Q .normal a w) :
  ∀ n listed a w,listed.size = l.length → listed.toList.count false = n → BagInv E l N Γ w0 Rs listed a w → wpAny P .any l.toArray Q n listed a w := by
 have hfull : ∀ listed a w,listed.size = l.length → Region.ready .any l.toArray listed = [] → BagInv E l N Γ w0 Rs listed a w → Q .normal a w := fun listed a w hsz hr hi =>
  hend a w ⟨hi.fr,hi.ext,fun i o ho _ => hi.held i o ho (bag_done hc hsz hr i)⟩
 intro n
 induction n with
 | zero =>
  intro listed a w hsz hn hi
  have hr : Region.ready .any l.toArray listed = [] := by
   unfold Region.ready
   rw [List.filter_eq_nil_iff]
   intro i hm
   have hm' : i < listed.size := by rw [hsz];simpa using hm
   have h1 : false ∉ listed.toList := List.count_eq_zero.1 hn
   have h2 : listed[i] ∈ listed.toList := by simp
   have h3 : listed[i] = true := by
    cases e : listed[i]
    ·rw [e] at h2;exact (h1 h2).elim
    ·rfl
   rw [Array.getD_eq_getD_getElem?,Array.getElem?_eq_getElem hm',h3]
   simp
  exact ⟨hr,hfull _ _ _ hsz hr hi⟩
 | succ n ih =>
  intro listed a w hsz hn hi
  refine ⟨fun hr => hfull _ _ _ hsz hr hi,fun i hr => ?_⟩
  refine hi.step hE hc hst hops hsz hr fun a' w' hi' => ih _ a' w' (by simp [hsz]) ?_ hi'
  unfold Region.ready at hr
  rw [List.mem_filter] at hr
  obtain ⟨hm,hr⟩ := hr
  have hm' : i < listed.size := by rw [hsz];simpa using hm
  simp only [Bool.and_eq_true,Bool.not_eq_true'] at hr
  have h3 : listed[i] = false := by
   have := hr.1
   rw [Array.getD_eq_getD_getElem?,Array.getElem?_eq_getElem hm'] at this
   exact this
  rw [Array.toList_setIfInBounds,List.count_set (by simpa using hm')]
  simp [h3,hn]
section
variable {P : Program} {N : Nat} {Γ : Env} {C : World → Prop} {Q : Exit → Act → World → Prop}
theorem St.bag {i : Nat} {l : List Oper} {w0 : World} (E : World → World → Prop) (hE : ∀ a b c,E a b → E b c → E a c) (hE0 : ∀ w,Hp w0 [] w → E w0 w.drew) (Rs : List (Value → World → Prop)) (sel : List Nat) (hm : P.follows .mixedOrders = true) (hc : bagB l N Γ 0 l = true) (hst : BagSt E Rs) (hsel : (sel.all fun i => Nat.blt i l.length) = true)
  (hops : BagOps E P l N Γ w0 Rs l 0) (hend : ∀ w1,E w0 w1 → SelG l Rs w1 (fun Γ' => Gt N .normal Γ' (Hp w1 []) Q) sel Γ) : St (.region i l.toArray true) P N Γ (Hp w0 []) Q := by
 intro a w ha hw
 refine wp_region_any hm ?_
 have := bag_run hE (Q := Q) hc hst hops (fun a w hi => by
  obtain ⟨Γ',hf,hK⟩ := (hend w hi.ext).run hi.fr fun j hj => by
   have hj' : j < l.length := Nat.le_of_ble_eq_true (List.all_eq_true.1 hsel j hj)
   have ho : l[j]? = some l[j] := List.getElem?_eq_getElem hj'
   obtain ⟨v,hv,hR⟩ := hi.held j _ ho (by simp [Array.getD_eq_getD_getElem?,hj'])
   exact ⟨v,by unfold dstAt;rw [ho];exact hv,hR⟩
  exact hK a w hf (Hp.start w)) l.length (Array.replicate l.length false) a w.drew zd (by simp [List.count_replicate]) ⟨ha,hE0 w hw,fun i o ho hl => by
   have : i < l.length := (List.getElem?_eq_some_iff.1 ho).1
   simp [Array.getD_eq_getD_getElem?,this] at hl⟩
 simpa using this
end
section
variable {P : Program} {N : Nat} {ops : Array Oper} {l : List Oper} {c : Code} {e : Exit} {Γ : Env} {C : World → Prop} {Q : Exit → Act → World → Prop}
theorem Wl.intro (h : ∀ a w,Fr N a Γ → C w → wpList P ops Q l a w) : Wl l P .seq ops N Γ C Q := h
theorem Wl.elim (h : Wl l P .seq ops N Γ C Q) : ∀ a w,Fr N a Γ → C w → wpList P ops Q l a w := h
theorem Wl.elimM {D : World → Prop} (h : Wl l P (.mix D) ops N Γ C Q) : ∀ a w,Fr N a Γ → D w → C w → wpE P ops C (fun a' w' => Q .normal a' w') l a w := h
theorem St.intro (h : ∀ a w,Fr N a Γ → C w → c.wp P Q a w) : St c P N Γ C Q := h
theorem St.elim (h : St c P N Γ C Q) : ∀ a w,Fr N a Γ → C w → c.wp P Q a w := h
theorem Gt.intro (h : ∀ a w,Fr N a Γ → C w → Q e a w) : Gt N e Γ C Q := h
theorem Gt.elim (h : Gt N e Γ C Q) : ∀ a w,Fr N a Γ → C w → Q e a w := h
theorem Gt.reb {H' : List Blk} (h : ∀ w,C w → Own w H' ∧ Apart H' ∧ Gt N e Γ (Hp w H') Q) : Gt N e Γ C Q := fun a w ha hw => by
 obtain ⟨h1,h2,h3⟩ := h w hw
 exact h3 a w ha ⟨Upd.refl _ _,h1,h2⟩
theorem Wl.made {rest : List Oper} {w0 : World} {H : List Blk} {d : Nat} {op : Op} {ty : TypeId} {pos : String} {af : Array Edge} {v : Nat → Value} {cs : List Value} {t : TypeId} (hd : Nat.blt d N = true)
  (hr : ∀ a w,Fr N a Γ → Hp w0 H w → (execOp a.eval ⟨some d,op,ty,pos,af,none⟩).run P w = .ok (.value (v w.heap.size)) (w.alloc (.cells cs.toArray t)))
  (h : ∀ c,w0.heap.size ≤ c → Off H c → Wl rest P .seq ops N ((d,v c) :: Γ) (Hp w0 (⟨c,cs,t⟩ :: H)) Q) : Wl (⟨some d,op,ty,pos,af,none⟩ :: rest) P .seq ops N Γ (Hp w0 H) Q :=
 Wl.eff fun a w ha hw => ⟨v w.heap.size,_,.inl (hr a w ha hw),h w.heap.size hw.upd.size (Off.lt hw.own) _ _ (ha.put hd _) (hw.alloc cs t)⟩
theorem Wl.makeSlice {rest : List Oper} {w0 : World} {H : List Blk} {d : Nat} {ty : TypeId} {pos : String} {af : Array Edge} {t el sz by_ : TypeId} {z : Value} {x y : Operand} {k k' : IntKind} {n : Nat} [ht : TyD P t (.slice el)] [hs : TyS P el sz by_] [hz : TyZ P el z] (hd : Nat.blt d N = true)
  (hx : ev Γ x = some (.int k n)) (hy : ev Γ y = some (.int k' n)) (hb : Nat.ble (by_ * n) 16777216 = true) (hn : n ≤ 16777216)
  (h : ∀ c,w0.heap.size ≤ c → Off H c → Wl rest P .seq ops N ((d,.slice (some ⟨c,0,none⟩) n n) :: Γ) (Hp w0 (⟨c,(madeCells z.cells (n * sz)).toList,el⟩ :: H)) Q) :
  Wl (⟨some d,.makeSlice t x y,ty,pos,af,none⟩ :: rest) P .seq ops N Γ (Hp w0 H) Q := by
 refine Wl.made (v := fun c => .slice (some ⟨c,0,none⟩) n n) hd (fun a w ha hw => ?_) h
 obtain ⟨i,hi,hsz⟩ := Option.map_eq_some_iff.1 hs.out
 have hzi : i.zero = some z := by have := hz.out;rw [hi] at this;exact this
 simp only [Prod.mk.injEq] at hsz
 obtain ⟨h1,h2⟩ := hsz
 have hb' : i.bytes * n ≤ 16777216 := by rw [h2];exact Nat.le_of_ble_eq_true hb
 have hbi : (i.bytes : Int) * (n : Int) ≤ 281474976710656 := by
  have h : ((i.bytes * n : Nat) : Int) ≤ 281474976710656 := by omega
  rwa [Int.natCast_mul] at h
 have := run_make (P := P) w t el i z ht.out hi hzi k k' n n kc (Int.le_refl _) hbi kc
 simp only [execOp,ha.ev hx,ha.ev hy]
 simp [this,← h1]
end
attribute [irreducible] Wl St Gt
end Go.Pt
end
section
namespace Go.Pt
class FnE (P : Program) (f : Nat) (fn : outParam Func) (N : outParam Nat) : Prop where
 out : P.funcs[f]? = some fn ∧ fn.ntmps = N
def argsE : Nat → List Value → Env
 | _,[] => []
 | i,v :: r => (i,v) :: argsE (i + 1) r
theorem argsE_get (l : List Value) : ∀ (k t : Nat) (v : Value),look (argsE k l) t = some v → k ≤ t ∧ l[t - k]? = some v := by
 induction l with
 | nil => intro k t v h;simp [argsE,look] at h
 | cons x r ih =>
  intro k t v h
  simp only [argsE,look] at h
  by_cases e : t = k
  ·subst e;simp at h;subst h;simp
  ·rw [beqFalse e] at h
   obtain ⟨h1,h2⟩ := ih (k + 1) t v qz
   refine ⟨by omega,?_⟩
   rw [show t - k = (t - (k + 1)) + 1 by omega,List.getElem?_cons_succ]
   exact h2
section
variable {P : Program} {N N' : Nat} {ops : Array Oper} {rest : List Oper} {Γ Γ' : Env} {C : World → Prop} {Q : Exit → Act → World → Prop} {d : Nat} {ty : TypeId} {pos : String} {af : Array Edge}
def InlPost (P : Program) (ops : Array Oper) (N d : Nat) (rest : List Oper) (Γ : Env) (Q : Exit → Act → World → Prop) : Ending → World → Prop :=
 fun e w' => ∃ v C',e = .returned v ∧ C' w' ∧ Wl rest P .seq ops N ((d,v) :: Γ) C' Q
theorem enterC {f : FuncId} {fn : Func} {c : Code} {vs : List Value} {R : Ending → World → Prop} (hf : P.funcs[f]? = some fn) (hn : fn.ntmps = N') (hb : fn.body = some c) (hN : Nat.ble vs.length N' = true)
  (h : St c P N' (argsE 0 vs) C (bodyPost P fn R)) (w : World) (hw : C w) : Calls P f vs.toArray w R := by
 refine calls_of_wp hf hb ?_
 have := h.elim _ w (Fr.start (N := N') (Nat.le_of_ble_eq_true hN) fun t v ht => by have := argsE_get vs 0 t v ht;simpa using this.2) hw
 rw [hn]
 exact this
theorem Wl.inline {f : FuncId} {fn : Func} {c : Code} {xs : Array Operand} {vs : List Value} {ts : Array TypeId} [he : FnE P f fn N'] [Ent P f] (hd : Nat.blt d N = true) (hx : Evs Γ xs.toList vs) (hb : fn.body = some c) (hN : Nat.ble vs.length N' = true)
  (h : St c P N' (argsE 0 vs) C (bodyPost P fn (InlPost P ops N d rest Γ Q))) : Wl (⟨some d,.call { callee := .value (.func f),args := xs,argTypes := ts },ty,pos,af,none⟩ :: rest) P .seq ops N Γ C Q :=
 Wl.callC hd hx fun w hw => enterC he.out.1 he.out.2 hb hN h w hw
variable {fn : Func} {t u s r : Nat} {v v' v'' v3 : Value}
theorem Gt.inl1 (hr : fn.results = #[.tmp t]) (ht : look Γ' t = some v) (h : Wl rest P .seq ops N ((d,v) :: Γ) C Q) : Gt N' .ret Γ' C (bodyPost P fn (InlPost P ops N d rest Γ Q)) :=
 Gt.out1 hr ht fun _ hw => ⟨_,C,rfl,hw,h⟩
end
theorem run_results_cell {P : Program} {fn : Func} {t ty n c i : Nat} {w : World} {tmps : Array Value} {xs : List Value} [ht : TyA P ty n] (hr : fn.results = #[.cell t ty]) (hv : tmps[t]? = some (.pointer (some ⟨c,i,none⟩))) (hn : xs.length = n)
  (hc : ∀ j v,xs[j]? = some v → w.cell? (Addr.add ⟨c,i,none⟩ j) = some v) : (results fn tmps).run P w = .ok (.agg xs.toArray) w := by
 have h := run_loadA (P := P) (t := ty) hn hc
 simp [results,hr,hv,asAddr,h]
theorem Gt.outC {P : Program} {N : Nat} {Γ : Env} {w0 : World} {H : List Blk} {fn : Func} {R : Ending → World → Prop} {t ty n c i bt : Nat} {cs xs : List Value} [TyA P ty n] (hr : fn.results = #[.cell t ty]) (ht : look Γ t = some (.pointer (some ⟨c,i,none⟩))) (hm : (⟨c,cs,bt⟩ : Blk) ∈ H) (hi' : LSub cs i n xs)
  (h : ∀ w,Hp w0 H w → R (.returned (.agg xs.toArray)) w) : Gt N .ret Γ (Hp w0 H) (bodyPost P fn R) := Gt.intro fun a w ha hw => by
 have hi := hi'.out.1
 have hn := hi'.out.2
 refine ⟨ha.defers,_,run_results_cell hr (ha.get _ _ ht) hn (fun j v hj => ?_),h w hw⟩
 rw [addLit]
 refine hw.cell hm ?_
 subst hi
 rw [List.getElem?_take] at hj
 split at hj
 ·simpa [List.getElem?_drop] using hj
 ·cases hj
inductive Clean : List Nat → Env → Env → Prop
 | nil {seen : List Nat} : Clean seen [] []
 | skip {seen : List Nat} {t : Nat} {v : Value} {r r' : Env} (h : (seen.any (Nat.beq t)) = true) (hs : Clean seen r r') : Clean seen ((t,v) :: r) r'
 | keep {seen : List Nat} {t : Nat} {v : Value} {r r' : Env} (h : (seen.any (Nat.beq t)) = false) (hs : Clean (t :: seen) r r') : Clean seen ((t,v) :: r) ((t,v) :: r')
theorem Clean.look {seen : List Nat} {Γ Γ' : Env} (h : Clean seen Γ Γ') {t : Nat} {v : Value} (hs : (seen.any (Nat.beq t)) = false) (ht : Pt.look Γ' t = some v) : Pt.look Γ t = some v := by
 induction h with
 | nil => simp [Pt.look] at ht
 | @skip seen d u r r' h hr ih =>
  simp only [Pt.look]
  have : t ≠ d := fun e => by subst e;rw [h] at hs;cases hs
  rw [beqFalse this]
  exact ih hs ht
 | @keep seen d u r r' h hr ih =>
  simp only [Pt.look] at ht ⊢
  by_cases e : t = d
  ·subst e;simpa using ht
  ·rw [beqFalse e] at ht ⊢
   refine ih ?_ ht
   simp only [List.any_cons,Bool.or_eq_false_iff]
   exact ⟨beqFalse e,hs⟩
theorem Fr.clean {N : Nat} {a : Act} {Γ Γ' : Env} (h : Fr N a Γ) (hs : Clean [] Γ Γ') : Fr N a Γ' := ⟨h.defers,h.size,fun t v ht => h.get t v (hs.look rfl ht)⟩
def StR (c : Code) (n : Nat) (P : Program) (N : Nat) (Γ : Env) (C : World → Prop) (Q : Exit → Act → World → Prop) : Prop := ∀ a w,Fr N a Γ → C w → Code.rounds P c Q n a w
section
variable {P : Program} {N n : Nat} {Γ Γ' : Env} {C : World → Prop} {Q Q' : Exit → Act → World → Prop} {c : Code}
theorem St.loopN (n : Nat) (h : StR c n P N Γ C Q) : St (.loop c) P N Γ C Q := St.intro fun a w ha hw => wp_loop_rounds n (h a w ha hw)
theorem StR.step (hs : Clean [] Γ Γ') (h : St c P N Γ' C (Exit.then (Code.rounds P c Q n) Q)) : StR c (n + 1) P N Γ C Q := fun a w ha hw => h.elim a w (ha.clean hs) hw
theorem Gt.nextR (h : StR c n P N Γ C Q) : Gt N .normal Γ C (Exit.then (Code.rounds P c Q n) Q') := Gt.intro fun a w ha hw => h a w ha hw
end
attribute [irreducible] StR
end Go.Pt
end
section
namespace Go.Proofs.YtabbklpalbikdaaGreatDoor
open Go.Pt
theorem kk {p : Prop} (h : p := by kernel_rfl) : p := h
instance : TyD Tryz.prog 3 (.int .i64) := ⟨kk⟩
instance : TyS Tryz.prog 3 1 8 := ⟨kk⟩
instance : TyC Tryz.prog 3 := ⟨kk,kk,kk⟩
instance : TyD Tryz.prog 4 (.bool) := ⟨kk⟩
instance : TyS Tryz.prog 4 1 1 := ⟨kk⟩
instance : TyC Tryz.prog 4 := ⟨kk,kk,kk⟩
instance : TyD Tryz.prog 5 (.int .u8) := ⟨kk⟩
instance : TyS Tryz.prog 5 1 1 := ⟨kk⟩
instance : TyZ Tryz.prog 5 (.int .u8 0) := ⟨kk⟩
instance : TyC Tryz.prog 5 := ⟨kk,kk,kk⟩
instance : TyD Tryz.prog 9 (.string) := ⟨kk⟩
instance : TyS Tryz.prog 9 1 16 := ⟨kk⟩
instance : TyZ Tryz.prog 9 (.string ⟨#[]⟩) := ⟨kk⟩
instance : TyC Tryz.prog 9 := ⟨kk,kk,kk⟩
instance : TyD Tryz.prog 22 (.slice 3) := ⟨kk⟩
instance : TyD Tryz.prog 24 (.slice 30) := ⟨kk⟩
instance : TyD Tryz.prog 25 (.int .u32) := ⟨kk⟩
instance : TyS Tryz.prog 25 1 4 := ⟨kk⟩
instance : TyZ Tryz.prog 25 (.int .u32 0) := ⟨kk⟩
instance : TyC Tryz.prog 25 := ⟨kk,kk,kk⟩
instance : TyD Tryz.prog 26 (.slice 25) := ⟨kk⟩
instance : TyC Tryz.prog 26 := ⟨kk,kk,kk⟩
instance : TyD Tryz.prog 27 (.slice 5) := ⟨kk⟩
instance : TyS Tryz.prog 27 1 24 := ⟨kk⟩
instance : TyC Tryz.prog 27 := ⟨kk,kk,kk⟩
instance : TyD Tryz.prog 28 (.slice 124) := ⟨kk⟩
instance : TyC Tryz.prog 28 := ⟨kk,kk,kk⟩
instance : TyS Tryz.prog 30 4 80 := ⟨kk⟩
instance : TyZ Tryz.prog 30 (.agg #[.slice none 0 0,.slice none 0 0,.int .i64 0,.slice none 0 0]) := ⟨kk⟩
instance : TyA Tryz.prog 30 4 := ⟨kk,kk⟩
instance : TyP Tryz.prog 30 [(0,1),(1,1),(2,1),(3,1)] [.slice none 0 0,.slice none 0 0,.int .i64 0,.slice none 0 0] := ⟨kk⟩
instance : Fld Tryz.prog 30 0 0 26 := ⟨kk⟩
instance : Fld Tryz.prog 30 1 1 27 := ⟨kk⟩
instance : Fld Tryz.prog 30 2 2 3 := ⟨kk⟩
instance : Fld Tryz.prog 30 3 3 28 := ⟨kk⟩
instance : TyD Tryz.prog 36 (.pointer 130) := ⟨kk⟩
instance : TyD Tryz.prog 42 (.array 32 25) := ⟨kk⟩
instance : TyA Tryz.prog 42 32 := ⟨kk,kk⟩
instance : TyS Tryz.prog 44 35 144 := ⟨kk⟩
instance : TyZ Tryz.prog 44 (.agg #[.int .i64 0,.int .u32 0,.int .u32 0,.int .u32 0,.int .u32 0,.int .u32 0,.int .u32 0,.int .u32 0,.int .u32 0,.int .u32 0,.int .u32 0,.int .u32 0,.int .u32 0,.int .u32 0,.int .u32 0,.int .u32 0,.int .u32 0,.int .u32 0,.int .u32 0,.int .u32 0,.int .u32 0,.int .u32 0,.int .u32 0,.int .u32 0,.int .u32 0,.int .u32 0,.int .u32 0,.int .u32 0,.int .u32 0,.int .u32 0,.int .u32 0,.int .u32 0,.int .u32 0,.int .u32 0,.int .u32 0]) := ⟨kk⟩
instance : TyA Tryz.prog 44 35 := ⟨kk,kk⟩
instance : TyP Tryz.prog 44 [(0,1),(1,1),(2,1),(3,32)] [.int .i64 0,.int .u32 0,.int .u32 0,.int .u32 0,.int .u32 0,.int .u32 0,.int .u32 0,.int .u32 0,.int .u32 0,.int .u32 0,.int .u32 0,.int .u32 0,.int .u32 0,.int .u32 0,.int .u32 0,.int .u32 0,.int .u32 0,.int .u32 0,.int .u32 0,.int .u32 0,.int .u32 0,.int .u32 0,.int .u32 0,.int .u32 0,.int .u32 0,.int .u32 0,.int .u32 0,.int .u32 0,.int .u32 0,.int .u32 0,.int .u32 0,.int .u32 0,.int .u32 0,.int .u32 0,.int .u32 0] := ⟨kk⟩
instance : Fld Tryz.prog 44 0 0 3 := ⟨kk⟩
instance : Fld Tryz.prog 44 1 1 25 := ⟨kk⟩
instance : Fld Tryz.prog 44 2 2 25 := ⟨kk⟩
instance : Fld Tryz.prog 44 3 3 42 := ⟨kk⟩
instance : TyD Tryz.prog 48 (.slice 44) := ⟨kk⟩
instance : TyS Tryz.prog 48 1 24 := ⟨kk⟩
instance : TyC Tryz.prog 48 := ⟨kk,kk,kk⟩
instance : TyD Tryz.prog 49 (.slice 9) := ⟨kk⟩
instance : TyS Tryz.prog 49 1 24 := ⟨kk⟩
instance : TyC Tryz.prog 49 := ⟨kk,kk,kk⟩
instance : TyD Tryz.prog 50 (.slice 76) := ⟨kk⟩
instance : TyS Tryz.prog 50 1 24 := ⟨kk⟩
instance : TyC Tryz.prog 50 := ⟨kk,kk,kk⟩
instance : TyD Tryz.prog 51 (.slice 111) := ⟨kk⟩
instance : TyS Tryz.prog 51 1 24 := ⟨kk⟩
instance : TyC Tryz.prog 51 := ⟨kk,kk,kk⟩
instance : TyD Tryz.prog 52 (.pointer 156) := ⟨kk⟩
instance : TyS Tryz.prog 52 1 8 := ⟨kk⟩
instance : TyC Tryz.prog 52 := ⟨kk,kk,kk⟩
instance : TyZ Tryz.prog 54 (.agg #[.int .i64 0,.slice none 0 0,.slice none 0 0,.slice none 0 0,.slice none 0 0,.pointer none]) := ⟨kk⟩
instance : TyA Tryz.prog 54 6 := ⟨kk,kk⟩
instance : TyP Tryz.prog 54 [(0,1),(1,1),(2,1),(3,1),(4,1),(5,1)] [.int .i64 0,.slice none 0 0,.slice none 0 0,.slice none 0 0,.slice none 0 0,.pointer none] := ⟨kk⟩
instance : Fld Tryz.prog 54 0 0 3 := ⟨kk⟩
instance : Fld Tryz.prog 54 1 1 48 := ⟨kk⟩
instance : Fld Tryz.prog 54 2 2 49 := ⟨kk⟩
instance : Fld Tryz.prog 54 3 3 50 := ⟨kk⟩
instance : Fld Tryz.prog 54 4 4 51 := ⟨kk⟩
instance : Fld Tryz.prog 54 5 5 52 := ⟨kk⟩
instance : TyD Tryz.prog 65 (.slice 160) := ⟨kk⟩
instance : TyS Tryz.prog 65 1 24 := ⟨kk⟩
instance : TyZ Tryz.prog 65 (.slice none 0 0) := ⟨kk⟩
instance : TyD Tryz.prog 76 (.slice 78) := ⟨kk⟩
instance : TyS Tryz.prog 76 1 24 := ⟨kk⟩
instance : TyZ Tryz.prog 76 (.slice none 0 0) := ⟨kk⟩
instance : TyC Tryz.prog 76 := ⟨kk,kk,kk⟩
instance : TyS Tryz.prog 78 2 24 := ⟨kk⟩
instance : TyZ Tryz.prog 78 (.agg #[.int .i64 0,.string ⟨#[]⟩]) := ⟨kk⟩
instance : TyA Tryz.prog 78 2 := ⟨kk,kk⟩
instance : TyP Tryz.prog 78 [(0,1),(1,1)] [.int .i64 0,.string ⟨#[]⟩] := ⟨kk⟩
instance : Fld Tryz.prog 78 0 0 3 := ⟨kk⟩
instance : Fld Tryz.prog 78 1 1 9 := ⟨kk⟩
instance : TyD Tryz.prog 81 (.slice 116) := ⟨kk⟩
instance : TyC Tryz.prog 81 := ⟨kk,kk,kk⟩
instance : TyD Tryz.prog 82 (.slice 65) := ⟨kk⟩
instance : TyC Tryz.prog 82 := ⟨kk,kk,kk⟩
instance : TyC Tryz.prog 85 := ⟨kk,kk,kk⟩
instance : TyP Tryz.prog 87 [(0,1),(1,1),(2,1),(3,1),(4,1)] [.slice none 0 0,.slice none 0 0,.pointer none,.pointer none,.pointer none] := ⟨kk⟩
instance : Fld Tryz.prog 87 4 4 85 := ⟨kk⟩
instance : TyC Tryz.prog 89 := ⟨kk,kk,kk⟩
instance : TyP Tryz.prog 91 [(0,1),(1,1)] [.pointer none,.pointer none] := ⟨kk⟩
instance : Fld Tryz.prog 91 1 1 89 := ⟨kk⟩
instance : TyD Tryz.prog 107 (.array 32 5) := ⟨kk⟩
instance : TyZ Tryz.prog 107 (.agg #[.int .u8 0,.int .u8 0,.int .u8 0,.int .u8 0,.int .u8 0,.int .u8 0,.int .u8 0,.int .u8 0,.int .u8 0,.int .u8 0,.int .u8 0,.int .u8 0,.int .u8 0,.int .u8 0,.int .u8 0,.int .u8 0,.int .u8 0,.int .u8 0,.int .u8 0,.int .u8 0,.int .u8 0,.int .u8 0,.int .u8 0,.int .u8 0,.int .u8 0,.int .u8 0,.int .u8 0,.int .u8 0,.int .u8 0,.int .u8 0,.int .u8 0,.int .u8 0]) := ⟨kk⟩
instance : TyA Tryz.prog 107 32 := ⟨kk,kk⟩
instance : TyS Tryz.prog 111 2 24 := ⟨kk⟩
instance : TyZ Tryz.prog 111 (.agg #[.int .i64 0,.string ⟨#[]⟩]) := ⟨kk⟩
instance : TyA Tryz.prog 111 2 := ⟨kk,kk⟩
instance : TyP Tryz.prog 111 [(0,1),(1,1)] [.int .i64 0,.string ⟨#[]⟩] := ⟨kk⟩
instance : Fld Tryz.prog 111 0 0 3 := ⟨kk⟩
instance : Fld Tryz.prog 111 1 1 9 := ⟨kk⟩
instance : TyD Tryz.prog 114 (.slice 180) := ⟨kk⟩
instance : TyS Tryz.prog 116 36 72 := ⟨kk⟩
instance : TyZ Tryz.prog 116 (.agg #[.int .u8 0,.int .u8 0,.int .u8 0,.int .u8 0,.int .u8 0,.int .u8 0,.int .u8 0,.int .u8 0,.int .u8 0,.int .u8 0,.int .u8 0,.int .u8 0,.int .u8 0,.int .u8 0,.int .u8 0,.int .u8 0,.int .u8 0,.int .u8 0,.int .u8 0,.int .u8 0,.int .u8 0,.int .u8 0,.int .u8 0,.int .u8 0,.int .u8 0,.int .u8 0,.int .u8 0,.int .u8 0,.int .u8 0,.int .u8 0,.int .u8 0,.int .u8 0,.int .u32 0,.int .u32 0,.slice none 0 0,.int .i64 0]) := ⟨kk⟩
instance : TyA Tryz.prog 116 36 := ⟨kk,kk⟩
instance : TyP Tryz.prog 116 [(0,32),(32,1),(33,1),(34,1),(35,1)] [.int .u8 0,.int .u8 0,.int .u8 0,.int .u8 0,.int .u8 0,.int .u8 0,.int .u8 0,.int .u8 0,.int .u8 0,.int .u8 0,.int .u8 0,.int .u8 0,.int .u8 0,.int .u8 0,.int .u8 0,.int .u8 0,.int .u8 0,.int .u8 0,.int .u8 0,.int .u8 0,.int .u8 0,.int .u8 0,.int .u8 0,.int .u8 0,.int .u8 0,.int .u8 0,.int .u8 0,.int .u8 0,.int .u8 0,.int .u8 0,.int .u8 0,.int .u8 0,.int .u32 0,.int .u32 0,.slice none 0 0,.int .i64 0] := ⟨kk⟩
instance : Fld Tryz.prog 116 0 0 107 := ⟨kk⟩
instance : Fld Tryz.prog 116 2 33 25 := ⟨kk⟩
instance : Fld Tryz.prog 116 4 35 3 := ⟨kk⟩
instance : TyC Tryz.prog 127 := ⟨kk,kk,kk⟩
instance : TyD Tryz.prog 128 (.pointer 210) := ⟨kk⟩
instance : TyC Tryz.prog 128 := ⟨kk,kk,kk⟩
instance : TyP Tryz.prog 130 [(0,1),(1,1),(2,1),(3,1)] [.pointer none,.pointer none,.pointer none,.slice none 0 0] := ⟨kk⟩
instance : Fld Tryz.prog 130 1 1 127 := ⟨kk⟩
instance : Fld Tryz.prog 130 2 2 128 := ⟨kk⟩
instance : TyP Tryz.prog 133 [(0,32),(32,1),(33,1),(34,1)] [.int .u32 0,.int .u32 0,.int .u32 0,.int .u32 0,.int .u32 0,.int .u32 0,.int .u32 0,.int .u32 0,.int .u32 0,.int .u32 0,.int .u32 0,.int .u32 0,.int .u32 0,.int .u32 0,.int .u32 0,.int .u32 0,.int .u32 0,.int .u32 0,.int .u32 0,.int .u32 0,.int .u32 0,.int .u32 0,.int .u32 0,.int .u32 0,.int .u32 0,.int .u32 0,.int .u32 0,.int .u32 0,.int .u32 0,.int .u32 0,.int .u32 0,.int .u32 0,.int .u32 0,.pointer none,.pointer none] := ⟨kk⟩
instance : TyD Tryz.prog 136 (.pointer 255) := ⟨kk⟩
instance : TyC Tryz.prog 136 := ⟨kk,kk,kk⟩
instance : TyD Tryz.prog 137 (.pointer 231) := ⟨kk⟩
instance : TyC Tryz.prog 137 := ⟨kk,kk,kk⟩
instance : TyP Tryz.prog 139 [(0,1),(1,1),(2,1),(3,1),(4,1)] [.slice none 0 0,.slice none 0 0,.pointer none,.pointer none,.pointer none] := ⟨kk⟩
instance : Fld Tryz.prog 139 0 0 81 := ⟨kk⟩
instance : Fld Tryz.prog 139 1 1 82 := ⟨kk⟩
instance : Fld Tryz.prog 139 2 2 52 := ⟨kk⟩
instance : Fld Tryz.prog 139 3 3 136 := ⟨kk⟩
instance : Fld Tryz.prog 139 4 4 137 := ⟨kk⟩
instance : TyD Tryz.prog 143 (.int .u64) := ⟨kk⟩
instance : TyS Tryz.prog 143 1 8 := ⟨kk⟩
instance : TyZ Tryz.prog 143 (.int .u64 0) := ⟨kk⟩
instance : TyC Tryz.prog 143 := ⟨kk,kk,kk⟩
instance : TyP Tryz.prog 145 [(0,1),(1,1),(2,1),(3,1),(4,1),(5,1),(6,1),(7,1),(8,1),(9,16),(25,16),(41,1),(42,1)] [.int .i64 0,.int .u32 0,.int .u32 0,.int .u32 0,.int .u32 0,.int .u32 0,.int .u32 0,.int .u32 0,.int .u32 0,.int .u8 0,.int .u8 0,.int .u8 0,.int .u8 0,.int .u8 0,.int .u8 0,.int .u8 0,.int .u8 0,.int .u8 0,.int .u8 0,.int .u8 0,.int .u8 0,.int .u8 0,.int .u8 0,.int .u8 0,.int .u8 0,.int .u32 0,.int .u32 0,.int .u32 0,.int .u32 0,.int .u32 0,.int .u32 0,.int .u32 0,.int .u32 0,.int .u32 0,.int .u32 0,.int .u32 0,.int .u32 0,.int .u32 0,.int .u32 0,.int .u32 0,.int .u32 0,.int .u64 0,.int .u64 0] := ⟨kk⟩
instance : TyD Tryz.prog 154 (.array 65536 5) := ⟨kk⟩
instance : TyA Tryz.prog 156 65536 := ⟨kk,kk⟩
instance : Fld Tryz.prog 156 0 0 154 := ⟨kk⟩
instance : TyS Tryz.prog 160 3 24 := ⟨kk⟩
instance : TyZ Tryz.prog 160 (.agg #[.int .i64 0,.int .i64 0,.int .u32 0]) := ⟨kk⟩
instance : TyP Tryz.prog 160 [(0,1),(1,1),(2,1)] [.int .i64 0,.int .i64 0,.int .u32 0] := ⟨kk⟩
instance : TyP Tryz.prog 164 [(0,1),(1,1),(2,1)] [.slice none 0 0,.slice none 0 0,.slice none 0 0] := ⟨kk⟩
instance : Fld Tryz.prog 164 2 2 49 := ⟨kk⟩
instance : TyD Tryz.prog 165 (.slice 169) := ⟨kk⟩
instance : TyS Tryz.prog 165 1 24 := ⟨kk⟩
instance : TyC Tryz.prog 165 := ⟨kk,kk,kk⟩
instance : TyP Tryz.prog 167 [(0,1),(1,1)] [.slice none 0 0,.slice none 0 0] := ⟨kk⟩
instance : Fld Tryz.prog 167 0 0 165 := ⟨kk⟩
instance : TyS Tryz.prog 169 36 152 := ⟨kk⟩
instance : TyZ Tryz.prog 169 (.agg #[.int .i64 0,.int .i64 0,.int .u32 0,.int .u32 0,.int .u32 0,.int .u32 0,.int .u32 0,.int .u32 0,.int .u32 0,.int .u32 0,.int .u32 0,.int .u32 0,.int .u32 0,.int .u32 0,.int .u32 0,.int .u32 0,.int .u32 0,.int .u32 0,.int .u32 0,.int .u32 0,.int .u32 0,.int .u32 0,.int .u32 0,.int .u32 0,.int .u32 0,.int .u32 0,.int .u32 0,.int .u32 0,.int .u32 0,.int .u32 0,.int .u32 0,.int .u32 0,.int .u32 0,.int .u32 0,.int .u32 0,.int .u32 0]) := ⟨kk⟩
instance : TyP Tryz.prog 169 [(0,1),(1,35)] [.int .i64 0,.int .i64 0,.int .u32 0,.int .u32 0,.int .u32 0,.int .u32 0,.int .u32 0,.int .u32 0,.int .u32 0,.int .u32 0,.int .u32 0,.int .u32 0,.int .u32 0,.int .u32 0,.int .u32 0,.int .u32 0,.int .u32 0,.int .u32 0,.int .u32 0,.int .u32 0,.int .u32 0,.int .u32 0,.int .u32 0,.int .u32 0,.int .u32 0,.int .u32 0,.int .u32 0,.int .u32 0,.int .u32 0,.int .u32 0,.int .u32 0,.int .u32 0,.int .u32 0,.int .u32 0,.int .u32 0,.int .u32 0] := ⟨kk⟩
instance : TyS Tryz.prog 172 1 24 := ⟨kk⟩
instance : TyZ Tryz.prog 172 (.slice none 0 0) := ⟨kk⟩
instance : TyD Tryz.prog 173 (.slice 172) := ⟨kk⟩
instance : TyP Tryz.prog 175 [(0,1)] [.slice none 0 0] := ⟨kk⟩
instance : TyD Tryz.prog 176 (.map 3 5) := ⟨kk⟩
instance : TyC Tryz.prog 176 := ⟨kk,kk,kk⟩
instance : TyP Tryz.prog 178 [(0,1)] [.map none] := ⟨kk⟩
instance : Fld Tryz.prog 178 0 0 176 := ⟨kk⟩
instance : TyS Tryz.prog 180 3 16 := ⟨kk⟩
instance : TyZ Tryz.prog 180 (.agg #[.int .u32 0,.int .u32 0,.int .i64 0]) := ⟨kk⟩
instance : TyP Tryz.prog 180 [(0,1),(1,1),(2,1)] [.int .u32 0,.int .u32 0,.int .i64 0] := ⟨kk⟩
instance : TyD Tryz.prog 188 (.int .u64) := ⟨kk⟩
instance : TyD Tryz.prog 199 (.pointer 261) := ⟨kk⟩
instance : TyD Tryz.prog 203 (.slice 143) := ⟨kk⟩
instance : TyD Tryz.prog 205 (.array 64 143) := ⟨kk⟩
instance : TyP Tryz.prog 210 [(0,1),(1,1)] [.slice none 0 0,.int .i64 0] := ⟨kk⟩
instance : Fld Tryz.prog 210 0 0 48 := ⟨kk⟩
instance : Fld Tryz.prog 210 1 1 3 := ⟨kk⟩
instance : TyP Tryz.prog 231 [(0,1),(1,1),(2,1)] [.slice none 0 0,.int .i64 0,.slice none 0 0] := ⟨kk⟩
instance : Fld Tryz.prog 231 0 0 51 := ⟨kk⟩
instance : Fld Tryz.prog 231 1 1 3 := ⟨kk⟩
instance : Fld Tryz.prog 231 2 2 49 := ⟨kk⟩
instance : TyS Tryz.prog 232 1 8 := ⟨kk⟩
instance : TyZ Tryz.prog 232 (.chan none) := ⟨kk⟩
instance : TyC Tryz.prog 232 := ⟨kk,kk,kk⟩
instance : TyD Tryz.prog 253 (.slice 232) := ⟨kk⟩
instance : TyS Tryz.prog 253 1 24 := ⟨kk⟩
instance : TyC Tryz.prog 253 := ⟨kk,kk,kk⟩
instance : TyP Tryz.prog 255 [(0,1)] [.slice none 0 0] := ⟨kk⟩
instance : Fld Tryz.prog 255 0 0 253 := ⟨kk⟩
instance : TyD Tryz.prog 256 (.pointer 311) := ⟨kk⟩
instance : TyP Tryz.prog 261 [(0,1),(1,1)] [.slice none 0 0,.bool false] := ⟨kk⟩
instance : Fld Tryz.prog 261 0 0 27 := ⟨kk⟩
instance : Fld Tryz.prog 261 1 1 4 := ⟨kk⟩
instance : TyD Tryz.prog 308 (.array 8 25) := ⟨kk⟩
instance : TyZ Tryz.prog 308 (.agg #[.int .u32 0,.int .u32 0,.int .u32 0,.int .u32 0,.int .u32 0,.int .u32 0,.int .u32 0,.int .u32 0]) := ⟨kk⟩
instance : TyA Tryz.prog 308 8 := ⟨kk,kk⟩
instance : TyD Tryz.prog 309 (.array 64 5) := ⟨kk⟩
instance : TyA Tryz.prog 309 64 := ⟨kk,kk⟩
instance : TyA Tryz.prog 311 73 := ⟨kk,kk⟩
instance : Fld Tryz.prog 311 0 0 308 := ⟨kk⟩
instance : Fld Tryz.prog 311 1 8 309 := ⟨kk⟩
instance : Fld Tryz.prog 311 2 72 143 := ⟨kk⟩
instance : TyD Tryz.prog 334 (.array 64 25) := ⟨kk⟩
instance : TyD Tryz.prog 335 (.array 8 143) := ⟨kk⟩
instance : TyZ Tryz.prog 335 (.agg #[.int .u64 0,.int .u64 0,.int .u64 0,.int .u64 0,.int .u64 0,.int .u64 0,.int .u64 0,.int .u64 0]) := ⟨kk⟩
instance : Ent Tryz.prog 18 := ent_of Tryz.func18 kt kt
instance : Ent Tryz.prog 19 := ent_of Tryz.func19 kt kt
instance : Ent Tryz.prog 20 := ent_of Tryz.func20 kt kt
instance : Ent Tryz.prog 24 := ent_of Tryz.func24 kt kt
instance : Ent Tryz.prog 28 := ent_of Tryz.func28 kt kt
instance : Ent Tryz.prog 29 := ent_of Tryz.func29 kt kt
instance : Ent Tryz.prog 33 := ent_of Tryz.func33 kt kt
instance : Ent Tryz.prog 38 := ent_of Tryz.func38 kt kt
instance : Ent Tryz.prog 39 := ent_of Tryz.func39 kt kt
instance : Ent Tryz.prog 40 := ent_of Tryz.func40 kt kt
instance : Ent Tryz.prog 41 := ent_of Tryz.func41 kt kt
instance : Ent Tryz.prog 42 := ent_of Tryz.func42 kt kt
instance : Ent Tryz.prog 43 := ent_of Tryz.func43 kt kt
instance : Ent Tryz.prog 44 := ent_of Tryz.func44 kt kt
instance : Ent Tryz.prog 47 := ent_of Tryz.func47 kt kt
instance : Ent Tryz.prog 48 := ent_of Tryz.func48 kt kt
instance : Ent Tryz.prog 49 := ent_of Tryz.func49 kt kt
instance : Ent Tryz.prog 50 := ent_of Tryz.func50 kt kt
instance : Ent Tryz.prog 51 := ent_of Tryz.func51 kt kt
instance : Ent Tryz.prog 52 := ent_of Tryz.func52 kt kt
instance : Ent Tryz.prog 53 := ent_of Tryz.func53 kt kt
instance : Ent Tryz.prog 54 := ent_of Tryz.func54 kt kt
instance : Ent Tryz.prog 56 := ent_of Tryz.func56 kt kt
instance : Ent Tryz.prog 58 := ent_of Tryz.func58 kt kt
instance : Ent Tryz.prog 59 := ent_of Tryz.func59 kt kt
instance : Ent Tryz.prog 60 := ent_of Tryz.func60 kt kt
instance : FnE Tryz.prog 60 Tryz.f60 3 := ⟨Tryz.func60,Tryz.ntmps60⟩
instance : Ent Tryz.prog 71 := ent_of Tryz.func71 kt kt
instance : Ent Tryz.prog 72 := ent_of Tryz.func72 kt kt
instance : Ent Tryz.prog 73 := ent_of Tryz.func73 kt kt
instance : Ent Tryz.prog 74 := ent_of Tryz.func74 kt kt
instance : Ent Tryz.prog 75 := ent_of Tryz.func75 kt kt
instance : Ent Tryz.prog 76 := ent_of Tryz.func76 kt kt
instance : Ent Tryz.prog 78 := ent_of Tryz.func78 kt kt
instance : Ent Tryz.prog 79 := ent_of Tryz.func79 kt kt
instance : Ent Tryz.prog 80 := ent_of Tryz.func80 kt kt
instance : Ent Tryz.prog 81 := ent_of Tryz.func81 kt kt
instance : Ent Tryz.prog 87 := ent_of Tryz.func87 kt kt
instance : Ent Tryz.prog 88 := ent_of Tryz.func88 kt kt
instance : Ent Tryz.prog 89 := ent_of Tryz.func89 kt kt
instance : Ent Tryz.prog 90 := ent_of Tryz.func90 kt kt
instance : Ent Tryz.prog 91 := ent_of Tryz.func91 kt kt
instance : Ent Tryz.prog 92 := ent_of Tryz.func92 kt kt
instance : Ent Tryz.prog 93 := ent_of Tryz.func93 kt kt
instance : Ent Tryz.prog 94 := ent_of Tryz.func94 kt kt
instance : Ent Tryz.prog 99 := ent_of Tryz.func99 kt kt
instance : Ent Tryz.prog 100 := ent_of Tryz.func100 kt kt
instance : Ent Tryz.prog 101 := ent_of Tryz.func101 kt kt
instance : Ent Tryz.prog 102 := ent_of Tryz.func102 kt kt
instance : Ent Tryz.prog 103 := ent_of Tryz.func103 kt kt
instance : Ent Tryz.prog 104 := ent_of Tryz.func104 kt kt
instance : Ent Tryz.prog 105 := ent_of Tryz.func105 kt kt
instance : Ent Tryz.prog 107 := ent_of Tryz.func107 kt kt
instance : Ent Tryz.prog 125 := ent_of Tryz.func125 kt kt
instance : Ent Tryz.prog 126 := ent_of Tryz.func126 kt kt
instance : Ent Tryz.prog 127 := ent_of Tryz.func127 kt kt
instance : Ent Tryz.prog 136 := ent_of Tryz.func136 kt kt
instance : Ent Tryz.prog 137 := ent_of Tryz.func137 kt kt
instance : Ent Tryz.prog 138 := ent_of Tryz.func138 kt kt
instance : Ent Tryz.prog 139 := ent_of Tryz.func139 kt kt
instance : Ent Tryz.prog 140 := ent_of Tryz.func140 kt kt
instance : Ent Tryz.prog 141 := ent_of Tryz.func141 kt kt
instance : Ent Tryz.prog 142 := ent_of Tryz.func142 kt kt
instance : Ent Tryz.prog 143 := ent_of Tryz.func143 kt kt
instance : Ent Tryz.prog 144 := ent_of Tryz.func144 kt kt
instance : Ent Tryz.prog 186 := ent_of Tryz.func186 kt kt
instance : Ent Tryz.prog 187 := ent_of Tryz.func187 kt kt
instance : Ent Tryz.prog 188 := ent_of Tryz.func188 kt kt
instance : Ent Tryz.prog 189 := ent_of Tryz.func189 kt kt
instance : Ent Tryz.prog 190 := ent_of Tryz.func190 kt kt
theorem mixed : Tryz.prog.follows .mixedOrders = true := by kernel_rfl
end Go.Proofs.YtabbklpalbikdaaGreatDoor
end
section
namespace Go.Proofs.YtabbklpalbikdaaGreatDoor
open Go.RowKit Go.Pt
def cTake (l : List UInt8) (bad : Bool) (n : Int) : List UInt8 × List UInt8 × Bool :=
 if bad = true ∨ n < 0 ∨ (l.length : Int) < n then ([],[],true) else (l.take n.toNat,l.drop n.toNat,false)
def TakePost (w : World) (c : Nat) (v : Value) (l : List UInt8) (bad : Bool) (n : Int) (e : Ending) (w' : World) : Prop :=
 ∃ x v',e = .returned x ∧ Hp w [⟨c,[v',.bool (cTake l bad n).2.2],261⟩] w' ∧ ∀ u,Bs u v l → Bs u x (cTake l bad n).1 ∧ Bs u v' (cTake l bad n).2.1
theorem take_any (c : Nat) (v : Value) (l : List UInt8) (bad : Bool) (n : Int) (w u : World) (h : w.heap[c]? = some (.cells #[v,.bool bad] 261 (0,0))) (hv : Bs u v l) :
  Calls Tryz.prog 101 #[.pointer (some ⟨c,0,none⟩),.int .i64 n] w (TakePost w c v l bad n) := by
 obtain ⟨a,cap,rfl,hl,hm⟩ := hv.shape
 unfold maxLen at hm
 refine enter (args := [_,_]) (Γ := [(0,_),(1,_)]) Tryz.func101 Tryz.ntmps101 rfl odq (.cons rfl (.cons rfl .nil)) ?_
 refine St.cls (C' := Hp w [⟨c,[.slice a l.length cap,.bool bad],261⟩]) (fun _ h' => Hp.open h' h) ?_
 repeat' first | refine Wl.move rfl rfl ?_ | refine Wl.assign rfl rfl ?_ | (apply Wl.on;exact rfl;exact rfl;exact qk) | (apply Wl.off;exact rfl;exact rfl;exact rfl;exact qk) | refine Wl.nilCheck rfl rfl ?_ | (apply Wl.pickT;exact rfl;exact rfl;exact qk;exact rfl) | (apply Wl.pickF;exact rfl;exact rfl;exact qk;exact rfl) | refine Wl.fieldAddr0 rfl rfl ?_ | refine Wl.fieldAddrZ rfl rfl ?_ | (apply Wl.loadH;exact rfl;exact rfl;exact kd;exact rfl) | refine Wl.eqlPN rfl rfl rfl ?_ | refine Wl.lss rfl rfl rfl ?_ | refine Wl.gtr rfl rfl rfl ?_ | refine Wl.len rfl rfl ?_ | (apply Wl.store;exact rfl;exact rfl;exact rfl;exact kd;exact ki) | (apply Wl.slice0;exact rfl;exact rfl;exact kw;exact kw;exact zk;omega;omega) | (apply Wl.sliceFull;exact rfl;exact rfl;exact kw;exact kw;exact kw;exact zk;omega;omega;omega) | apply Wl.nil | apply St.seq | apply St.region | (apply St.condT;exact rfl;exact qk) | (apply St.condF;exact rfl;exact qk) | apply St.ret | apply St.skip | apply Gt.next | apply Gt.thenRet | (apply Gt.out1;exact rfl;exact rfl;intro w' hp) | (apply Wl.splitP;exact rfl;exact rfl;all_goals (intros;try (exfalso;omega))) | (apply Wl.splitB;exact rfl;exact rfl;all_goals intros) | (apply St.condP;exact rfl;all_goals (intros;try (exfalso;omega)))
 ·have e : cTake l bad n = ([],[],true) := if_pos (.inl ‹bad = true›)
  rw [TakePost,e];exact ⟨_,_,rfl,hp,fun u _ => ⟨Bs.nil u,Bs.nil u⟩⟩
 ·have e : cTake l bad n = ([],[],true) := if_pos (.inr (.inl ‹n < 0›))
  rw [TakePost,e];exact ⟨_,_,rfl,hp,fun u _ => ⟨Bs.nil u,Bs.nil u⟩⟩
 ·have e : cTake l bad n = ([],[],true) := if_pos (.inr (.inr ‹(l.length : Int) < n›))
  rw [TakePost,e];exact ⟨_,_,rfl,hp,fun u _ => ⟨Bs.nil u,Bs.nil u⟩⟩
 ·have hb : bad = false := ‹bad = false›
  subst hb
  have e : cTake l false n = (l.take n.toNat,l.drop n.toNat,false) := if_neg zi
  rw [TakePost,e]
  refine ⟨_,_,rfl,hp,fun u hu => ⟨?_,?_⟩⟩
  ·have := hu.sub (lo := 0) (hi := n.toNat) (mx := n.toNat) kc kc kc kc
   have e2 : (if n.toNat = 0 then a else a.map (·.add (0 * 1))) = a := by split <;> cases a <;> simp [Addr.add]
   rw [e2] at this;simpa using this
  ·have := hu.sub (lo := n.toNat) (hi := l.length) (mx := cap) kc kc kc kc
   simpa using this
theorem cTake_len (l : List UInt8) (bad : Bool) (n : Nat) : (cTake l bad n).1.length ≤ n := by
 unfold cTake;split <;> simp;omega
theorem numPost_lt (l : List UInt8) (bad : Bool) (n : Nat) (h : n ≤ 4) : (leN (cTake l bad n).1 : Int) ≤ 4294967295 := by
 have h1 := leN_lt (cTake l bad n).1
 have h2 : (256 : Nat) ^ (cTake l bad n).1.length ≤ 256 ^ 4 := Nat.pow_le_pow_right kc (Nat.le_trans (cTake_len l bad n) h)
 omega
def NumPost (w : World) (c : Nat) (v : Value) (l : List UInt8) (bad : Bool) (n : Nat) (k : IntKind) (e : Ending) (w' : World) : Prop :=
 ∃ v',e = .returned (.int k (leN (cTake l bad n).1 : Nat)) ∧ Hp w [⟨c,[v',.bool (cTake l bad n).2.2],261⟩] w' ∧ ∀ u,Bs u v l → Bs u v' (cTake l bad n).2.1
theorem number_any (c : Nat) (v : Value) (l : List UInt8) (bad : Bool) (n : Nat) (hn : n ≤ 4) (w : World) (h : w.heap[c]? = some (.cells #[v,.bool bad] 261 (0,0))) (hv : Bs w v l) :
  Calls Tryz.prog 187 #[.pointer (some ⟨c,0,none⟩),.int .i64 n] w (NumPost w c v l bad n .u32) := by
 refine enter (args := [_,_]) (Γ := [(0,_),(1,_)]) Tryz.func187 Tryz.ntmps187 rfl odq (.cons rfl (.cons rfl .nil)) ?_
 refine St.cls (C' := Hp w [⟨c,[v,.bool bad],261⟩]) (fun _ h' => Hp.open h' h) ?_
 repeat' first | refine Wl.move rfl rfl ?_ | refine Wl.assign rfl rfl ?_ | apply Wl.nil | apply St.seq | apply St.region | apply Gt.next
 apply Wl.callC
 exact rfl
 (focus repeat constructor)
 intro w1 h1
 refine (take_any c v l bad n w1 w (h1.own.at kq) hv).mono ?_
 rintro e w2 ⟨x,v',rfl,hp,hx⟩
 refine ⟨_,_,rfl,h1.callSet kq hp,?_⟩
 obtain ⟨hxb,hvb⟩ := hx w hv
 obtain ⟨a,cap,rfl,hl,hm⟩ := hxb.shape
 repeat' first | refine Wl.move rfl rfl ?_ | refine Wl.len rfl rfl ?_ | apply Wl.nil | apply St.block | apply Gt.next
 generalize ht : (cTake l bad n).1 = t at *
 have ht4 : t.length ≤ 4 := by subst ht;unfold cTake;split <;> simp;omega
 refine St.loop (σ := Nat) (fun k => k ≤ t.length) (fun k => [(5,.int .u32 (leN (t.take k) : Nat)),(10,.slice a t.length cap),(11,.int .i64 t.length),(12,.int .i64 k)]) (fun _ => Hp w [⟨c,[v',.bool (cTake l bad n).2.2],261⟩]) (fun k => t.length - k)
  0 (Nat.zero_le _) kq (fun _ h => h) ?_
 intro k hk
 repeat' first | refine Wl.move rfl rfl ?_ | refine Wl.assign rfl rfl ?_ | refine Wl.lss rfl rfl rfl ?_ | apply Wl.nil | apply St.seq | apply St.block | apply St.region | apply St.ret | apply St.skip | apply St.exit | apply Gt.next | apply Gt.thenExit | apply Gt.inExit | (apply Gt.out1;exact rfl;exact rfl;intro w' hp) | (apply St.condP;exact rfl;all_goals (intros;try (exfalso;omega)))
 ·have hlt : k < t.length := by omega
  obtain ⟨b,off,rfl,hc⟩ := hxb.cells (List.ne_nil_of_length_pos kc)
  have hck := hc k hlt
  have hcb : c ≠ b := fun e => by
   subst e
   have h0 := hc 0 kc
   rw [cellAt h] at h0
   obtain ⟨a',cap',rfl,_⟩ := hv.shape
   rcases off with _ | _ | off <;> simp at h0
  repeat' first | refine Wl.move rfl rfl ?_ | refine Wl.assign rfl rfl ?_ | (apply Wl.loadO;exact rfl;exact rfl;(assumption);exact q7) | (refine Wl.addI rfl rfl rfl ?_ ?_;constructor <;> omega) | (refine Wl.mulI rfl rfl rfl ?_ ?_;constructor <;> omega) | refine Wl.or rfl rfl rfl ?_ | (refine Wl.shl rfl rfl rfl ?_ ?_;omega) | refine Wl.convI rfl rfl ?_ | (refine Wl.indexAddr1 rfl rfl rfl ?_ ?_;constructor <;> omega) | apply Wl.nil | apply St.region | apply Gt.next | apply Gt.inNormal
  have hk4 : k < 4 := by omega
  refine Gt.round (k + 1) hlt kc (Sub.cons' rfl ?_ kq) (fun _ h => h)
  congr 1
  rw [List.take_succ_eq_append_getElem hlt,leN_append,List.length_take_of_le kc]
  have hb := t[k].toNat_lt
  have ha := leN_lt (t.take k)
  rw [List.length_take_of_le kc] at ha
  have e1 : (8 * (k : Int)).toNat = 8 * k := by omega
  have e2 : IntKind.u32.wrap (t[k].toNat : Int) = (t[k].toNat : Int) := IntWalk.u32_in _ kc
  have hp8 : t[k].toNat * 2 ^ (8 * k) < 2 ^ 32 := by
   have : k = 0 ∨ k = 1 ∨ k = 2 ∨ k = 3 := by omega
   rcases this with rfl | rfl | rfl | rfl <;> simp <;> omega
  have e3 : min (8 * k) IntKind.u32.bits = 8 * k := Nat.min_eq_left (by simp [IntKind.bits];omega)
  have e4 : IntKind.u32.wrap ((t[k].toNat : Int) * 2 ^ (8 * k)) = ((t[k].toNat * 2 ^ (8 * k) : Nat) : Int) := by
   rw [show ((t[k].toNat : Int) * 2 ^ (8 * k)) = ((t[k].toNat * 2 ^ (8 * k) : Nat) : Int) by simp]
   exact IntWalk.u32_in _ kc
  have e5 : (256 : Nat) ^ k = 2 ^ (8 * k) := by rw [show (256 : Nat) = 2 ^ 8 from rfl,← Nat.pow_mul]
  rw [e5] at ha
  have hp32 : (2 : Nat) ^ (8 * k) ≤ 2 ^ 32 := Nat.pow_le_pow_right kc kc
  rw [e2,e1,e3,e4,bitsOr_nat .u32 rfl _ _ (by simp only [IntKind.bits];omega) (by simp only [IntKind.bits];omega),or_disjoint _ _ _ ha,e5]
  simp [leN,Nat.mul_comm]
 ·have : k = t.length := by omega
  subst this
  rw [List.take_length]
  exact ⟨v',by rw [ht],hp,fun u hu => (hx u hu).2⟩
theorem u8_any (c : Nat) (v : Value) (l : List UInt8) (bad : Bool) (w : World) (h : w.heap[c]? = some (.cells #[v,.bool bad] 261 (0,0))) (hv : Bs w v l) :
  Calls Tryz.prog 139 #[.pointer (some ⟨c,0,none⟩)] w (NumPost w c v l bad 1 .i64) := by
 have hlt := numPost_lt l bad 1 kc
 refine enter (args := [_]) (Γ := [(0,_)]) Tryz.func139 Tryz.ntmps139 rfl odq (.cons rfl .nil) ?_
 repeat' first | refine Wl.move rfl rfl ?_ | refine Wl.assign rfl rfl ?_ | apply Wl.nil | apply St.seq | apply St.region | apply Gt.next
 apply Wl.callC
 exact rfl
 (focus repeat constructor)
 intro w1 h1
 refine (number_any c v l bad 1 kc w1 (h1.upd.heap h fun x => x trivial) (hv.upd h1.upd fun _ _ _ _ x => x trivial)).mono ?_
 rintro e w2 ⟨v',rfl,hp,hx⟩
 refine ⟨_,_,rfl,hp,?_⟩
 repeat' first | refine Wl.assign rfl rfl ?_ | (refine Wl.convI64 rfl rfl ?_ ?_;constructor <;> omega) | apply Wl.nil | apply St.ret | apply Gt.next | (apply Gt.out1;exact rfl;exact rfl;intro w' hp)
 exact ⟨v',rfl,⟨(h1.upd.mono fun _ _ x => (x trivial).elim).trans hp.upd,hp.own,hp.apart⟩,hx⟩
theorem u16_any (c : Nat) (v : Value) (l : List UInt8) (bad : Bool) (w : World) (h : w.heap[c]? = some (.cells #[v,.bool bad] 261 (0,0))) (hv : Bs w v l) :
  Calls Tryz.prog 142 #[.pointer (some ⟨c,0,none⟩)] w (NumPost w c v l bad 2 .i64) := by
 have hlt := numPost_lt l bad 2 kc
 refine enter (args := [_]) (Γ := [(0,_)]) Tryz.func142 Tryz.ntmps142 rfl odq (.cons rfl .nil) ?_
 repeat' first | refine Wl.move rfl rfl ?_ | refine Wl.assign rfl rfl ?_ | apply Wl.nil | apply St.seq | apply St.region | apply Gt.next
 apply Wl.callC
 exact rfl
 (focus repeat constructor)
 intro w1 h1
 refine (number_any c v l bad 2 kc w1 (h1.upd.heap h fun x => x trivial) (hv.upd h1.upd fun _ _ _ _ x => x trivial)).mono ?_
 rintro e w2 ⟨v',rfl,hp,hx⟩
 refine ⟨_,_,rfl,hp,?_⟩
 repeat' first | refine Wl.assign rfl rfl ?_ | (refine Wl.convI64 rfl rfl ?_ ?_;constructor <;> omega) | apply Wl.nil | apply St.ret | apply Gt.next | (apply Gt.out1;exact rfl;exact rfl;intro w' hp)
 exact ⟨v',rfl,⟨(h1.upd.mono fun _ _ x => (x trivial).elim).trans hp.upd,hp.own,hp.apart⟩,hx⟩
theorem u32_any (c : Nat) (v : Value) (l : List UInt8) (bad : Bool) (w : World) (h : w.heap[c]? = some (.cells #[v,.bool bad] 261 (0,0))) (hv : Bs w v l) :
  Calls Tryz.prog 140 #[.pointer (some ⟨c,0,none⟩)] w (NumPost w c v l bad 4 .u32) := by
 have hlt := numPost_lt l bad 4 kc
 refine enter (args := [_]) (Γ := [(0,_)]) Tryz.func140 Tryz.ntmps140 rfl odq (.cons rfl .nil) ?_
 repeat' first | refine Wl.move rfl rfl ?_ | refine Wl.assign rfl rfl ?_ | apply Wl.nil | apply St.seq | apply St.region | apply Gt.next
 apply Wl.callC
 exact rfl
 (focus repeat constructor)
 intro w1 h1
 refine (number_any c v l bad 4 kc w1 (h1.upd.heap h fun x => x trivial) (hv.upd h1.upd fun _ _ _ _ x => x trivial)).mono ?_
 rintro e w2 ⟨v',rfl,hp,hx⟩
 refine ⟨_,_,rfl,hp,?_⟩
 repeat' first | refine Wl.assign rfl rfl ?_ | apply Wl.nil | apply St.ret | apply Gt.next | (apply Gt.out1;exact rfl;exact rfl;intro w' hp)
 exact ⟨v',rfl,⟨(h1.upd.mono fun _ _ x => (x trivial).elim).trans hp.upd,hp.own,hp.apart⟩,hx⟩
theorem bad_any (c : Nat) (v : Value) (bad : Bool) (w : World) (h : w.heap[c]? = some (.cells #[v,.bool bad] 261 (0,0))) :
  Calls Tryz.prog 188 #[.pointer (some ⟨c,0,none⟩)] w fun e w' => e = .returned (.bool bad) ∧ Hp w [] w' := by
 refine enter (args := [_]) (Γ := [(0,_)]) Tryz.func188 Tryz.ntmps188 rfl odq (.cons rfl .nil) ?_
 have h1 := cellAt h 1
 simp at h1
 repeat' first | refine Wl.move rfl rfl ?_ | refine Wl.assign rfl rfl ?_ | (apply Wl.on;exact rfl;exact rfl;exact qk) | refine Wl.nilCheck rfl rfl ?_ | (apply Wl.pickF;exact rfl;exact rfl;exact qk;exact rfl) | refine Wl.fieldAddrZ rfl rfl ?_ | (apply Wl.loadO;exact rfl;exact rfl;(assumption);exact q7) | refine Wl.eqlPN rfl rfl rfl ?_ | apply Wl.nil | apply St.seq | apply St.region | apply St.ret | apply Gt.next | (apply Gt.out1;exact rfl;exact rfl;intro w' hp)
 exact ⟨rfl,hp⟩
theorem end_any (c : Nat) (v : Value) (l : List UInt8) (bad : Bool) (w u : World) (h : w.heap[c]? = some (.cells #[v,.bool bad] 261 (0,0))) (hu : Bs u v l) :
  Calls Tryz.prog 189 #[.pointer (some ⟨c,0,none⟩)] w fun e w' => e = .returned (.bool (!bad && decide (l = []))) ∧ Hp w [] w' := by
 obtain ⟨a,cap,rfl,hl,hm⟩ := hu.shape
 have h0 := cellAt h 0
 simp at h0
 refine enter (args := [_]) (Γ := [(0,_)]) Tryz.func189 Tryz.ntmps189 rfl odq (.cons rfl .nil) ?_
 repeat' first | refine Wl.move rfl rfl ?_ | refine Wl.assign rfl rfl ?_ | apply Wl.nil | apply St.seq | apply St.region | apply Gt.next
 apply Wl.callQ
 exact rfl
 (focus repeat constructor)
 ·intro w1 h1
  refine (bad_any c _ bad w1 (h1.upd.heap h fun x => x trivial)).mono ?_
  rintro e w2 ⟨rfl,hp⟩
  exact ⟨rfl,h1.step hp.upd zd (by simp [Off])⟩
 repeat' first | refine Wl.move rfl rfl ?_ | refine Wl.assign rfl rfl ?_ | (apply Wl.on;exact rfl;exact rfl;exact qk) | (apply Wl.off;exact rfl;exact rfl;exact rfl;exact qk) | refine Wl.nilCheck rfl rfl ?_ | (apply Wl.pickT;exact rfl;exact rfl;exact qk;exact rfl) | (apply Wl.pickF;exact rfl;exact rfl;exact qk;exact rfl) | refine Wl.not rfl rfl ?_ | refine Wl.fieldAddr0 rfl rfl ?_ | (apply Wl.loadO;exact rfl;exact rfl;(assumption);exact q7) | refine Wl.eql rfl rfl rfl ?_ | refine Wl.len rfl rfl ?_ | apply Wl.nil | apply St.ret | apply Gt.next | (apply Gt.out1;exact rfl;exact rfl;intro w' hp) | (apply Wl.splitB;exact rfl;exact rfl;all_goals intros)
 all_goals refine ⟨?_,hp⟩
 ·have e1 : bad = false := by simpa using ‹(!bad) = true›
  subst e1
  simp
 ·have e1 : bad = true := by simpa using ‹(!bad) = false›
  subst e1
  rfl
theorem at_any (v : Value) (l : List UInt8) (w u : World) (h : Bs u v l) :
  Calls Tryz.prog 100 #[v] w fun e w' => ∃ c,e = .returned (.pointer (some ⟨c,0,none⟩)) ∧ w.heap.size ≤ c ∧ Hp w [⟨c,[v,.bool false],261⟩] w' := by
 obtain ⟨a,cap,rfl,_⟩ := h.shape
 refine enter (args := [_]) (Γ := [(0,_)]) Tryz.func100 Tryz.ntmps100 rfl odq (.cons rfl .nil) ?_
 repeat' first | refine Wl.move rfl rfl ?_ | refine Wl.assign rfl rfl ?_ | (apply Wl.buildS;exact rfl;exact kj;exact ka) | (apply Wl.boxA;exact rfl;exact rfl;intro c hc ho) | apply Wl.nil | apply St.seq | apply St.region | apply St.ret | apply Gt.next | (apply Gt.out1;exact rfl;exact rfl;intro w' hp)
 exact ⟨c,rfl,hc,hp⟩
theorem cTake_app (l m : List UInt8) (n : Int) (h : n = l.length) : cTake (l ++ m) false n = (l,m,false) := by
 subst h
 unfold cTake
 rw [if_neg zi]
 simp
end Go.Proofs.YtabbklpalbikdaaGreatDoor
end
section
namespace Go.Pt
section
variable {P : Program} {ops : Array Oper} {N n : Nat} {Γ : Env} {C D : World → Prop} {Q : Act → World → Prop}
def Mt (P : Program) (ops : Array Oper) (N n : Nat) (listed : Array Bool) (Γ : Env) (D C : World → Prop) (Q : Act → World → Prop) : Prop :=
 ∀ a w,Fr N a Γ → D w → C w → wpAnyC P ops C Q n listed a w
def MtQ (P : Program) (ops : Array Oper) (C : World → Prop) (Q : Act → World → Prop) (n : Nat) (listed : Array Bool) : Exit → Act → World → Prop := fun _ a w => C w → wpAnyC P ops C Q n listed a w
def MtE (P : Program) (ops : Array Oper) (C : World → Prop) (Q : Act → World → Prop) (n : Nat) (listed : Array Bool) : Exit → Act → World → Prop := fun e a w => e = .normal ∧ C w ∧ wpAnyC P ops C Q n listed a w
theorem Mt.back {listed : Array Bool} (h : Mt P ops N n listed Γ D C Q) : Gt N .normal Γ D (MtQ P ops C Q n listed) := Gt.intro fun a w ha hD hC => h a w ha hD hC
theorem Mt.backE {listed : Array Bool} (hc : ∀ w,D w → C w) (h : Mt P ops N n listed Γ D C Q) : Gt N .normal Γ D (MtE P ops C Q n listed) := Gt.intro fun a w ha hD => ⟨rfl,hc w hD,h a w ha hD (hc w hD)⟩
theorem Mt.done {listed : Array Bool} (hr : (Region.ready .any ops listed).isEmpty = true) (h : ∀ a w,Fr N a Γ → D w → Q a w) : Mt P ops N n listed Γ D C Q := fun a w ha hD hC => by
 have hr' : Region.ready .any ops listed = [] := by simpa using hr
 cases n with
 | zero => exact ⟨hC,hr',h a w ha hD⟩
 | succ n => exact ⟨hC,fun _ => h a w ha hD,fun i hi => by rw [hr'] at hi;cases hi⟩
theorem Mt.pure {listed : Array Bool} (i : Nat) {o : Oper} (hs : Region.noSelect ops = true) (hi : ops[i]? = some o) (he : effB o = false) (hr : (Region.ready .any ops listed).contains i = true) (hf : Region.free .any ops listed i = true)
  (h : Wl [o] P (.mix D) ops N Γ C (MtQ P ops C Q n (listed.setIfInBounds i true))) : Mt P ops N (n + 1) listed Γ D C Q := fun a w ha hD hC => by
 have h := h.elimM a w ha hD hC
 simp only [wpE,he] at h
 by_cases hw : Region.wanted o (yielded ops a.tmps) = true
 ·rw [if_pos hw] at h
  obtain ⟨v,hv,h⟩ := h
  exact firstC hi hs n listed a w (Region.free_spec hi hf) j6 (.inl ⟨hw,hv⟩) (h hC)
 ·rw [if_neg hw] at h
  exact firstC hi hs n listed a w (Region.free_spec hi hf) j6 (.inr ⟨by simpa using hw,rfl⟩) (h hC)
theorem Wl.nilB {listed : Array Bool} (h : Mt P ops N n listed Γ D C Q) : Wl [] P (.mix D) ops N Γ C (MtQ P ops C Q n listed) := Wl.nilM (Mt.back h)
theorem Mt.pu {listed : Array Bool} (i : Nat) {o : Oper} (h : Wl [o] P (.mix D) ops N Γ C (MtQ P ops C Q n (listed.setIfInBounds i true))) (hs : Region.noSelect ops = true := by decide +kernel) (hi : ops[i]? = some o := by exact rfl) (he : effB o = false := by exact rfl) (hr : (Region.ready .any ops listed).contains i = true := by decide +kernel) (hf : Region.free .any ops listed i = true := by decide +kernel) : Mt P ops N (n + 1) listed Γ D C Q := Mt.pure i hs hi he hr hf h
theorem Mt.pm {listed : Array Bool} (i : Nat) {d : Nat} {ty : TypeId} {pos : String} {af : Array Edge} {x : Operand} {v : Value} (h : Mt P ops N n (listed.setIfInBounds i true) ((d, v) :: Γ) D C Q) (hi : ops[i]? = some ⟨some d, .move x, ty, pos, af, none⟩ := by exact rfl) (hd : Nat.blt d N = true := by exact rfl) (hx : ev Γ x = some v := by exact rfl) (hs : Region.noSelect ops = true := by decide +kernel) (hr : (Region.ready .any ops listed).contains i = true := by decide +kernel) (hf : Region.free .any ops listed i = true := by decide +kernel) : Mt P ops N (n + 1) listed Γ D C Q := Mt.pure i hs hi rfl hr hf (Wl.move hd hx (Wl.nilB h))
theorem Mt.pn {listed : Array Bool} (i : Nat) {d : Nat} {ty : TypeId} {pos : String} {af : Array Edge} {x : Operand} {p : Addr} (h : Mt P ops N n (listed.setIfInBounds i true) ((d, .pointer (some p)) :: Γ) D C Q) (hi : ops[i]? = some ⟨some d, .nilCheck x, ty, pos, af, none⟩ := by exact rfl) (hd : Nat.blt d N = true := by exact rfl) (hx : ev Γ x = some (.pointer (some p)) := by exact rfl) (hs : Region.noSelect ops = true := by decide +kernel) (hr : (Region.ready .any ops listed).contains i = true := by decide +kernel) (hf : Region.free .any ops listed i = true := by decide +kernel) : Mt P ops N (n + 1) listed Γ D C Q := Mt.pure i hs hi rfl hr hf (Wl.nilCheck hd hx (Wl.nilB h))
theorem Mt.po {listed : Array Bool} (i : Nat) {d : Nat} {op : Op} {ty : TypeId} {pos : String} {af : Array Edge} {j t : Nat} {want b : Bool} (h : Mt P ops N n (listed.setIfInBounds i true) ((d, undef) :: Γ) D C Q) (hi : ops[i]? = some ⟨some d, op, ty, pos, af, some (j, want)⟩ := by exact rfl) (he : effB ⟨some d, op, ty, pos, af, some (j, want)⟩ = false := by exact rfl) (hd : Nat.blt d N = true := by exact rfl) (hj : (ops[j]?).bind (·.dst) = some t := by exact rfl) (ht : look Γ t = some (.bool b) := by exact rfl) (hb : b = !want := by first | with_reducible rfl | (show _ = false;with_reducible assumption) | (show _ = true;with_reducible assumption) | decide) (hs : Region.noSelect ops = true := by decide +kernel) (hr : (Region.ready .any ops listed).contains i = true := by decide +kernel) (hf : Region.free .any ops listed i = true := by decide +kernel) : Mt P ops N (n + 1) listed Γ D C Q := Mt.pure i hs hi he hr hf (Wl.off hd hj ht hb (Wl.nilB h))
theorem Mt.pz {listed : Array Bool} (i : Nat) {d : Nat} {ty : TypeId} {pos : String} {af : Array Edge} {x : Operand} {s j off ft b : Nat} (h : Mt P ops N n (listed.setIfInBounds i true) ((d, .pointer (some ⟨b, off, none⟩)) :: Γ) D C Q) (hi : ops[i]? = some ⟨some d, .fieldAddr s x j, ty, pos, af, none⟩ := by exact rfl) (hF : Fld P s j off ft := by infer_instance) (hd : Nat.blt d N = true := by exact rfl) (hx : ev Γ x = some (.pointer (some ⟨b, 0, none⟩)) := by exact rfl) (hs : Region.noSelect ops = true := by decide +kernel) (hr : (Region.ready .any ops listed).contains i = true := by decide +kernel) (hf : Region.free .any ops listed i = true := by decide +kernel) : Mt P ops N (n + 1) listed Γ D C Q := Mt.pure i hs hi rfl hr hf (Wl.fieldAddrZ (hf := hF) hd hx (Wl.nilB h))
theorem Mt.pf {listed : Array Bool} (i : Nat) {d : Nat} {ty : TypeId} {pos : String} {af : Array Edge} {x : Operand} {s j ft : Nat} {a0 : Addr} (h : Mt P ops N n (listed.setIfInBounds i true) ((d, .pointer (some a0)) :: Γ) D C Q) (hi : ops[i]? = some ⟨some d, .fieldAddr s x j, ty, pos, af, none⟩ := by exact rfl) (hF : Fld P s j 0 ft := by infer_instance) (hd : Nat.blt d N = true := by exact rfl) (hx : ev Γ x = some (.pointer (some a0)) := by exact rfl) (hs : Region.noSelect ops = true := by decide +kernel) (hr : (Region.ready .any ops listed).contains i = true := by decide +kernel) (hf : Region.free .any ops listed i = true := by decide +kernel) : Mt P ops N (n + 1) listed Γ D C Q := Mt.pure i hs hi rfl hr hf (Wl.fieldAddr0 (hf := hF) hd hx (Wl.nilB h))
theorem Mt.op {listed : Array Bool} {i : Nat} {o : Oper} (hi : ops[i]? = some o) (h : Wl [o] P .seq ops N Γ D (MtE P ops C Q n (listed.setIfInBounds i true))) (a : Act) (w : World) (ha : Fr N a Γ) (hD : D w) :
  wpOp P ops (onlyN Q) i (wpAnyC P ops C Q n (listed.setIfInBounds i true)) a w := by
 have h := h.elim a w ha hD
 unfold wpOp
 simp only [hi]
 simp only [wpList] at h
 split
 ·rename_i hw
  rw [if_pos hw] at h
  rcases h with h | ⟨_,x,y,h⟩
  ·refine .inl ?_
   have h1 := wp_only (fun _ _ _ h => h.1) h
   have h2 := Oper.wp_mono (fun a' w' hh => hh.2.2) h1
   unfold Oper.wp at *
   generalize (execOp a.eval o).run P w = r at *
   cases r with
   | ok n w' =>
    cases n <;> simp only [Oper.upon] at h2 ⊢
    case value u => exact h2
    case skip => exact h2
    case defer d => exact h2
    case enter f args => exact Calls.mono h2 (fun e w'' he => by cases e <;> first | exact he | exact he.elim | (obtain ⟨_,_,hf⟩ := he;exact hf.elim))
    case row row args => exact h2
   | halt x w' => cases x <;> simp only [Oper.upon] at h2
  ·cases h.1
 ·rename_i hw
  rw [if_neg hw] at h
  exact h.2.2
theorem Mt.eff1 {listed : Array Bool} {i : Nat} {o : Oper} (hr : Region.ready .any ops listed = [i]) (hi : ops[i]? = some o) (h : Wl [o] P .seq ops N Γ D (MtE P ops C Q n (listed.setIfInBounds i true))) : Mt P ops N (n + 1) listed Γ D C Q := fun a w ha hD hC => by
 refine ⟨hC,fun e => qy,fun j hj => ?_⟩
 rw [hr,List.mem_singleton] at hj
 subst hj
 exact Mt.op hi h a w ha hD
theorem Mt.e1 {listed : Array Bool} (i : Nat) {o : Oper} (h : Wl [o] P .seq ops N Γ D (MtE P ops C Q n (listed.setIfInBounds i true))) (hr : Region.ready .any ops listed = [i] := by decide +kernel) (hi : ops[i]? = some o := by exact rfl) : Mt P ops N (n + 1) listed Γ D C Q := Mt.eff1 hr hi h
theorem Mt.eff2 {listed : Array Bool} {i j : Nat} {o o' : Oper} (hr : Region.ready .any ops listed = [i,j]) (hi : ops[i]? = some o) (hj : ops[j]? = some o') (h : Wl [o] P .seq ops N Γ D (MtE P ops C Q n (listed.setIfInBounds i true)))
  (h' : Wl [o'] P .seq ops N Γ D (MtE P ops C Q n (listed.setIfInBounds j true))) : Mt P ops N (n + 1) listed Γ D C Q := fun a w ha hD hC => by
 refine ⟨hC,fun e => qy,fun k hk => ?_⟩
 rw [hr] at hk
 simp only [List.mem_cons,List.not_mem_nil,or_false] at hk
 rcases hk with rfl | rfl
 ·exact Mt.op hi h a w ha hD
 ·exact Mt.op hj h' a w ha hD
end
section
variable {P : Program} {N : Nat} {Γ : Env} {C B : World → Prop} {Q : Exit → Act → World → Prop}
theorem St.tree {i : Nat} {l : List Oper} (B : World → Prop) (hm : P.follows .mixedOrders = true) (hC : ∀ w,C w → C w.drew ∧ B w.drew) (h : Mt P l.toArray N l.length (Array.replicate l.length false) Γ C B (fun a w => Q .normal a w)) :
  St (.region i l.toArray true) P N Γ C Q := St.intro fun a w ha hw => by
 refine wp_mono (wp_region_any (Q := onlyN fun a' w' => Q .normal a' w') hm ?_) ?_
 ·have := wpAny_of_C _ _ _ _ (h a w.drew ha (hC w hw).1 (hC w hw).2)
  simpa using this
 ·intro e a w h
  cases e <;> first | exact h | exact h.elim
theorem Mt.toGt {ops : Array Oper} {n : Nat} {listed : Array Bool} {D : World → Prop} (hr : (Region.ready .any ops listed).isEmpty = true) (h : Gt N .normal Γ D Q) : Mt P ops N n listed Γ D C (fun a w => Q .normal a w) := Mt.done hr fun a w ha hD => h.elim a w ha hD
end
end Go.Pt
end
section
namespace Go.Proofs.YtabbklpalbikdaaGreatDoor
open Go.RowKit Go.Pt
theorem Hp.pop {w0 w : World} {x : Blk} {H : List Blk} (h : Hp w0 (x :: H) w) (hx : w0.heap.size ≤ x.b) : Hp w0 H w :=
 ⟨h.upd.mono fun k hk hs ho => hs ⟨fun e => by omega,ho⟩,h.own.2,h.apart.2⟩
end Go.Proofs.YtabbklpalbikdaaGreatDoor
end
section
namespace Go.Pt
open Go.RowKit
def I64 (x : Int) : Prop := -9223372036854775808 ≤ x ∧ x ≤ 9223372036854775807
theorem wf64 {t : Int} (h : I64 t) : (Lit.int .i64 t).wf = true := by
 simp only [Lit.wf,Bool.and_eq_true,decide_eq_true_eq]
 exact h
theorem keyOf64 {P : Program} {k : TypeId} [hk : TyD P k (.int .i64)] {t : Int} (h : I64 t) : keyOf P k (.int .i64 t) = some (.int .i64 t) := by
 simp [keyOf,mapKey,hk.out,wf64 h]
end Go.Pt
end
section
namespace Go.Pt
open Go.RowKit
theorem LSet.of {l : List Value} {i : Nat} {v : Value} (h : i < l.length) : LSet l i v (l.set i v) := by
 induction l generalizing i with
 | nil => simp at h
 | cons x r ih =>
  cases i with
  | zero => exact .z
  | succ i => exact .s (ih qz)
end Go.Pt
end
section
namespace Go.Pt
open Go.RowKit
section bin32
variable {P : Program} {md : Md} {ops : Array Oper} {N : Nat} {rest : List Oper} {Γ : Env} {C : World → Prop} {Q : Exit → Act → World → Prop} {d : Nat} {ty : TypeId} {pos : String} {af : Array Edge} {t u : TypeId} {x y : Operand} {m n : Int}
theorem Wl.add32 (hd : Nat.blt d N = true) (hx : ev Γ x = some (.int .u32 m)) (hy : ev Γ y = some (.int .u32 n)) (hb : 0 ≤ m + n ∧ m + n ≤ 4294967295) (h : Wl rest P md ops N ((d,.int .u32 (m + n)) :: Γ) C Q) : Wl (⟨some d,.binOp .add t x y u,ty,pos,af,none⟩ :: rest) P md ops N Γ C Q :=
 Wl.add hd hx hy (by rw [IntWalk.u32_in _ hb];exact h)
theorem Wl.sub32 (hd : Nat.blt d N = true) (hx : ev Γ x = some (.int .u32 m)) (hy : ev Γ y = some (.int .u32 n)) (hb : 0 ≤ m - n ∧ m - n ≤ 4294967295) (h : Wl rest P md ops N ((d,.int .u32 (m - n)) :: Γ) C Q) : Wl (⟨some d,.binOp .sub t x y u,ty,pos,af,none⟩ :: rest) P md ops N Γ C Q :=
 Wl.sub' hd hx hy (by rw [IntWalk.u32_in _ hb];exact h)
end bin32
end Go.Pt
namespace Go.Proofs.YtabbklpalbikdaaGreatDoor
open Go.RowKit Go.Pt
theorem Hp.same {w w' : World} {c t : Nat} {cs : List Value} (h : Hp w [⟨c,cs,t⟩] w') (hc : w.heap[c]? = some (.cells cs.toArray t (0,0))) : Hp w [] w' :=
 ⟨⟨h.upd.os,h.upd.tape,h.upd.output,h.upd.size,fun k hk _ => by
  by_cases e : k = c
  ·subst e;rw [hc];exact h.own.1
  ·exact h.upd.block k hk fun y => y ⟨fun e' => e e'.symm,trivial⟩⟩,trivial,trivial⟩
theorem Hp.turned {w w' : World} {c t : Nat} {cs : List Value} (h : Hp w [⟨c,cs,t⟩] w') : Upd (fun k => k = c) w w' :=
 h.upd.mono fun k _ hs => Classical.byContradiction fun y => hs ⟨fun e => y e.symm,trivial⟩
theorem cell_old {w : World} {a : Addr} {v : Value} (h : w.cell? a = some v) : a.block < w.heap.size := World.block_lt_of_cell? w _ h
end Go.Proofs.YtabbklpalbikdaaGreatDoor
end
section
namespace Go.Pt
open Go.RowKit
end Go.Pt
namespace Go.Proofs.YtabbklpalbikdaaGreatDoor
open Go.RowKit Go.Pt
theorem cell_of {w : World} {c i : Nat} {cs : List Value} {t : TypeId} {v : Value} (h : w.heap[c]? = some (.cells cs.toArray t (0,0))) (hi : cs[i]? = some v) : w.cell? ⟨c,i,none⟩ = some v := by
 rw [cellAt h];simpa using hi
end Go.Proofs.YtabbklpalbikdaaGreatDoor
end
section
namespace Go.Pt
open Go.RowKit
def memC (f : Nat → Int) : List Value := (List.range 65536).map fun j => Value.int .u8 (f j)
def updI (f : Nat → Int) (i : Nat) (x : Int) : Nat → Int := fun j => if j = i then x else f j
theorem memC_len (f : Nat → Int) : (memC f).length = 65536 := by unfold memC;rw [List.length_map,List.length_range]
theorem memC_get {i : Nat} {f : Nat → Int} (h : i < 65536) : (memC f)[i]? = some (.int .u8 (f i)) := by
 unfold memC
 rw [List.getElem?_map,List.getElem?_range h];rfl
theorem memC_set {i : Nat} {x : Int} {f : Nat → Int} (h : i < 65536) : LSet (memC f) i (.int .u8 x) (memC (updI f i x)) := by
 have e : memC (updI f i x) = (memC f).set i (.int .u8 x) := by
  apply List.ext_getElem?
  intro j
  rw [List.getElem?_set]
  by_cases hj : j < 65536
  ·rw [memC_get hj]
   by_cases e : i = j
   ·subst e;rw [if_pos rfl,if_pos (by rw [memC_len];exact h)];simp [updI]
   ·rw [if_neg e,memC_get hj];rw [updI,if_neg (fun h => e h.symm)]
  ·rw [List.getElem?_eq_none (by rw [memC_len];omega)]
   rw [if_neg kc,List.getElem?_eq_none (by rw [memC_len];omega)]
 rw [e]
 exact LSet.of (by rw [memC_len];exact h)
theorem memC_congr {f g : Nat → Int} (h : ∀ j,j < 65536 → f j = g j) : memC f = memC g := by
 unfold memC
 apply List.map_congr_left
 intro j hj
 rw [h j (List.mem_range.1 hj)]
def isZ (v : Value) : Bool := match v with
 | .int .u8 n => n == 0
 | _ => false
theorem isZ_all {l : List Value} (h : l.all isZ = true) (hl : l.length = 65536) : l = memC fun _ => 0 := by
 apply List.ext_getElem?
 intro j
 by_cases hj : j < 65536
 ·rw [memC_get hj]
  rw [List.all_eq_true] at h
  have hm := h l[j] (List.getElem_mem _)
  rw [List.getElem?_eq_getElem kc]
  congr 1
  revert hm
  generalize l[j] = v
  intro hm
  unfold isZ at hm
  split at hm
  ·simp only [beq_iff_eq] at hm;rw [hm]
  ·cases hm
 ·rw [List.getElem?_eq_none kc,List.getElem?_eq_none (by rw [memC_len];omega)]
section
variable {P : Program} {md : Md} {N : Nat} {ops : Array Oper} {rest : List Oper} {Γ : Env} {Q : Exit → Act → World → Prop} {d : Nat} {ty : TypeId} {pos : String} {af : Array Edge} {t : TypeId} {x y : Operand}
theorem Wl.loadM {w0 : World} {H : List Blk} {bt : TypeId} [TyC P t] {c j : Nat} {f : Nat → Int} (hd : Nat.blt d N = true) (hx : ev Γ x = some (.pointer (some ⟨c,j,none⟩))) (hm : (⟨c,memC f,bt⟩ : Blk) ∈ H) (hj : j < 65536)
  (h : Wl rest P md ops N ((d,.int .u8 (f j)) :: Γ) (Hp w0 H) Q) : Wl (⟨some d,.load t x,ty,pos,af,none⟩ :: rest) P md ops N Γ (Hp w0 H) Q := Wl.loadH hd hx hm (memC_get hj) h
theorem Wl.storeM {w0 : World} {H H' : List Blk} {bt by_ : TypeId} [TyS P t 1 by_] {c j : Nat} {v : Int} {f : Nat → Int} (hx : ev Γ x = some (.pointer (some ⟨c,j,none⟩))) (hy : ev Γ y = some (.int .u8 v)) (hs : HSet c (memC f) (memC (updI f j v)) bt H H') (hj : j < 65536)
  (h : Wl rest P .seq ops N Γ (Hp w0 H') Q) : Wl (⟨none,.store t x y,ty,pos,af,none⟩ :: rest) P .seq ops N Γ (Hp w0 H) Q := Wl.store hx hy rfl hs (memC_set hj) h
end
attribute [irreducible] memC
def loadX (f : Nat → Int) (a : Nat) : Nat → Int
 | 0 => 0
 | i + 1 => bits .or .u32 (loadX f a i) (IntKind.u32.wrap (IntKind.u32.wrap (f (a + i)) * 2 ^ min (Int.toNat (8 * (i : Int))) IntKind.u32.bits))
theorem loadX_succ (f : Nat → Int) (a i : Nat) : loadX f a (i + 1) = bits .or .u32 (loadX f a i) (IntKind.u32.wrap (IntKind.u32.wrap (f (a + i)) * 2 ^ min (Int.toNat (8 * (i : Int))) IntKind.u32.bits)) := rfl
def storeX (f : Nat → Int) (a : Nat) (x : Int) : Nat → Nat → Int
 | 0 => f
 | i + 1 => updI (storeX f a x i) (a + i) (IntKind.u8.wrap (x.fdiv (2 ^ min (Int.toNat (8 * (i : Int))) IntKind.u32.bits)))
end Go.Pt
namespace Go.Proofs.YtabbklpalbikdaaGreatDoor
open Go.RowKit Go.Pt
theorem zcells : Tryz.zeroCells156.toList = memC fun _ => 0 := isZ_all kt (by rw [Array.length_toList];exact Tryz.zeroCells156_size)
theorem tyP0 : TyP Tryz.prog 156 [(0,65536)] Tryz.zeroCells156.toList := ⟨by kernel_rfl⟩
instance tyPM : TyP Tryz.prog 156 [(0,65536)] (memC fun _ => 0) := zcells ▸ tyP0
theorem newMem (w : World) : Calls Tryz.prog 41 #[] w fun e w' => ∃ c,e = .returned (.pointer (some ⟨c,0,none⟩)) ∧ Hp w [⟨c,memC fun _ => 0,156⟩] w' ∧ w.heap.size ≤ c := by
 refine enter (args := []) (Γ := []) Tryz.func41 Tryz.ntmps41 rfl odq .nil ?_
 repeat' first | refine Wl.assign rfl rfl ?_ | (apply Wl.buildS;exact rfl;exact kj;exact ka) | (apply Wl.boxA;exact rfl;exact rfl;intro c hc ho) | apply Wl.nil | apply St.seq | apply St.region | apply St.ret | apply Gt.next | (apply Gt.out1;exact rfl;exact rfl;intro w' hp) | (apply Wl.splitP;exact rfl;exact rfl;all_goals (intros;try (exfalso;omega))) | (apply Wl.splitB;exact rfl;exact rfl;all_goals intros) | (apply St.condP;exact rfl;all_goals (intros;try (exfalso;omega))) | (apply St.condB;exact rfl;all_goals intros)
 exact ⟨_,rfl,hp,by assumption⟩
theorem within_mem (a n b m : Int) (w : World) (ha : 0 ≤ a ∧ a < 4294967296) (hn : 0 ≤ n ∧ n < 4294967296) (hb : 0 ≤ b ∧ b < 4294967296) (hm : 0 ≤ m ∧ m < 4294967296) :
  Calls Tryz.prog 127 #[.int .u32 a,.int .u32 n,.int .u32 b,.int .u32 m] w fun e w' => e = .returned (.bool (decide (b ≤ a ∧ a + n ≤ b + m))) ∧ Hp w [] w' := by
 refine enter (args := [_,_,_,_]) (Γ := [(0,_),(1,_),(2,_),(3,_)]) Tryz.func127 Tryz.ntmps127 rfl odq (.cons rfl (.cons rfl (.cons rfl (.cons rfl .nil)))) ?_
 repeat' first | refine Wl.move rfl rfl ?_ | refine Wl.assign rfl rfl ?_ | (apply Wl.on;exact rfl;exact rfl;exact k5) | (apply Wl.off;exact rfl;exact rfl;exact rfl;exact kh) | (apply Wl.pickT;exact rfl;exact rfl;exact k5;exact rfl) | (apply Wl.pickF;exact rfl;exact rfl;exact k5;exact rfl) | refine Wl.leq rfl rfl rfl ?_ | refine Wl.geq rfl rfl rfl ?_ | (refine Wl.addU rfl rfl rfl ?_ ?_;constructor <;> omega) | (refine Wl.convU64 rfl rfl ?_ ?_;constructor <;> omega) | apply Wl.nil | apply St.seq | apply St.region | apply St.ret | apply Gt.next | (apply Gt.out1;exact rfl;exact rfl;intro w' hp) | (apply Wl.splitP;exact rfl;exact rfl;all_goals (intros;try (exfalso;omega))) | (apply Wl.splitB;exact rfl;exact rfl;all_goals intros) | (apply St.condP;exact rfl;all_goals (intros;try (exfalso;omega))) | (apply St.condB;exact rfl;all_goals intros)
 ·rename_i h1 _
  exact ⟨by simp [h1],hp⟩
 ·rename_i h1 _
  exact ⟨by simp [h1],hp⟩
theorem has_any (c : Nat) (a n : Int) (w : World) (ha : 0 ≤ a ∧ a < 4294967296) (hn : 0 ≤ n ∧ n < 4294967296) :
  Calls Tryz.prog 76 #[.pointer (some ⟨c,0,none⟩),.int .u32 a,.int .u32 n] w fun e w' => e = .returned (.bool (decide (2147483648 ≤ a ∧ a + n ≤ 2147483648 + 65536))) ∧ Hp w [] w' := by
 refine enter (args := [_,_,_]) (Γ := [(0,_),(1,_),(2,_)]) Tryz.func76 Tryz.ntmps76 rfl odq (.cons rfl (.cons rfl (.cons rfl .nil))) ?_
 repeat' first | refine Wl.move rfl rfl ?_ | refine Wl.assign rfl rfl ?_ | (apply Wl.on;exact rfl;exact rfl;exact k5) | refine Wl.neqPN rfl rfl rfl ?_ | apply Wl.nil | apply St.seq | apply St.region | apply Gt.next | (apply Wl.splitP;exact rfl;exact rfl;all_goals (intros;try (exfalso;omega))) | (apply Wl.splitB;exact rfl;exact rfl;all_goals intros) | (apply St.condP;exact rfl;all_goals (intros;try (exfalso;omega))) | (apply St.condB;exact rfl;all_goals intros)
 apply Wl.callQ
 exact rfl
 (focus repeat constructor)
 ·intro wq hq
  exact hq.q (within_mem a n 2147483648 65536 wq ha hn ku ku)
 repeat' first | refine Wl.assign rfl rfl ?_ | (apply Wl.pickT;exact rfl;exact rfl;exact k5;exact rfl) | apply Wl.nil | apply St.ret | apply Gt.next | (apply Gt.out1;exact rfl;exact rfl;intro w' hp) | (apply Wl.splitP;exact rfl;exact rfl;all_goals (intros;try (exfalso;omega))) | (apply Wl.splitB;exact rfl;exact rfl;all_goals intros) | (apply St.condP;exact rfl;all_goals (intros;try (exfalso;omega))) | (apply St.condB;exact rfl;all_goals intros)
 exact ⟨rfl,hp⟩
def W124 (n : Int) : Prop := n = 1 ∨ n = 2 ∨ n = 4
theorem mload (c : Nat) (a n : Int) (f : Nat → Int) (w : World) (ha : 0 ≤ a ∧ a < 4294967296) (hn : W124 n) (hc : w.heap[c]? = some (.cells (memC f).toArray 156 (0,0))) :
  Calls Tryz.prog 114 #[.pointer (some ⟨c,0,none⟩),.int .u32 a,.int .i64 n] w fun e w' => e = .returned (if 2147483648 ≤ a ∧ a + n ≤ 2147483648 + 65536 then .tuple #[.int .u32 (loadX f (a - 2147483648).toNat n.toNat),.int .i64 0] else .tuple #[.int .u32 0,.int .i64 18]) ∧ Hp w [] w' := by
 unfold W124 at hn
 refine enter (args := [_,_,_]) (Γ := [(0,_),(1,_),(2,_)]) Tryz.func114 Tryz.ntmps114 rfl odq (.cons rfl (.cons rfl (.cons rfl .nil))) ?_
 refine St.cls (C' := Hp w [⟨c,memC f,156⟩]) (fun _ h' => Hp.open h' hc) ?_
 repeat' first | refine Wl.move rfl rfl ?_ | refine Wl.assign rfl rfl ?_ | (apply Wl.on;exact rfl;exact rfl;exact k5) | (apply Wl.off;exact rfl;exact rfl;exact rfl;exact kh) | (apply Wl.pickT;exact rfl;exact rfl;exact k5;exact rfl) | (apply Wl.pickF;exact rfl;exact rfl;exact k5;exact rfl) | refine Wl.neq rfl rfl rfl ?_ | (refine Wl.convU32 rfl rfl ?_ ?_;constructor <;> omega) | apply Wl.nil | apply St.seq | apply St.region | apply Gt.next | (apply Wl.splitP;exact rfl;exact rfl;all_goals (intros;try (exfalso;omega))) | (apply Wl.splitB;exact rfl;exact rfl;all_goals intros) | (apply St.condP;exact rfl;all_goals (intros;try (exfalso;omega))) | (apply St.condB;exact rfl;all_goals intros)
 all_goals
  apply Wl.callQ
  exact rfl
  (focus repeat constructor)
  ·intro wq hq
   exact hq.q (has_any c a n wq ha qx)
  by_cases hh : 2147483648 ≤ a ∧ a + n ≤ 2147483648 + 65536
  ·rw [decide_eq_true hh,if_pos hh]
   repeat' first | refine Wl.move rfl rfl ?_ | refine Wl.assign rfl rfl ?_ | (apply Wl.on;exact rfl;exact rfl;exact k5) | (apply Wl.pickF;exact rfl;exact rfl;exact k5;exact rfl) | refine Wl.not rfl rfl ?_ | apply Wl.nil | apply St.seq | apply St.block | apply St.region | (apply St.condF;exact rfl;exact k5) | apply St.skip | apply Gt.next | (apply Wl.splitP;exact rfl;exact rfl;all_goals (intros;try (exfalso;omega))) | (apply Wl.splitB;exact rfl;exact rfl;all_goals intros) | (apply St.condP;exact rfl;all_goals (intros;try (exfalso;omega))) | (apply St.condB;exact rfl;all_goals intros)
   refine St.loop (σ := Nat) (fun i => (i : Int) ≤ n) (fun i => [(29,.int .i64 i),(28,.int .i64 n),(8,.int .u32 (loadX f (a - 2147483648).toNat i)),(0,.pointer (some ⟨c,0,none⟩)),(1,.int .u32 a)])
    (fun _ => Hp w [⟨c,memC f,156⟩]) (fun i => n.toNat - i) 0 (by show ((0 : Nat) : Int) ≤ n;omega) kq (fun _ h => h) ?_
   intro i hi
   by_cases hlt : (i : Int) < n
   ·repeat' first | (apply Wl.loadM;exact rfl;exact rfl;exact kd;omega) | (refine Wl.sub32 rfl rfl rfl ?_ ?_;constructor <;> omega) | (refine Wl.add32 rfl rfl rfl ?_ ?_;constructor <;> omega) | refine Wl.move rfl rfl ?_ | refine Wl.assign rfl rfl ?_ | refine Wl.nilCheck rfl rfl ?_ | refine Wl.fieldAddr0 rfl rfl ?_ | refine Wl.lss rfl rfl rfl ?_ | (refine Wl.addI rfl rfl rfl ?_ ?_;constructor <;> omega) | (refine Wl.mulI rfl rfl rfl ?_ ?_;constructor <;> omega) | refine Wl.or rfl rfl rfl ?_ | (refine Wl.shl rfl rfl rfl ?_ ?_;omega) | (refine Wl.convU32 rfl rfl ?_ ?_;constructor <;> omega) | refine Wl.convI rfl rfl ?_ | (refine Wl.indexArr rfl rfl rfl ?_ ?_;constructor <;> omega) | apply Wl.nil | apply St.seq | apply St.block | apply St.region | apply St.skip | apply Gt.next | apply Gt.inNormal | (apply Wl.splitP;exact rfl;exact rfl;all_goals (intros;try (exfalso;omega))) | (apply Wl.splitB;exact rfl;exact rfl;all_goals intros) | (apply St.condP;exact rfl;all_goals (intros;try (exfalso;omega))) | (apply St.condB;exact rfl;all_goals intros)
    apply Gt.round (i + 1)
    rotate_left
    ·omega
    ·rw [loadX_succ,show (a - 2147483648).toNat + i = 0 + (a - 2147483648 + (i : Int)).toNat * 1 by omega]
     (focus repeat constructor)
    ·exact fun _ h => h
    ·omega
   ·have hie : i = n.toNat := by omega
    subst hie
    repeat' first | refine Wl.move rfl rfl ?_ | refine Wl.assign rfl rfl ?_ | refine Wl.lss rfl rfl rfl ?_ | apply Wl.nil | apply St.seq | apply St.region | apply St.ret | apply St.exit | apply Gt.next | apply Gt.thenExit | apply Gt.inExit | (apply Gt.out2;exact rfl;exact rfl;exact rfl;intro w' hp) | (apply Wl.splitP;exact rfl;exact rfl;all_goals (intros;try (exfalso;omega))) | (apply Wl.splitB;exact rfl;exact rfl;all_goals intros) | (apply St.condP;exact rfl;all_goals (intros;try (exfalso;omega))) | (apply St.condB;exact rfl;all_goals intros)
    exact ⟨rfl,Hp.same hp hc⟩
  ·rw [decide_eq_false hh,if_neg hh]
   repeat' first | refine Wl.assign rfl rfl ?_ | (apply Wl.on;exact rfl;exact rfl;exact k5) | (apply Wl.pickF;exact rfl;exact rfl;exact k5;exact rfl) | refine Wl.not rfl rfl ?_ | apply Wl.nil | apply St.seq | apply St.region | (apply St.condT;exact rfl;exact k5) | apply St.ret | apply Gt.next | apply Gt.thenRet | (apply Gt.out2;exact rfl;exact rfl;exact rfl;intro w' hp) | (apply Wl.splitP;exact rfl;exact rfl;all_goals (intros;try (exfalso;omega))) | (apply Wl.splitB;exact rfl;exact rfl;all_goals intros) | (apply St.condP;exact rfl;all_goals (intros;try (exfalso;omega))) | (apply St.condB;exact rfl;all_goals intros)
   exact ⟨rfl,Hp.same hp hc⟩
theorem mstore (c : Nat) (a n x : Int) (f : Nat → Int) (w : World) (ha : 0 ≤ a ∧ a < 4294967296) (hn : W124 n) (hc : w.heap[c]? = some (.cells (memC f).toArray 156 (0,0))) :
  Calls Tryz.prog 51 #[.pointer (some ⟨c,0,none⟩),.int .u32 a,.int .i64 n,.int .u32 x] w fun e w' => (∃ v,e = .returned (.int .i64 v)) ∧ Hp w [⟨c,memC (if 2147483648 ≤ a ∧ a + n ≤ 2147483648 + 65536 then storeX f (a - 2147483648).toNat x n.toNat else f),156⟩] w' := by
 unfold W124 at hn
 refine enter (args := [_,_,_,_]) (Γ := [(0,_),(1,_),(2,_),(3,_)]) Tryz.func51 Tryz.ntmps51 rfl odq (.cons rfl (.cons rfl (.cons rfl (.cons rfl .nil)))) ?_
 refine St.cls (C' := Hp w [⟨c,memC f,156⟩]) (fun _ h' => Hp.open h' hc) ?_
 repeat' first | refine Wl.move rfl rfl ?_ | refine Wl.assign rfl rfl ?_ | (apply Wl.on;exact rfl;exact rfl;exact k5) | (apply Wl.off;exact rfl;exact rfl;exact rfl;exact kh) | (apply Wl.pickT;exact rfl;exact rfl;exact k5;exact rfl) | (apply Wl.pickF;exact rfl;exact rfl;exact k5;exact rfl) | refine Wl.neq rfl rfl rfl ?_ | (refine Wl.convU32 rfl rfl ?_ ?_;constructor <;> omega) | apply Wl.nil | apply St.seq | apply St.region | apply Gt.next | (apply Wl.splitP;exact rfl;exact rfl;all_goals (intros;try (exfalso;omega))) | (apply Wl.splitB;exact rfl;exact rfl;all_goals intros) | (apply St.condP;exact rfl;all_goals (intros;try (exfalso;omega))) | (apply St.condB;exact rfl;all_goals intros)
 all_goals
  apply Wl.callQ
  exact rfl
  (focus repeat constructor)
  ·intro wq hq
   exact hq.q (has_any c a n wq ha qx)
  by_cases hh : 2147483648 ≤ a ∧ a + n ≤ 2147483648 + 65536
  ·rw [decide_eq_true hh,if_pos hh]
   repeat' first | refine Wl.move rfl rfl ?_ | (apply Wl.on;exact rfl;exact rfl;exact k5) | (apply Wl.pickF;exact rfl;exact rfl;exact k5;exact rfl) | refine Wl.not rfl rfl ?_ | apply Wl.nil | apply St.seq | apply St.block | apply St.region | (apply St.condF;exact rfl;exact k5) | apply St.skip | apply Gt.next | (apply Wl.splitP;exact rfl;exact rfl;all_goals (intros;try (exfalso;omega))) | (apply Wl.splitB;exact rfl;exact rfl;all_goals intros) | (apply St.condP;exact rfl;all_goals (intros;try (exfalso;omega))) | (apply St.condB;exact rfl;all_goals intros)
   refine St.loop (σ := Nat) (fun i => (i : Int) ≤ n) (fun i => [(29,.int .i64 i),(28,.int .i64 n),(0,.pointer (some ⟨c,0,none⟩)),(1,.int .u32 a),(3,.int .u32 x)])
    (fun i => Hp w [⟨c,memC (storeX f (a - 2147483648).toNat x i),156⟩]) (fun i => n.toNat - i) 0 (by show ((0 : Nat) : Int) ≤ n;omega) kq (fun _ h => h) ?_
   intro i hi
   by_cases hlt : (i : Int) < n
   ·repeat' first | refine Wl.move rfl rfl ?_ | refine Wl.assign rfl rfl ?_ | refine Wl.lss rfl rfl rfl ?_ | apply Wl.nil | apply St.seq | apply St.block | apply St.region | apply St.skip | apply Gt.next | (apply Wl.splitP;exact rfl;exact rfl;all_goals (intros;try (exfalso;omega))) | (apply Wl.splitB;exact rfl;exact rfl;all_goals intros) | (apply St.condP;exact rfl;all_goals (intros;try (exfalso;omega))) | (apply St.condB;exact rfl;all_goals intros)
    refine St.tree (fun _ => True) mixed (fun _ h => ⟨Hp.drew h,trivial⟩) ?_
    refine Mt.pu 0 ?_
    repeat' first | refine Wl.move rfl rfl ?_ | apply Wl.nilM | (apply Wl.splitP;exact rfl;exact rfl;all_goals (intros;try (exfalso;omega))) | (apply Wl.splitB;exact rfl;exact rfl;all_goals intros) | (apply St.condP;exact rfl;all_goals (intros;try (exfalso;omega))) | (apply St.condB;exact rfl;all_goals intros)
    apply Mt.back
    refine Mt.pu 1 ?_
    repeat' first | refine Wl.move rfl rfl ?_ | apply Wl.nilM | (apply Wl.splitP;exact rfl;exact rfl;all_goals (intros;try (exfalso;omega))) | (apply Wl.splitB;exact rfl;exact rfl;all_goals intros) | (apply St.condP;exact rfl;all_goals (intros;try (exfalso;omega))) | (apply St.condB;exact rfl;all_goals intros)
    apply Mt.back
    refine Mt.pu 2 ?_
    repeat' first | (refine Wl.sub32 rfl rfl rfl ?_ ?_;constructor <;> omega) | apply Wl.nilM | (apply Wl.splitP;exact rfl;exact rfl;all_goals (intros;try (exfalso;omega))) | (apply Wl.splitB;exact rfl;exact rfl;all_goals intros) | (apply St.condP;exact rfl;all_goals (intros;try (exfalso;omega))) | (apply St.condB;exact rfl;all_goals intros)
    apply Mt.back
    refine Mt.pu 3 ?_
    repeat' first | refine Wl.move rfl rfl ?_ | apply Wl.nilM | (apply Wl.splitP;exact rfl;exact rfl;all_goals (intros;try (exfalso;omega))) | (apply Wl.splitB;exact rfl;exact rfl;all_goals intros) | (apply St.condP;exact rfl;all_goals (intros;try (exfalso;omega))) | (apply St.condB;exact rfl;all_goals intros)
    apply Mt.back
    refine Mt.pu 4 ?_
    repeat' first | (refine Wl.convU32 rfl rfl ?_ ?_;constructor <;> omega) | apply Wl.nilM | (apply Wl.splitP;exact rfl;exact rfl;all_goals (intros;try (exfalso;omega))) | (apply Wl.splitB;exact rfl;exact rfl;all_goals intros) | (apply St.condP;exact rfl;all_goals (intros;try (exfalso;omega))) | (apply St.condB;exact rfl;all_goals intros)
    apply Mt.back
    refine Mt.pu 5 ?_
    repeat' first | (refine Wl.add32 rfl rfl rfl ?_ ?_;constructor <;> omega) | apply Wl.nilM | (apply Wl.splitP;exact rfl;exact rfl;all_goals (intros;try (exfalso;omega))) | (apply Wl.splitB;exact rfl;exact rfl;all_goals intros) | (apply St.condP;exact rfl;all_goals (intros;try (exfalso;omega))) | (apply St.condB;exact rfl;all_goals intros)
    apply Mt.back
    refine Mt.pu 6 ?_
    repeat' first | refine Wl.move rfl rfl ?_ | apply Wl.nilM | (apply Wl.splitP;exact rfl;exact rfl;all_goals (intros;try (exfalso;omega))) | (apply Wl.splitB;exact rfl;exact rfl;all_goals intros) | (apply St.condP;exact rfl;all_goals (intros;try (exfalso;omega))) | (apply St.condB;exact rfl;all_goals intros)
    apply Mt.back
    refine Mt.pu 7 ?_
    repeat' first | refine Wl.move rfl rfl ?_ | apply Wl.nilM | (apply Wl.splitP;exact rfl;exact rfl;all_goals (intros;try (exfalso;omega))) | (apply Wl.splitB;exact rfl;exact rfl;all_goals intros) | (apply St.condP;exact rfl;all_goals (intros;try (exfalso;omega))) | (apply St.condB;exact rfl;all_goals intros)
    apply Mt.back
    refine Mt.pu 8 ?_
    repeat' first | (refine Wl.mulI rfl rfl rfl ?_ ?_;constructor <;> omega) | apply Wl.nilM | (apply Wl.splitP;exact rfl;exact rfl;all_goals (intros;try (exfalso;omega))) | (apply Wl.splitB;exact rfl;exact rfl;all_goals intros) | (apply St.condP;exact rfl;all_goals (intros;try (exfalso;omega))) | (apply St.condB;exact rfl;all_goals intros)
    apply Mt.back
    refine Mt.pu 9 ?_
    repeat' first | (refine Wl.shr rfl rfl rfl ?_ ?_;omega) | apply Wl.nilM | (apply Wl.splitP;exact rfl;exact rfl;all_goals (intros;try (exfalso;omega))) | (apply Wl.splitB;exact rfl;exact rfl;all_goals intros) | (apply St.condP;exact rfl;all_goals (intros;try (exfalso;omega))) | (apply St.condB;exact rfl;all_goals intros)
    apply Mt.back
    refine Mt.pu 10 ?_
    repeat' first | refine Wl.convI rfl rfl ?_ | apply Wl.nilM | (apply Wl.splitP;exact rfl;exact rfl;all_goals (intros;try (exfalso;omega))) | (apply Wl.splitB;exact rfl;exact rfl;all_goals intros) | (apply St.condP;exact rfl;all_goals (intros;try (exfalso;omega))) | (apply St.condB;exact rfl;all_goals intros)
    apply Mt.back
    refine Mt.pu 11 ?_
    repeat' first | refine Wl.nilCheck rfl rfl ?_ | apply Wl.nilM | (apply Wl.splitP;exact rfl;exact rfl;all_goals (intros;try (exfalso;omega))) | (apply Wl.splitB;exact rfl;exact rfl;all_goals intros) | (apply St.condP;exact rfl;all_goals (intros;try (exfalso;omega))) | (apply St.condB;exact rfl;all_goals intros)
    apply Mt.back
    refine Mt.pu 12 ?_
    repeat' first | refine Wl.fieldAddr0 rfl rfl ?_ | apply Wl.nilM | (apply Wl.splitP;exact rfl;exact rfl;all_goals (intros;try (exfalso;omega))) | (apply Wl.splitB;exact rfl;exact rfl;all_goals intros) | (apply St.condP;exact rfl;all_goals (intros;try (exfalso;omega))) | (apply St.condB;exact rfl;all_goals intros)
    apply Mt.back
    refine Mt.pu 13 ?_
    repeat' first | (refine Wl.indexArr rfl rfl rfl ?_ ?_;constructor <;> omega) | apply Wl.nilM | (apply Wl.splitP;exact rfl;exact rfl;all_goals (intros;try (exfalso;omega))) | (apply Wl.splitB;exact rfl;exact rfl;all_goals intros) | (apply St.condP;exact rfl;all_goals (intros;try (exfalso;omega))) | (apply St.condB;exact rfl;all_goals intros)
    apply Mt.back
    refine Mt.e1 14 ?_
    rw [show 0 + (a - 2147483648 + (i : Int)).toNat * 1 = (a - 2147483648).toNat + i by omega]
    apply Wl.storeM
    ·exact rfl
    ·exact rfl
    ·exact kd
    ·omega
    repeat' first | apply Wl.nil | (apply Wl.splitP;exact rfl;exact rfl;all_goals (intros;try (exfalso;omega))) | (apply Wl.splitB;exact rfl;exact rfl;all_goals intros) | (apply St.condP;exact rfl;all_goals (intros;try (exfalso;omega))) | (apply St.condB;exact rfl;all_goals intros)
    refine Mt.backE (fun _ h => trivial) ?_
    refine Mt.toGt kb ?_
    repeat' first | refine Wl.move rfl rfl ?_ | (refine Wl.addI rfl rfl rfl ?_ ?_;constructor <;> omega) | apply Wl.nil | apply St.region | apply Gt.next | apply Gt.inNormal | (apply Wl.splitP;exact rfl;exact rfl;all_goals (intros;try (exfalso;omega))) | (apply Wl.splitB;exact rfl;exact rfl;all_goals intros) | (apply St.condP;exact rfl;all_goals (intros;try (exfalso;omega))) | (apply St.condB;exact rfl;all_goals intros)
    apply Gt.round (i + 1)
    rotate_left
    ·omega
    ·exact kd
    ·exact fun _ h => h
    ·omega
   ·have hie : i = n.toNat := by omega
    subst hie
    repeat' first | refine Wl.assign rfl rfl ?_ | refine Wl.lss rfl rfl rfl ?_ | apply Wl.nil | apply St.seq | apply St.region | apply St.ret | apply St.exit | apply Gt.next | apply Gt.thenExit | apply Gt.inExit | (apply Gt.out1;exact rfl;exact rfl;intro w' hp) | (apply Wl.splitP;exact rfl;exact rfl;all_goals (intros;try (exfalso;omega))) | (apply Wl.splitB;exact rfl;exact rfl;all_goals intros) | (apply St.condP;exact rfl;all_goals (intros;try (exfalso;omega))) | (apply St.condB;exact rfl;all_goals intros)
    exact ⟨⟨_,rfl⟩,hp⟩
  ·rw [decide_eq_false hh,if_neg hh]
   repeat' first | refine Wl.assign rfl rfl ?_ | (apply Wl.on;exact rfl;exact rfl;exact k5) | (apply Wl.pickF;exact rfl;exact rfl;exact k5;exact rfl) | refine Wl.not rfl rfl ?_ | apply Wl.nil | apply St.seq | apply St.region | (apply St.condT;exact rfl;exact k5) | apply St.ret | apply Gt.next | apply Gt.thenRet | (apply Gt.out1;exact rfl;exact rfl;intro w' hp) | (apply Wl.splitP;exact rfl;exact rfl;all_goals (intros;try (exfalso;omega))) | (apply Wl.splitB;exact rfl;exact rfl;all_goals intros) | (apply St.condP;exact rfl;all_goals (intros;try (exfalso;omega))) | (apply St.condB;exact rfl;all_goals intros)
   exact ⟨⟨_,rfl⟩,hp⟩
set_option linter.unusedVariables false
end Go.Proofs.YtabbklpalbikdaaGreatDoor
end
section
namespace Go.Proofs.YtabbklpalbikdaaGreatDoor
end Go.Proofs.YtabbklpalbikdaaGreatDoor
end
theorem Go.nt0 {k : Nat} : ¬ ¬ Go.Pt.Off [] k := fun y => y trivial
