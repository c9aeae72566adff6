/-
  porticoref08.File: the bytes of a file of headers. Conditions: at most 8 headers, rights below 8, numbers that an int holds.
-/
import Derived.Test.YtcjikjadajmefaaJoin
import Derived.Test.YtcjikjadajmefaaElf
namespace Go.Pt
open Go.RowKit
theorem Hp.pop1 {w0 w : World} {x : Blk} {H : List Blk} (h : Hp w0 (x :: H) w) (hx : w0.heap.size ≤ x.b) : Hp w0 H w :=
  ⟨h.upd.mono fun k hk hs y => hs ⟨fun e => by omega, y⟩, h.own.2, h.apart.2⟩
/-- a load of a struct out of old memory -/
theorem Wl.loadAP {P : Program} {md : Md} {ops : Array Oper} {N : Nat} {rest : List Oper} {Γ : Env} {Q : Exit → Act → World → Prop} {d : Nat} {ty : TypeId} {pos : String} {af : Array Edge} {w0 : World} {H : List Blk} {t n : TypeId} [TyA P t n] {x : Operand} {b o : Nat} {xs : List Value}
    (hd : Nat.blt d N = true) (hx : ev Γ x = some (.pointer (some ⟨b, o, none⟩))) (hc : ∀ j v, xs[j]? = some v → w0.cell? ⟨b, o + j, none⟩ = some v) (ho : Off H b) (hn : xs.length = n)
    (h : Wl rest P md ops N ((d, .agg xs.toArray) :: Γ) (Hp w0 H) Q) : Wl (⟨some d, .load t x, ty, pos, af, none⟩ :: rest) P md ops N Γ (Hp w0 H) Q :=
  Wl.loadAF hd hx hn (fun w hw i v hv => by rw [addLit]; exact hw.old (hc i v hv) ho) h
/-! ### a byte literal that is converted to its own type: its block gets the run-time's mark -/
/-- old memory is as it was, but for marks of blocks of bytes from base on -/
structure ExtZ (T base : Nat) (w w' : World) : Prop where
  os : w'.os = w.os
  tape : w'.tape = w.tape
  output : w'.output = w.output
  size : w.heap.size ≤ w'.heap.size
  block : ∀ k, k < w.heap.size → w'.heap[k]? = w.heap[k]? ∨ (base ≤ k ∧ ∃ cs fr fr', w.heap[k]? = some (.cells cs T fr) ∧ w'.heap[k]? = some (.cells cs T fr'))
theorem ExtZ.ofUpd {T base : Nat} {w w' : World} (h : Ext w w') : ExtZ T base w w' := ⟨h.os, h.tape, h.output, h.size, fun k hk => .inl (h.block k hk id)⟩
theorem ExtZ.start {T base : Nat} (w0 w : World) (h : Hp w0 [] w) : ExtZ T base w0 w.drew := .ofUpd (Ext.start w0 w h)
theorem ExtZ.trans {T base : Nat} (a b c : World) (h : ExtZ T base a b) (k : ExtZ T base b c) : ExtZ T base a c := by
  refine ⟨k.os.trans h.os, k.tape.trans h.tape, k.output.trans h.output, Nat.le_trans h.size k.size, fun i hi => ?_⟩
  rcases h.block i hi with h1 | ⟨hb, cs, fr, fr', h1, h2⟩ <;> rcases k.block i (Nat.lt_of_lt_of_le hi h.size) with k1 | ⟨kb, cs', fs, fs', k1, k2⟩
  · exact .inl (k1.trans h1)
  · exact .inr ⟨kb, cs', fs, fs', h1 ▸ k1, k2⟩
  · exact .inr ⟨hb, cs, fr, fr', h1, k1.trans h2⟩
  · rw [h2] at k1; cases k1; exact .inr ⟨hb, cs, fr, fs', h1, k2⟩
theorem ExtZ.upd {T base : Nat} {w w' : World} (h : ExtZ T base w w') : Upd (fun k => base ≤ k) w w' := ⟨h.os, h.tape, h.output, h.size, fun k hk hn => (h.block k hk).elim id fun ⟨hb, _⟩ => (hn hb).elim⟩
theorem ExtZ.cell {T base : Nat} {w w' : World} (h : ExtZ T base w w') {p : Addr} {v : Value} (hc : w.cell? p = some v) : w'.cell? p = some v := by
  have hlt := World.block_lt_of_cell? w p hc
  rcases h.block p.block hlt with e | ⟨_, cs, fr, fr', h1, h2⟩
  · exact (World.cell?_of_block (w := w) e).trans hc
  · rw [← hc]
    unfold World.cell?
    rw [h1, h2]
theorem ExtZ.sv {T base : Nat} {w w' : World} (h : ExtZ T base w w') {sz n : Nat} {v : Value} {cs : List Value} (hv : Sv w sz n v cs) : Sv w' sz n v cs := by
  obtain ⟨hl, a, cap, rfl, h1, h2, h0, h3⟩ := hv
  refine ⟨hl, a, cap, rfl, h1, h2, h0, fun hne => ?_⟩
  obtain ⟨b, off, rfl, hc⟩ := h3 hne
  exact ⟨b, off, rfl, fun i hi => h.cell (hc i hi)⟩
theorem ExtZ.bs {T base : Nat} {w w' : World} (h : ExtZ T base w w') {v : Value} {l : List UInt8} (hv : Bs w v l) : Bs w' v l := h.sv hv
theorem ExtZ.own {T base : Nat} {w w' : World} (h : ExtZ T base w w') {b e sz n : Nat} {v : Value} {cs : List Value} (hT : e ≠ T) (hv : w.ownsRow b e sz v n cs) : w'.ownsRow b e sz v n cs := by
  obtain ⟨hl, hv⟩ := hv
  refine ⟨hl, ?_⟩
  rcases hv with hv | ⟨g, cap, cur, rfl, hb, hh, hx⟩
  · exact .inl hv
  · refine .inr ⟨g, cap, cur, rfl, hb, ?_, hx⟩
    rcases h.block g (lt_of_block hh) with e' | ⟨_, cs', fr, fr', h1, h2⟩
    · rw [e', hh]
    · rw [hh] at h1; cases h1; exact (hT rfl).elim
/-- the block c holds the bytes l, marked or not -/
def BLit (T base : Nat) (w : World) (v : Value) (l : List UInt8) : Prop := ∃ c fr, v = .slice (some ⟨c, 0, none⟩) l.length l.length ∧ base ≤ c ∧ l.length ≤ maxLen ∧ w.heap[c]? = some (.cells (byteCells l).toArray T fr)
theorem ExtZ.lit {T base : Nat} {w w' : World} (h : ExtZ T base w w') {v : Value} {l : List UInt8} (hv : BLit T base w v l) : BLit T base w' v l := by
  obtain ⟨c, fr, rfl, hb, hl, hh⟩ := hv
  rcases h.block c (lt_of_block hh) with e | ⟨_, cs, fs, fs', h1, h2⟩
  · exact ⟨c, fr, rfl, hb, hl, by rw [e, hh]⟩
  · rw [hh] at h1; cases h1; exact ⟨c, fs', rfl, hb, hl, h2⟩
theorem BLit.bs {T base : Nat} {w : World} {v : Value} {l : List UInt8} (h : BLit T base w v l) : Bs w v l := by
  obtain ⟨c, fr, rfl, _, hl, hh⟩ := h
  exact Bs.ofBlk hh hl
theorem run_conv_mark {P : Program} {w : World} {t e : TypeId} {c n m : Nat} {cs : Array Value} {fr : Nat × Nat} (ht : P.underlying t = some (.slice e)) (he : P.underlying e = some (.int .u8)) (h : w.heap[c]? = some (.cells cs e fr)) :
    ∃ w' fr', (convert t t (.slice (some ⟨c, 0, none⟩) n m)).run P w = .ok (.slice (some ⟨c, 0, none⟩) n m) w' ∧ w'.heap[c]? = some (.cells cs e fr') ∧ Upd (· = c) w w' := by
  have hsh : w.shape? c = some (e, cs.size) := by unfold World.shape?; rw [h]
  have hlt := lt_of_block h
  refine ⟨w.freeze ⟨c, cs.size, none⟩ 1, if fr.1 == fr.2 then (cs.size, cs.size + 1) else (min fr.1 cs.size, max fr.2 (cs.size + 1)), ?_, ?_, ?_⟩
  · simp [convert, run_underlying ht, run_underlying he, markStringish, hsh]
  · have h' : w.heap[c] = .cells cs e fr := by simpa [Array.getElem?_eq_getElem hlt] using h
    unfold World.freeze
    rw [if_neg (by decide)]
    show (w.heap.modify c _)[c]? = _
    rw [Array.getElem?_eq_getElem (by simpa using hlt), Array.getElem_modify_self, h']
  · refine ⟨rfl, rfl, rfl, by simp [World.freeze], fun k hk hs => ?_⟩
    unfold World.freeze
    rw [if_neg (by decide)]
    show (w.heap.modify c _)[k]? = _
    rw [Array.getElem?_modify, if_neg (fun e => hs e.symm)]
/-- .. as an operation of a bag -/
theorem Wl.convMark {P : Program} {N : Nat} {ops : Array Oper} {Γ : Env} {w1 : World} {d T base : Nat} {ty : TypeId} {pos : String} {af : Array Edge} {t : TypeId} {x : Operand} {v : Value} {l : List UInt8} {R : Value → World → Prop} [ht : TyD P t (.slice T)] [he : TyD P T (.int .u8)] (hd : Nat.blt d N = true)
    (hx : ev Γ x = some v) (hv : BLit T base w1 v l) (hR : ∀ w', BLit T base w' v l → R v w') : Wl [⟨some d, .convert t t x, ty, pos, af, none⟩] P .seq ops N Γ (Hp w1 []) (BagPost (ExtZ T base) N w1 d R) := by
  obtain ⟨c, fr, rfl, hb, hl, hh⟩ := hv
  refine Wl.eff fun a w ha hw => ?_
  have hhw : w.heap[c]? = some (.cells (byteCells l).toArray T fr) := hw.upd.heap hh fun y => y trivial
  obtain ⟨w', fr', hr, hc, hu⟩ := run_conv_mark (P := P) (w := w) (t := t) (n := l.length) (m := l.length) ht.out he.out hhw
  refine ⟨.slice (some ⟨c, 0, none⟩) l.length l.length, w', .inl ?_, rfl, ?_, _, (ha.put hd _).sub (.cons (by simp [look]) .nil), hR w' ⟨c, fr', rfl, hb, hl, hc⟩⟩
  · simp only [execOp, ha.ev hx]
    simp [hr]
  · refine (ExtZ.ofUpd (hw.upd.mono fun _ _ y => y trivial)).trans _ _ _ ⟨hu.os, hu.tape, hu.output, hu.size, fun k hk => ?_⟩
    by_cases e : k = c
    · subst e; exact .inr ⟨hb, _, fr, fr', hhw, hc⟩
    · exact .inl (hu.block k hk e)
theorem Gt.bagEnd {E : World → World → Prop} {N : Nat} {Γ : Env} {C : World → Prop} {d : Nat} {v : Value} {w1 : World} {R : Value → World → Prop} (hv : look Γ d = some v) (h : ∀ w', C w' → E w1 w' ∧ R v w') : Gt N .normal Γ C (BagPost E N w1 d R) :=
  Gt.intro fun a w ha hw => ⟨rfl, (h w hw).1, v, ha.sub (.cons hv .nil), (h w hw).2⟩
theorem Hp.ext {w0 w : World} (h : Hp w0 [] w) : Ext w0 w := h.upd.mono fun _ _ y => y trivial
theorem bag_call {w1 wq wr w' : World} (hq : Hp w1 [] wq) (hu : Upd (fun k => wq.heap.size ≤ k) wq wr) (h' : Hp wr [] w') : Ext w1 w' :=
  Ext.trans _ _ _ hq.ext (Ext.trans _ _ _ (hu.mono fun k hk y => by omega) h'.ext)
end Go.Pt

namespace Go.Proofs.Ytcjikjadajmefaa
open Go.RowKit Go.Pt
/-- a header of a file that is to be made -/
structure Hd where
  kind : Nat
  addr : Nat
  mem : Nat
  rights : Nat
def hdCells (x : Hd) : List Value := [.int .i64 x.kind, .int .i64 0, .int .i64 x.addr, .int .i64 0, .int .i64 x.mem, .int .i64 x.rights]
def flg (r : Nat) : Nat := r / 4 + r / 2 % 2 * 2 + r % 2 * 4
theorem flg_eq (r : Nat) (h : r ≤ 7) : IntKind.i64.wrap (IntKind.i64.wrap (IntKind.i64.wrap ((r : Int).tdiv 4) + IntKind.i64.wrap ((IntKind.i64.wrap ((r : Int).tdiv 2)).tmod 2 * 2)) + (r : Int).tmod 2 * 4) = (flg r : Int) := by
  have : r = 0 ∨ r = 1 ∨ r = 2 ∨ r = 3 ∨ r = 4 ∨ r = 5 ∨ r = 6 ∨ r = 7 := by omega
  rcases this with rfl | rfl | rfl | rfl | rfl | rfl | rfl | rfl <;> rfl
def rowN (x : Hd) (at_ n : Nat) : List Nat := [x.kind, at_, x.addr, x.addr, n, x.mem, flg x.rights, 4]
def offs (m : Nat) (ds : List (List UInt8)) (i : Nat) : Nat := 52 + 32 * m + (ds.take i).flatten.length
def rows (hs : List Hd) (ds : List (List UInt8)) (i : Nat) : List (List UInt8) :=
  (List.range i).flatMap fun j => (rowN (hs.getD j ⟨0, 0, 0, 0⟩) (offs hs.length ds j) (ds.getD j []).length).map (leB 4)
def topL (entry n : Nat) : List (List UInt8) := [elfIdent, leB 2 3, leB 2 243, leB 4 1, leB 4 entry, leB 4 52, leB 4 0, leB 4 0, leB 2 52, leB 2 32, leB 2 n, [0, 0, 0, 0, 0, 0]]
def fileL (entry : Nat) (hs : List Hd) (ds : List (List UInt8)) : List (List UInt8) := topL entry hs.length ++ rows hs ds hs.length ++ ds
def fileB (entry : Nat) (hs : List Hd) (ds : List (List UInt8)) : List UInt8 := (fileL entry hs ds).flatten
theorem rows_succ (hs : List Hd) (ds : List (List UInt8)) (i : Nat) : rows hs ds (i + 1) = rows hs ds i ++ (rowN (hs.getD i ⟨0, 0, 0, 0⟩) (offs hs.length ds i) (ds.getD i []).length).map (leB 4) := by
  simp [rows, List.range_succ]
theorem flat6 {α : Type} {g : α → List Value} (hg : ∀ x, (g x).length = 6) {xs : List α} {i j : Nat} {x : α} (hi : xs[i]? = some x) (hj : j < 6) : (xs.flatMap g)[i * 6 + j]? = (g x)[j]? := by
  induction xs generalizing i with
  | nil => simp at hi
  | cons y ys ih =>
    rw [List.flatMap_cons]
    cases i with
    | zero =>
      simp only [List.getElem?_cons_zero, Option.some.injEq] at hi
      subst hi
      rw [List.getElem?_append_left (by rw [hg]; omega)]
      congr 1; omega
    | succ i =>
      rw [List.getElem?_append_right (by rw [hg]; omega), hg]
      rw [List.getElem?_cons_succ] at hi
      rw [← ih hi]
      congr 1; omega
theorem rows_len (hs : List Hd) (ds : List (List UInt8)) (i : Nat) : (rows hs ds i).length = 8 * i := by
  induction i with
  | zero => rfl
  | succ i ih => rw [rows_succ, List.length_append, ih]; simp [rowN]; omega
theorem rows_flat (hs : List Hd) (ds : List (List UInt8)) (i : Nat) : (rows hs ds i).flatten.length = 32 * i := by
  induction i with
  | zero => rfl
  | succ i ih => rw [rows_succ, List.flatten_append, List.length_append, ih]; simp [rowN, leB_length]; omega
theorem Bo.less {w : World} {base base' : Nat} {v : Value} {l : List UInt8} (h : Bo w base v l) (hb : base' ≤ base) : Bo w base' v l := by
  obtain ⟨h1, h2⟩ := h
  refine ⟨h1, ?_⟩
  rcases h2 with h2 | ⟨g, cap, cur, rfl, hg, hx⟩
  · exact .inl h2
  · exact .inr ⟨g, cap, cur, rfl, Nat.le_trans hb hg, hx⟩
/-- the list of pieces under construction: its own block from base on, each piece reads -/
def Out (base : Nat) (w : World) (v : Value) (ls : List (List UInt8)) : Prop :=
  ∃ vs : List Value, vs.length = ls.length ∧ w.ownsRow base 22 1 v vs.length vs ∧ (∀ (i : Nat) (x : Value) (l : List UInt8), vs[i]? = some x → ls[i]? = some l → Bs w x l ∧ ∀ k, x.ownBlock = some k → l ≠ [] → v.ownBlock ≠ some k) ∧ vs.all Value.oneCell' = true
theorem Out.bss {base : Nat} {w : World} {v : Value} {ls : List (List UInt8)} (h : Out base w v ls) : Bss w v ls := by
  obtain ⟨vs, h1, h2, h3, _⟩ := h
  exact ⟨vs, h1, Sv.ofOwn h2, fun i x l hx hl => (h3 i x l hx hl).1⟩
theorem Out.extz {T base b : Nat} {w w' : World} {v : Value} {ls : List (List UInt8)} (h : Out b w v ls) (e : ExtZ T base w w') (hT : 22 ≠ T) : Out b w' v ls := by
  obtain ⟨vs, h1, h2, h3, h4⟩ := h
  exact ⟨vs, h1, e.own hT h2, fun i x l hx hl => ⟨e.bs (h3 i x l hx hl).1, (h3 i x l hx hl).2⟩, h4⟩
theorem Bs.inH' {w : World} {v : Value} {l : List UInt8} (h : Bs w v l) (hne : l ≠ []) : ∀ k, v.ownBlock = some k → k < w.heap.size := by
  obtain ⟨a, cap, rfl, _, _⟩ := h.shape
  obtain ⟨b, off, rfl, hc⟩ := h.cells hne
  intro k hk
  cases hk
  have := World.block_lt_of_cell? w _ (hc 0 (by cases l with | nil => exact (hne rfl).elim | cons x r => simp))
  exact this
theorem Out.upd {S : Nat → Prop} {base : Nat} {w w' : World} {v : Value} {ls : List (List UInt8)} (h : Out base w v ls) (u : Upd S w w') (hs : ∀ k, S k → k < w.heap.size → False) : Out base w' v ls := by
  obtain ⟨vs, h1, h2, h3, h4⟩ := h
  refine ⟨vs, h1, ownsRow_upd h2 u fun k hk y => hs k y (h2.lt k hk).2, fun i x l hx hl => ?_, h4⟩
  obtain ⟨a1, a2⟩ := h3 i x l hx hl
  exact ⟨a1.upd u fun k _ hk _ y => hs k y hk, a2⟩
/-- one more piece -/
theorem Out.snoc {base : Nat} {w w' : World} {v v' y : Value} {ls : List (List UInt8)} {l : List UInt8} {vs : List Value} (h1 : vs.length = ls.length)
    (h3 : ∀ (i : Nat) (x : Value) (l : List UInt8), vs[i]? = some x → ls[i]? = some l → Bs w x l ∧ ∀ k, x.ownBlock = some k → l ≠ [] → v.ownBlock ≠ some k) (h4 : vs.all Value.oneCell' = true) (hy1 : y.oneCell' = true)
    (hy : Bs w y l) (hyo : ∀ k, y.ownBlock = some k → l ≠ [] → v.ownBlock ≠ some k) (ho : w'.ownsRow base 22 1 v' (vs.length + 1) (vs ++ [y])) (u : Upd (fun k => v.ownBlock = some k) w w')
    (hk : ∀ k, v'.ownBlock = some k → v.ownBlock = some k ∨ w.heap.size ≤ k) : Out base w' v' (ls ++ [l]) := by
  refine ⟨vs ++ [y], by simp [h1], by rw [List.length_append]; exact ho, fun i x m hx hm => ?_, by simp [List.all_append, h4, hy1]⟩
  have key : Bs w x m → (∀ k, x.ownBlock = some k → m ≠ [] → v.ownBlock ≠ some k) → Bs w' x m ∧ ∀ k, x.ownBlock = some k → m ≠ [] → v'.ownBlock ≠ some k := fun a1 a2 =>
    ⟨a1.upd u fun k hk _ hne => a2 k hk hne, fun k hxk hne e => (hk k e).elim (a2 k hxk hne) fun hle => by have := Bs.inH' a1 hne k hxk; omega⟩
  rcases Nat.lt_or_ge i vs.length with hi | hi
  · rw [List.getElem?_append_left hi] at hx
    rw [List.getElem?_append_left (by omega)] at hm
    obtain ⟨a1, a2⟩ := h3 i x m hx hm
    exact key a1 a2
  · have hi' : i = vs.length := by
      have := (List.getElem?_eq_some_iff.1 hx).1
      rw [List.length_append, List.length_singleton] at this
      omega
    subst hi'
    rw [List.getElem?_append_right (Nat.le_refl _), Nat.sub_self] at hx
    rw [h1, List.getElem?_append_right (Nat.le_refl _), Nat.sub_self] at hm
    simp only [List.getElem?_cons_zero, Option.some.injEq] at hx hm
    subst hx; subst hm
    exact key hy hyo

inductive BssL (w : World) : List Value → List (List UInt8) → Prop
  | nil : BssL w [] []
  | cons {v : Value} {l : List UInt8} {vs : List Value} {ls : List (List UInt8)} (h : Bs w v l) (hs : BssL w vs ls) : BssL w (v :: vs) (l :: ls)
theorem BssL.out {w : World} {vs : List Value} {ls : List (List UInt8)} (h : BssL w vs ls) : vs.length = ls.length ∧ ∀ (i : Nat) (x : Value) (l : List UInt8), vs[i]? = some x → ls[i]? = some l → Bs w x l := by
  induction h with
  | nil => exact ⟨rfl, fun i x l hx _ => by simp at hx⟩
  | @cons v l vs ls h hs ih =>
    refine ⟨by simp [ih.1], fun i x m hx hm => ?_⟩
    cases i with
    | zero => simp only [List.getElem?_cons_zero, Option.some.injEq] at hx hm; subst hx; subst hm; exact h
    | succ i => exact ih.2 i x m (by simpa using hx) (by simpa using hm)
/-- a composite literal of pieces, just laid -/
theorem Out.lit {base c n : Nat} {w1 w' : World} {vs : List Value} {ls : List (List UInt8)} (h : BssL w1 vs ls) (hp : Hp w1 [⟨c, vs, 22⟩] w') (hc : w1.heap.size ≤ c) (hb : base ≤ w1.heap.size) (hn : vs.length = n) (h16 : n ≤ 1000) :
    Out base w' (.slice (some ⟨c, 0, none⟩) n n) ls := by
  subst hn
  refine ⟨vs, h.out.1, ⟨by simp, .inr ⟨c, _, _, rfl, Nat.le_trans hb hc, hp.own.1, Nat.le_refl _, by unfold maxLen; omega, by simp, by simp⟩⟩, fun i x l hx hl => ?_, ?_⟩
  · have h1 := h.out.2 i x l hx hl
    exact ⟨h1.upd hp.upd fun k _ hk _ y => y (off1 (by omega)), fun k hk hne e => by have := Bs.inH' h1 hne k hk; simp only [Value.ownBlock, Option.some.injEq] at e; omega⟩
  · rw [List.all_eq_true]
    intro x hx
    obtain ⟨i, hi, rfl⟩ := List.getElem_of_mem hx
    obtain ⟨_, _, e, _⟩ := (h.out.2 i vs[i] (ls[i]'(h.out.1 ▸ hi)) (List.getElem?_eq_getElem hi) (List.getElem?_eq_getElem (h.out.1 ▸ hi))).shape
    rw [e]; rfl

set_option maxHeartbeats 1000000 in
theorem file_any (entry : Nat) (vh vd : Value) (hs : List Hd) (ds : List (List UInt8)) (w : World) (he : entry ≤ 4294967295) (hh : Sv w 6 hs.length vh (hs.flatMap hdCells)) (hd : Bss w vd ds) (hlen : ds.length = hs.length) (hn : hs.length ≤ 8)
    (hb : ds.flatten.length ≤ 1000000) (hr : ∀ x ∈ hs, x.rights ≤ 7 ∧ x.mem ≤ 1099511627776 ∧ x.kind ≤ 3 ∧ x.addr ≤ 4294967295) :
    Calls Try.prog 13 #[.int .i64 entry, vh, vd] w fun e w' => ∃ v, e = .returned v ∧ Bo w' w.heap.size v (fileB entry hs ds) ∧ Upd (fun k => w.heap.size ≤ k) w w' := by
  obtain ⟨_, ah, ch, rfl, hch1, hch2, _, hcellh⟩ := hh
  obtain ⟨vs, hvl, ⟨_, ad, cd, rfl, hcd1, hcd2, _, hcelld⟩, hbs⟩ := hd
  unfold maxLen at hch2 hcd2
  refine enter (args := [_, _, _]) (Γ := [(0, _), (1, _), (2, _)]) Try.func13 Try.ntmps13 rfl (of_decide_eq_true rfl) (.cons rfl (.cons rfl (.cons rfl .nil))) ?_
  repeat' (first | (apply Wl.assign; exact rfl; exact rfl) | (apply Wl.nil) | (apply St.seq) | (apply St.region) | (apply Gt.next) | (apply Wl.splitP; exact rfl; exact rfl; all_goals (intros; try (exfalso; omega))) | (apply Wl.splitB; exact rfl; exact rfl; all_goals intros) | (apply St.condP; exact rfl; all_goals (intros; try (exfalso; omega))) | (apply St.condB; exact rfl; all_goals intros))
  apply St.base
  intro w0 h0
  have hw0 : Ext w w0 := h0.upd.mono fun _ _ y => y trivial
  apply St.bag (ExtZ 5 w.heap.size) ExtZ.trans (fun w' h => ExtZ.start _ w' h) [fun v w' => BLit 5 w.heap.size w' v elfIdent, fun v w' => Bs w' v elfIdent, fun v w' => Bs w' v (leB 2 3), fun v w' => Bs w' v (leB 2 243), fun v w' => Bs w' v (leB 4 1),
    fun v w' => v = .int .i64 entry, fun v w' => Bs w' v (leB 4 entry), fun v w' => Bs w' v (leB 4 52), fun v w' => Bs w' v (leB 4 0), fun v w' => Bs w' v (leB 4 0), fun v w' => Bs w' v (leB 2 52), fun v w' => Bs w' v (leB 2 32),
    fun v w' => v = .slice ah hs.length ch, fun v w' => v = .int .i64 hs.length, fun v w' => Bs w' v (leB 2 hs.length), fun v w' => Bs w' v [0, 0, 0, 0, 0, 0], fun v w' => Out w.heap.size w' v (topL entry hs.length), fun v w' => Out w.heap.size w' v (topL entry hs.length)] [17]
  · exact mixed
  · kernel_rfl
  · refine .cons ?_ (.cons ?_ (.cons ?_ (.cons ?_ (.cons ?_ (.cons ?_ (.cons ?_ (.cons ?_ (.cons ?_ (.cons ?_ (.cons ?_ (.cons ?_ (.cons ?_ (.cons ?_ (.cons ?_ (.cons ?_ (.cons ?_ (.cons ?_ .nil)))))))))))))))))
    all_goals intro v w1 w2 e h
    all_goals first | exact e.lit h | exact e.bs h | exact h | exact h.extz e (by decide)
  · rfl
  · apply BagOps.cons
    · intro w1 e1
      change Wl [_] _ _ _ _ _ _ _
      repeat' (first | (apply Wl.lit; exact rfl; (repeat (first | exact Parts.nil | apply Parts.cons rfl)); exact rfl; exact rfl; (repeat (first | apply CatP.nil | (apply CatP.one; exact rfl; exact rfl) | (apply CatP.agg; exact rfl) | apply LApp.nil | apply LApp.cons)); intro c hc ho) | (apply Wl.nil) | (apply Wl.splitP; exact rfl; exact rfl; all_goals (intros; try (exfalso; omega))) | (apply Wl.splitB; exact rfl; exact rfl; all_goals intros) | (apply St.condP; exact rfl; all_goals (intros; try (exfalso; omega))) | (apply St.condB; exact rfl; all_goals intros))
      apply Gt.bagEnd
      · exact rfl
      · exact fun w' h' => ⟨.ofUpd (h'.drop (by simp; omega)).ext, c, (0, 0), rfl, by have := hw0.size; have := e1.size; omega, by decide, h'.own.1⟩
    apply BagOps.cons
    · intro w1 e1 v1 h1
      change Wl [_] _ _ _ _ _ _ _
      have h1 : BLit 5 w.heap.size w1 v1 elfIdent := h1
      apply Wl.convMark
      · exact rfl
      · exact rfl
      · exact h1
      · exact fun w' h' => h'.bs
    apply BagOps.cons
    · intro w1 e1
      repeat intro _
      change Wl [_] _ _ _ _ _ _ _
      apply Wl.call
      exact rfl
      (repeat (first | exact Evs.nil | apply Evs.cons rfl))
      intro wq hq
      refine (put_any 2 3 (by decide) (by decide) wq).mono ?_
      rintro e wr ⟨v, rfl, hb, hu⟩
      refine ⟨_, rfl, ?_⟩
      repeat' (first | (apply Wl.nil) | (apply Wl.splitP; exact rfl; exact rfl; all_goals (intros; try (exfalso; omega))) | (apply Wl.splitB; exact rfl; exact rfl; all_goals intros) | (apply St.condP; exact rfl; all_goals (intros; try (exfalso; omega))) | (apply St.condB; exact rfl; all_goals intros))
      apply Gt.bagEnd
      · exact rfl
      · exact fun w' h' => ⟨.ofUpd (bag_call hq hu h'), hb.bs.upd h'.upd fun _ _ _ _ y => y trivial⟩
    apply BagOps.cons
    · intro w1 e1
      repeat intro _
      change Wl [_] _ _ _ _ _ _ _
      apply Wl.call
      exact rfl
      (repeat (first | exact Evs.nil | apply Evs.cons rfl))
      intro wq hq
      refine (put_any 2 243 (by decide) (by decide) wq).mono ?_
      rintro e wr ⟨v, rfl, hb, hu⟩
      refine ⟨_, rfl, ?_⟩
      repeat' (first | (apply Wl.nil) | (apply Wl.splitP; exact rfl; exact rfl; all_goals (intros; try (exfalso; omega))) | (apply Wl.splitB; exact rfl; exact rfl; all_goals intros) | (apply St.condP; exact rfl; all_goals (intros; try (exfalso; omega))) | (apply St.condB; exact rfl; all_goals intros))
      apply Gt.bagEnd
      · exact rfl
      · exact fun w' h' => ⟨.ofUpd (bag_call hq hu h'), hb.bs.upd h'.upd fun _ _ _ _ y => y trivial⟩
    apply BagOps.cons
    · intro w1 e1
      repeat intro _
      change Wl [_] _ _ _ _ _ _ _
      apply Wl.call
      exact rfl
      (repeat (first | exact Evs.nil | apply Evs.cons rfl))
      intro wq hq
      refine (put_any 4 1 (by decide) (by decide) wq).mono ?_
      rintro e wr ⟨v, rfl, hb, hu⟩
      refine ⟨_, rfl, ?_⟩
      repeat' (first | (apply Wl.nil) | (apply Wl.splitP; exact rfl; exact rfl; all_goals (intros; try (exfalso; omega))) | (apply Wl.splitB; exact rfl; exact rfl; all_goals intros) | (apply St.condP; exact rfl; all_goals (intros; try (exfalso; omega))) | (apply St.condB; exact rfl; all_goals intros))
      apply Gt.bagEnd
      · exact rfl
      · exact fun w' h' => ⟨.ofUpd (bag_call hq hu h'), hb.bs.upd h'.upd fun _ _ _ _ y => y trivial⟩
    apply BagOps.cons
    · intro w1 e1
      repeat intro _
      change Wl [_] _ _ _ _ _ _ _
      repeat' (first | (apply Wl.move; exact rfl; exact rfl) | (apply Wl.nil) | (apply Wl.splitP; exact rfl; exact rfl; all_goals (intros; try (exfalso; omega))) | (apply Wl.splitB; exact rfl; exact rfl; all_goals intros) | (apply St.condP; exact rfl; all_goals (intros; try (exfalso; omega))) | (apply St.condB; exact rfl; all_goals intros))
      apply Gt.bagEnd
      · exact rfl
      · exact fun w' h' => ⟨.ofUpd (h'.upd.mono fun _ _ y => y trivial), rfl⟩
    apply BagOps.cons
    · intro w1 e1
      intro v1 h1
      have h1 : v1 = .int .i64 entry := h1
      subst h1
      repeat intro _
      change Wl [_] _ _ _ _ _ _ _
      apply Wl.call
      exact rfl
      (repeat (first | exact Evs.nil | apply Evs.cons rfl))
      intro wq hq
      refine (put_any 4 entry (by decide) (by omega) wq).mono ?_
      rintro e wr ⟨v, rfl, hb, hu⟩
      refine ⟨_, rfl, ?_⟩
      repeat' (first | (apply Wl.nil) | (apply Wl.splitP; exact rfl; exact rfl; all_goals (intros; try (exfalso; omega))) | (apply Wl.splitB; exact rfl; exact rfl; all_goals intros) | (apply St.condP; exact rfl; all_goals (intros; try (exfalso; omega))) | (apply St.condB; exact rfl; all_goals intros))
      apply Gt.bagEnd
      · exact rfl
      · exact fun w' h' => ⟨.ofUpd (bag_call hq hu h'), hb.bs.upd h'.upd fun _ _ _ _ y => y trivial⟩
    apply BagOps.cons
    · intro w1 e1
      repeat intro _
      change Wl [_] _ _ _ _ _ _ _
      apply Wl.call
      exact rfl
      (repeat (first | exact Evs.nil | apply Evs.cons rfl))
      intro wq hq
      refine (put_any 4 52 (by decide) (by decide) wq).mono ?_
      rintro e wr ⟨v, rfl, hb, hu⟩
      refine ⟨_, rfl, ?_⟩
      repeat' (first | (apply Wl.nil) | (apply Wl.splitP; exact rfl; exact rfl; all_goals (intros; try (exfalso; omega))) | (apply Wl.splitB; exact rfl; exact rfl; all_goals intros) | (apply St.condP; exact rfl; all_goals (intros; try (exfalso; omega))) | (apply St.condB; exact rfl; all_goals intros))
      apply Gt.bagEnd
      · exact rfl
      · exact fun w' h' => ⟨.ofUpd (bag_call hq hu h'), hb.bs.upd h'.upd fun _ _ _ _ y => y trivial⟩
    apply BagOps.cons
    · intro w1 e1
      repeat intro _
      change Wl [_] _ _ _ _ _ _ _
      apply Wl.call
      exact rfl
      (repeat (first | exact Evs.nil | apply Evs.cons rfl))
      intro wq hq
      refine (put_any 4 0 (by decide) (by decide) wq).mono ?_
      rintro e wr ⟨v, rfl, hb, hu⟩
      refine ⟨_, rfl, ?_⟩
      repeat' (first | (apply Wl.nil) | (apply Wl.splitP; exact rfl; exact rfl; all_goals (intros; try (exfalso; omega))) | (apply Wl.splitB; exact rfl; exact rfl; all_goals intros) | (apply St.condP; exact rfl; all_goals (intros; try (exfalso; omega))) | (apply St.condB; exact rfl; all_goals intros))
      apply Gt.bagEnd
      · exact rfl
      · exact fun w' h' => ⟨.ofUpd (bag_call hq hu h'), hb.bs.upd h'.upd fun _ _ _ _ y => y trivial⟩
    apply BagOps.cons
    · intro w1 e1
      repeat intro _
      change Wl [_] _ _ _ _ _ _ _
      apply Wl.call
      exact rfl
      (repeat (first | exact Evs.nil | apply Evs.cons rfl))
      intro wq hq
      refine (put_any 4 0 (by decide) (by decide) wq).mono ?_
      rintro e wr ⟨v, rfl, hb, hu⟩
      refine ⟨_, rfl, ?_⟩
      repeat' (first | (apply Wl.nil) | (apply Wl.splitP; exact rfl; exact rfl; all_goals (intros; try (exfalso; omega))) | (apply Wl.splitB; exact rfl; exact rfl; all_goals intros) | (apply St.condP; exact rfl; all_goals (intros; try (exfalso; omega))) | (apply St.condB; exact rfl; all_goals intros))
      apply Gt.bagEnd
      · exact rfl
      · exact fun w' h' => ⟨.ofUpd (bag_call hq hu h'), hb.bs.upd h'.upd fun _ _ _ _ y => y trivial⟩
    apply BagOps.cons
    · intro w1 e1
      repeat intro _
      change Wl [_] _ _ _ _ _ _ _
      apply Wl.call
      exact rfl
      (repeat (first | exact Evs.nil | apply Evs.cons rfl))
      intro wq hq
      refine (put_any 2 52 (by decide) (by decide) wq).mono ?_
      rintro e wr ⟨v, rfl, hb, hu⟩
      refine ⟨_, rfl, ?_⟩
      repeat' (first | (apply Wl.nil) | (apply Wl.splitP; exact rfl; exact rfl; all_goals (intros; try (exfalso; omega))) | (apply Wl.splitB; exact rfl; exact rfl; all_goals intros) | (apply St.condP; exact rfl; all_goals (intros; try (exfalso; omega))) | (apply St.condB; exact rfl; all_goals intros))
      apply Gt.bagEnd
      · exact rfl
      · exact fun w' h' => ⟨.ofUpd (bag_call hq hu h'), hb.bs.upd h'.upd fun _ _ _ _ y => y trivial⟩
    apply BagOps.cons
    · intro w1 e1
      repeat intro _
      change Wl [_] _ _ _ _ _ _ _
      apply Wl.call
      exact rfl
      (repeat (first | exact Evs.nil | apply Evs.cons rfl))
      intro wq hq
      refine (put_any 2 32 (by decide) (by decide) wq).mono ?_
      rintro e wr ⟨v, rfl, hb, hu⟩
      refine ⟨_, rfl, ?_⟩
      repeat' (first | (apply Wl.nil) | (apply Wl.splitP; exact rfl; exact rfl; all_goals (intros; try (exfalso; omega))) | (apply Wl.splitB; exact rfl; exact rfl; all_goals intros) | (apply St.condP; exact rfl; all_goals (intros; try (exfalso; omega))) | (apply St.condB; exact rfl; all_goals intros))
      apply Gt.bagEnd
      · exact rfl
      · exact fun w' h' => ⟨.ofUpd (bag_call hq hu h'), hb.bs.upd h'.upd fun _ _ _ _ y => y trivial⟩
    apply BagOps.cons
    · intro w1 e1
      repeat intro _
      change Wl [_] _ _ _ _ _ _ _
      repeat' (first | (apply Wl.move; exact rfl; exact rfl) | (apply Wl.nil) | (apply Wl.splitP; exact rfl; exact rfl; all_goals (intros; try (exfalso; omega))) | (apply Wl.splitB; exact rfl; exact rfl; all_goals intros) | (apply St.condP; exact rfl; all_goals (intros; try (exfalso; omega))) | (apply St.condB; exact rfl; all_goals intros))
      apply Gt.bagEnd
      · exact rfl
      · exact fun w' h' => ⟨.ofUpd (h'.upd.mono fun _ _ y => y trivial), rfl⟩
    apply BagOps.cons
    · intro w1 e1
      intro v1 h1
      have h1 : v1 = .slice ah hs.length ch := h1
      subst h1
      repeat intro _
      change Wl [_] _ _ _ _ _ _ _
      repeat' (first | (apply Wl.len; exact rfl; exact rfl) | (apply Wl.nil) | (apply Wl.splitP; exact rfl; exact rfl; all_goals (intros; try (exfalso; omega))) | (apply Wl.splitB; exact rfl; exact rfl; all_goals intros) | (apply St.condP; exact rfl; all_goals (intros; try (exfalso; omega))) | (apply St.condB; exact rfl; all_goals intros))
      apply Gt.bagEnd
      · exact rfl
      · exact fun w' h' => ⟨.ofUpd (h'.upd.mono fun _ _ y => y trivial), rfl⟩
    apply BagOps.cons
    · intro w1 e1
      intro v1 h1
      have h1 : v1 = .int .i64 hs.length := h1
      subst h1
      repeat intro _
      change Wl [_] _ _ _ _ _ _ _
      apply Wl.call
      exact rfl
      (repeat (first | exact Evs.nil | apply Evs.cons rfl))
      intro wq hq
      refine (put_any 2 hs.length (by decide) (by omega) wq).mono ?_
      rintro e wr ⟨v, rfl, hb, hu⟩
      refine ⟨_, rfl, ?_⟩
      repeat' (first | (apply Wl.nil) | (apply Wl.splitP; exact rfl; exact rfl; all_goals (intros; try (exfalso; omega))) | (apply Wl.splitB; exact rfl; exact rfl; all_goals intros) | (apply St.condP; exact rfl; all_goals (intros; try (exfalso; omega))) | (apply St.condB; exact rfl; all_goals intros))
      apply Gt.bagEnd
      · exact rfl
      · exact fun w' h' => ⟨.ofUpd (bag_call hq hu h'), hb.bs.upd h'.upd fun _ _ _ _ y => y trivial⟩
    apply BagOps.cons
    · intro w1 e1
      repeat intro _
      change Wl [_] _ _ _ _ _ _ _
      apply Wl.makeSlice (n := 6)
      · exact rfl
      · exact rfl
      · exact rfl
      · decide
      · decide
      intro c hc ho
      have hz : (madeCells (Value.int .u8 0).cells (6 * 1)).toList = byteCells [0, 0, 0, 0, 0, 0] := by simp [madeCells, byteCells, Value.cells, List.range, List.range.loop]
      rw [hz]
      repeat' (first | (apply Wl.nil) | (apply Wl.splitP; exact rfl; exact rfl; all_goals (intros; try (exfalso; omega))) | (apply Wl.splitB; exact rfl; exact rfl; all_goals intros) | (apply St.condP; exact rfl; all_goals (intros; try (exfalso; omega))) | (apply St.condB; exact rfl; all_goals intros))
      apply Gt.bagEnd
      · exact rfl
      · exact fun w' h' => ⟨.ofUpd (h'.drop (by simp; omega)).ext, Bs.ofBlk (fr := (0, 0)) h'.own.1 (by decide)⟩
    apply BagOps.cons
    · intro w1 e1 v1 h1 v2 h2 v3 h3 v4 h4 v5 h5 v6 h6 v7 h7 v8 h8 v9 h9 v10 h10 v11 h11 v12 h12
      repeat intro _
      change Wl [_] _ _ _ _ _ _ _
      have b1 : Bs w1 v1 elfIdent := h1
      have b2 : Bs w1 v2 (leB 2 3) := h2
      have b3 : Bs w1 v3 (leB 2 243) := h3
      have b4 : Bs w1 v4 (leB 4 1) := h4
      have b5 : Bs w1 v5 (leB 4 entry) := h5
      have b6 : Bs w1 v6 (leB 4 52) := h6
      have b7 : Bs w1 v7 (leB 4 0) := h7
      have b8 : Bs w1 v8 (leB 4 0) := h8
      have b9 : Bs w1 v9 (leB 2 52) := h9
      have b10 : Bs w1 v10 (leB 2 32) := h10
      have b11 : Bs w1 v11 (leB 2 hs.length) := h11
      have b12 : Bs w1 v12 [0, 0, 0, 0, 0, 0] := h12
      clear h1 h2 h3 h4 h5 h6 h7 h8 h9 h10 h11 h12
      obtain ⟨a1, c1, rfl, _, _⟩ := b1.shape
      obtain ⟨a2, c2, rfl, _, _⟩ := b2.shape
      obtain ⟨a3, c3, rfl, _, _⟩ := b3.shape
      obtain ⟨a4, c4, rfl, _, _⟩ := b4.shape
      obtain ⟨a5, c5, rfl, _, _⟩ := b5.shape
      obtain ⟨a6, c6, rfl, _, _⟩ := b6.shape
      obtain ⟨a7, c7, rfl, _, _⟩ := b7.shape
      obtain ⟨a8, c8, rfl, _, _⟩ := b8.shape
      obtain ⟨a9, c9, rfl, _, _⟩ := b9.shape
      obtain ⟨a10, c10, rfl, _, _⟩ := b10.shape
      obtain ⟨a11, c11, rfl, _, _⟩ := b11.shape
      obtain ⟨a12, c12, rfl, _, _⟩ := b12.shape
      apply Wl.lit
      · exact rfl
      · (repeat (first | exact Parts.nil | apply Parts.cons rfl))
      · exact rfl
      · exact rfl
      · (repeat (first | apply CatP.nil | (apply CatP.one; exact rfl; exact rfl) | (apply CatP.agg; exact rfl) | apply LApp.nil | apply LApp.cons))
      intro c hc ho
      repeat' (first | (apply Wl.nil) | (apply Wl.splitP; exact rfl; exact rfl; all_goals (intros; try (exfalso; omega))) | (apply Wl.splitB; exact rfl; exact rfl; all_goals intros) | (apply St.condP; exact rfl; all_goals (intros; try (exfalso; omega))) | (apply St.condB; exact rfl; all_goals intros))
      apply Gt.bagEnd
      · exact rfl
      · exact fun w' h' => ⟨.ofUpd (h'.drop (by simp; omega)).ext, Out.lit (.cons b1 (.cons b2 (.cons b3 (.cons b4 (.cons b5 (.cons b6 (.cons b7 (.cons b8 (.cons b9 (.cons b10 (.cons b11 (.cons b12 .nil)))))))))))) h' hc (by have := hw0.size; have := e1.size; omega) rfl (by decide)⟩
    apply BagOps.cons
    · intro w1 e1
      iterate 18 (intro _ _)
      intro v1 h1
      change Wl [_] _ _ _ _ _ _ _
      have h1 : Out w.heap.size w1 v1 (topL entry hs.length) := h1
      repeat' (first | (apply Wl.assign; exact rfl; exact rfl) | (apply Wl.nil) | (apply Wl.splitP; exact rfl; exact rfl; all_goals (intros; try (exfalso; omega))) | (apply Wl.splitB; exact rfl; exact rfl; all_goals intros) | (apply St.condP; exact rfl; all_goals (intros; try (exfalso; omega))) | (apply St.condB; exact rfl; all_goals intros))
      apply Gt.bagEnd
      · exact rfl
      · exact fun w' h' => ⟨.ofUpd h'.ext, h1.upd h'.upd fun k y _ => y trivial⟩
    exact BagOps.nil
  intro w1 e1 v0 hra
  have h : Out w.heap.size w1 v0 (topL entry hs.length) := hra
  clear hra
  change Gt _ _ _ _ _
  apply Gt.next
  refine St.sub (Γ' := [(1, .slice ah hs.length ch), (2, .slice ad vs.length cd), (7, v0)]) (by (repeat (first | exact Sub.nil | apply Sub.cons rfl))) ?_
  have hu1 : Upd (fun k => w.heap.size ≤ k) w w1 := hw0.comp e1.upd fun k _ hs => hs.elim False.elim id
  clear e1 h0 hw0 w0
  repeat' (first | (apply Wl.move; exact rfl; exact rfl) | (apply Wl.assign; exact rfl; exact rfl) | (apply Wl.addI; exact rfl; exact rfl; exact rfl; (constructor <;> omega)) | (apply Wl.mulI; exact rfl; exact rfl; exact rfl; (constructor <;> omega)) | (apply Wl.len; exact rfl; exact rfl) | (apply Wl.nil) | (apply St.seq) | (apply St.block) | (apply St.region) | (apply Gt.next) | (apply Wl.splitP; exact rfl; exact rfl; all_goals (intros; try (exfalso; omega))) | (apply Wl.splitB; exact rfl; exact rfl; all_goals intros) | (apply St.condP; exact rfl; all_goals (intros; try (exfalso; omega))) | (apply St.condB; exact rfl; all_goals intros))
  refine St.loop (σ := Nat × World × Value)
    (fun τ => τ.1 ≤ hs.length ∧ Upd (fun k => w.heap.size ≤ k) w τ.2.1 ∧ Out w.heap.size τ.2.1 τ.2.2 (topL entry hs.length ++ rows hs ds τ.1))
    (fun τ => [(1, .slice ah hs.length ch), (2, .slice ad vs.length cd), (7, τ.2.2), (8, .int .i64 (offs hs.length ds τ.1)), (9, .int .i64 τ.1)])
    (fun τ => Hp τ.2.1 [])
    (fun τ => hs.length - τ.1) (0, w1, v0) ⟨Nat.zero_le _, hu1, by simpa [rows] using h⟩ (.cons rfl (.cons rfl (.cons rfl (.cons' rfl (by simp [offs]) (.cons rfl .nil))))) (fun _ h => h) ?_
  clear h hu1 v0 w1
  rintro ⟨i, w0, v⟩ ⟨hin, hu, hout⟩
  simp only at hin hu hout ⊢
  by_cases hlt : i < hs.length
  · obtain ⟨x, hx⟩ : ∃ x, hs[i]? = some x := ⟨_, List.getElem?_eq_getElem hlt⟩
    obtain ⟨b, hbi⟩ : ∃ b, ds[i]? = some b := ⟨_, List.getElem?_eq_getElem (by omega)⟩
    obtain ⟨y, hy⟩ : ∃ y, vs[i]? = some y := ⟨_, List.getElem?_eq_getElem (by omega)⟩
    have hyb := hbs i y b hy hbi
    obtain ⟨ya, yc, rfl, _, _⟩ := hyb.shape
    obtain ⟨gh, oh, rfl, hch⟩ := hcellh (fun e => by cases hs with | nil => simp at hlt | cons x r => simp [hdCells] at e)
    obtain ⟨gd, od, rfl, hcdd⟩ := hcelld (fun e => by rw [e] at hvl; simp at hvl; omega)
    obtain ⟨q1, q2, q3, q4⟩ := hr x (List.mem_of_getElem? hx)
    have hce : ∀ j v, (hdCells x)[j]? = some v → w0.cell? ⟨gh, oh + (i : Int).toNat * 6 + j, none⟩ = some v := by
      intro j v hj
      have hj6 : j < 6 := (List.getElem?_eq_some_iff.1 hj).1
      rw [← flat6 (g := hdCells) (fun _ => rfl) hx hj6] at hj
      obtain ⟨h1, h2⟩ := List.getElem?_eq_some_iff.1 hj
      have := hch _ h1
      rw [h2] at this
      rw [show oh + (i : Int).toNat * 6 + j = oh + (i * 6 + j) by omega]
      exact hu.cell this (by have := World.block_lt_of_cell? w _ this; simp only at this ⊢; omega)
    have hcdw : w.cell? ⟨gd, od + (i : Int).toNat, none⟩ = some (.slice ya b.length yc) := by
      obtain ⟨h1, h2⟩ := List.getElem?_eq_some_iff.1 hy
      have := hcdd i h1
      rw [h2] at this
      rw [Int.toNat_natCast]
      exact this
    have hgdw := World.block_lt_of_cell? w _ hcdw
    simp only at hgdw
    have hcd0 := hu.cell hcdw (by simp only; omega)
    have hgd : gd < w0.heap.size := by have := hu.size; omega
    have hrl := rows_len hs ds i
    have hblen : (ds.take i).flatten.length + b.length ≤ 1000000 := by
      have := flatten_take_le ds (i + 1)
      rw [flatten_take_succ ds i b hbi, List.length_append] at this
      omega
    have hoffs : offs hs.length ds i ≤ 2000000 := by unfold offs; omega
    have t1 : 0 ≤ (x.rights : Int).tdiv 4 ∧ (x.rights : Int).tdiv 4 ≤ 1 := by
      have : (x.rights : Int).tdiv 4 = ((x.rights / 4 : Nat) : Int) := rfl
      omega
    have t2 : 0 ≤ ((x.rights : Int).tdiv 2).tmod 2 ∧ ((x.rights : Int).tdiv 2).tmod 2 ≤ 1 := by
      have : ((x.rights : Int).tdiv 2).tmod 2 = ((x.rights / 2 % 2 : Nat) : Int) := rfl
      omega
    have t3 : 0 ≤ (x.rights : Int).tmod 2 ∧ (x.rights : Int).tmod 2 ≤ 1 := by
      have : (x.rights : Int).tmod 2 = ((x.rights % 2 : Nat) : Int) := rfl
      omega
    repeat' (first | (apply Wl.loadAP; exact rfl; exact rfl; exact hce; exact trivial; exact rfl) | (apply Wl.move; exact rfl; exact rfl) | (apply Wl.assign; exact rfl; exact rfl) | (apply Wl.fieldAddrZ; exact rfl; exact rfl) | (apply Wl.loadH; exact rfl; exact rfl; (repeat (first | exact List.Mem.head _ | apply List.Mem.tail)); exact rfl) | (apply Wl.lss; exact rfl; exact rfl; exact rfl) | (apply Wl.mulI; exact rfl; exact rfl; exact rfl; (constructor <;> omega)) | (apply Wl.add; exact rfl; exact rfl; exact rfl) | (apply Wl.mul; exact rfl; exact rfl; exact rfl) | (apply Wl.quo; exact rfl; exact rfl; exact rfl; (first | decide | omega)) | (apply Wl.rem; exact rfl; exact rfl; exact rfl; (first | decide | omega)) | (apply Wl.len; exact rfl; exact rfl) | (apply Wl.storeA; exact rfl; exact rfl; exact rfl; exact rfl; (repeat (first | apply HSet.here | apply HSet.there)); (repeat (first | apply LPut.s | apply LPut.z | apply LOver.nil | apply LOver.cons))) | (apply Wl.alloc; exact rfl; intro c hc ho) | (apply Wl.indexAddr; exact rfl; exact rfl; exact rfl; (constructor <;> omega)) | (apply Wl.nil) | (apply St.seq) | (apply St.block) | (apply St.region) | (apply St.skip) | (apply Gt.next) | (apply Wl.splitP; exact rfl; exact rfl; all_goals (intros; try (exfalso; omega))) | (apply Wl.splitB; exact rfl; exact rfl; all_goals intros) | (apply St.condP; exact rfl; all_goals (intros; try (exfalso; omega))) | (apply St.condB; exact rfl; all_goals intros))
    have hcw : w0.heap.size ≤ c := hc
    refine St.sub (Γ' := [(1, .slice (some ⟨gh, oh, none⟩) hs.length ch), (2, .slice (some ⟨gd, od, none⟩) vs.length cd), (7, v), (8, .int .i64 (offs hs.length ds i)), (9, .int .i64 i), (10, .pointer (some ⟨c, 0, none⟩)), (11, .int .i64 (flg x.rights))])
      (.cons rfl (.cons rfl (.cons rfl (.cons rfl (.cons rfl (.cons rfl (.cons' rfl (congrArg (Value.int .i64) (flg_eq _ q1)) .nil))))))) ?_
    apply St.mix [0, 1, 2, 3, 4, 5, 6, 7, 8, 9, 10, 11, 12, 13, 14, 15, 16] (Hp w0 [⟨c, hdCells x, 50⟩])
    · exact mixed
    · kernel_rfl
    · (repeat (first | exact Pick.nil | apply Pick.cons rfl))
    · rfl
    · kernel_rfl
    · intro u hu'
      exact ⟨Hp.drew hu', Hp.drew hu'⟩
    repeat' (first | (apply Wl.move; exact rfl; exact rfl) | (apply Wl.fieldAddr0; exact rfl; exact rfl) | (apply Wl.fieldAddrZ; exact rfl; exact rfl) | (apply Wl.loadH; exact rfl; exact rfl; (repeat (first | exact List.Mem.head _ | apply List.Mem.tail)); exact rfl) | (apply Wl.loadO; exact rfl; exact rfl; (assumption); (repeat (first | exact trivial | refine ⟨by first | assumption | omega, ?_⟩))) | (apply Wl.len; exact rfl; exact rfl) | (apply Wl.indexAddr1; exact rfl; exact rfl; exact rfl; (constructor <;> omega)) | (apply Wl.splitP; exact rfl; exact rfl; all_goals (intros; try (exfalso; omega))) | (apply Wl.splitB; exact rfl; exact rfl; all_goals intros) | (apply St.condP; exact rfl; all_goals (intros; try (exfalso; omega))) | (apply St.condB; exact rfl; all_goals intros))
    · exact ⟨fun e => by have e' : c = gd := e; omega, trivial⟩
    apply Wl.mixOf
    · exact rfl
    apply Wl.lit
    · exact rfl
    · (repeat (first | exact Parts.nil | apply Parts.cons rfl))
    · exact rfl
    · exact rfl
    · (repeat (first | apply CatP.nil | (apply CatP.one; exact rfl; exact rfl) | (apply CatP.agg; exact rfl) | apply LApp.nil | apply LApp.cons))
    intro d hd hod
    apply Wl.mixEnd
    · exact fun u hu' => Hp.pop1 hu' hd
    apply Wl.assign
    · exact rfl
    · exact rfl
    apply Wl.nilM
    apply Gt.next
    apply St.reb (H' := [])
    intro w1 h1
    refine ⟨trivial, trivial, ?_⟩
    have hrow : ∀ j y : Nat, (rowN x (offs hs.length ds i) b.length)[j]? = some y → w1.cell? ⟨d, j, none⟩ = some (.int .i64 y) := fun j y hj => by
      refine h1.cell (List.Mem.head _) ?_
      have : ((rowN x (offs hs.length ds i) b.length).map fun y : Nat => Value.int .i64 (y : Int))[j]? = some (.int .i64 y) := by rw [List.getElem?_map, hj]; rfl
      exact this
    have hd1 : d < w1.heap.size := h1.own.lt (List.Mem.head _)
    have u01 : Ext w0 w1 := (h1.drop (by simp; omega)).ext
    have hu1 : Upd (fun k => w.heap.size ≤ k) w w1 := hu.comp u01 fun k _ hs => hs.elim id False.elim
    have hvd : v.ownBlock ≠ some d := fun e => by
      obtain ⟨_, _, h2, _⟩ := hout
      have := (h2.lt d e).2; omega
    have hout1 := hout.upd u01 fun k y _ => y
    clear hout u01
    repeat' (first | (apply Wl.assign; exact rfl; exact rfl) | (apply Wl.nil) | (apply St.seq) | (apply St.block) | (apply St.region) | (apply Gt.next) | (apply Wl.splitP; exact rfl; exact rfl; all_goals (intros; try (exfalso; omega))) | (apply Wl.splitB; exact rfl; exact rfl; all_goals intros) | (apply St.condP; exact rfl; all_goals (intros; try (exfalso; omega))) | (apply St.condB; exact rfl; all_goals intros))
    refine St.loop (σ := Nat × World × Value)
      (fun τ => τ.1 ≤ 8 ∧ Upd (fun k => w.heap.size ≤ k) w τ.2.1 ∧ Out w.heap.size τ.2.1 τ.2.2 (topL entry hs.length ++ rows hs ds i ++ ((rowN x (offs hs.length ds i) b.length).take τ.1).map (leB 4)) ∧
        (∀ j y : Nat, (rowN x (offs hs.length ds i) b.length)[j]? = some y → τ.2.1.cell? ⟨d, j, none⟩ = some (.int .i64 y)) ∧ d < τ.2.1.heap.size ∧ τ.2.2.ownBlock ≠ some d)
      (fun τ => [(1, .slice (some ⟨gh, oh, none⟩) hs.length ch), (2, .slice (some ⟨gd, od, none⟩) vs.length cd), (7, τ.2.2), (8, .int .i64 (offs hs.length ds i)), (9, .int .i64 i), (12, .slice (some ⟨d, 0, none⟩) 8 8), (13, .int .i64 τ.1)])
      (fun τ => Hp τ.2.1 [])
      (fun τ => 8 - τ.1) (0, w1, v) ⟨Nat.zero_le _, hu1, by simpa using hout1, hrow, hd1, hvd⟩ (by (repeat (first | exact Sub.nil | apply Sub.cons rfl))) (fun _ h => h) ?_
    clear hout1 hrow hu1 hd1 hvd h1 w1 hu
    rintro ⟨k, w2, v2⟩ ⟨hk8, hu, hout, hrow, hd2, hvd⟩
    simp only at hk8 hu hout hrow hd2 hvd ⊢
    by_cases hk : k < 8
    · obtain ⟨z, hz⟩ : ∃ z, (rowN x (offs hs.length ds i) b.length)[k]? = some z := ⟨_, List.getElem?_eq_getElem (show k < 8 from hk)⟩
      have hzc : w2.cell? ⟨d, 0 + (k : Int).toNat, none⟩ = some (.int .i64 z) := by rw [Nat.zero_add, Int.toNat_natCast]; exact hrow k z hz
      have hz3 : z ≤ 9223372036854775807 := by
        have hm := List.mem_of_getElem? hz
        have hf : flg x.rights ≤ 7 := by unfold flg; omega
        simp only [rowN, List.mem_cons, List.not_mem_nil, or_false] at hm
        rcases hm with e | e | e | e | e | e | e | e <;> subst e <;> omega
      repeat' (first | (apply Wl.move; exact rfl; exact rfl) | (apply Wl.loadO; exact rfl; exact rfl; (assumption); (repeat (first | exact trivial | refine ⟨by first | assumption | omega, ?_⟩))) | (apply Wl.lss; exact rfl; exact rfl; exact rfl) | (apply Wl.indexAddr1; exact rfl; exact rfl; exact rfl; (constructor <;> omega)) | (apply Wl.nil) | (apply St.seq) | (apply St.block) | (apply St.region) | (apply St.skip) | (apply Gt.next) | (apply Wl.splitP; exact rfl; exact rfl; all_goals (intros; try (exfalso; omega))) | (apply Wl.splitB; exact rfl; exact rfl; all_goals intros) | (apply St.condP; exact rfl; all_goals (intros; try (exfalso; omega))) | (apply St.condB; exact rfl; all_goals intros))
      apply Wl.call
      exact rfl
      (repeat (first | exact Evs.nil | apply Evs.cons rfl))
      intro wq hq
      refine (put_any 4 z (by decide) hz3 wq).mono ?_
      rintro e wr ⟨vp, rfl, hb, hup⟩
      refine ⟨_, rfl, ?_⟩
      have e2r : Ext w2 wr := Ext.trans _ _ _ hq.ext (hup.mono fun k hk y => by omega)
      have hqs : w2.heap.size ≤ wq.heap.size := hq.ext.size
      have hrs : w2.heap.size ≤ wr.heap.size := e2r.size
      have hv2 : ∀ k, v2.ownBlock = some k → w.heap.size ≤ k ∧ k < w2.heap.size := fun k e => by
        obtain ⟨_, _, h2, _⟩ := hout
        exact h2.lt k e
      obtain ⟨vs', l1, own', p3, p4⟩ := hout.upd e2r fun k y _ => y
      obtain ⟨pa, pc, rfl, _, _⟩ := hb.shape
      rw [leB_length] at *
      have hvl' : vs'.length ≤ 200 := by
        rw [l1, List.length_append, List.length_append, hrl, List.length_map, List.length_take]
        simp only [topL, List.length_cons, List.length_nil]
        omega
      repeat' (first | (apply Wl.lit; exact rfl; (repeat (first | exact Parts.nil | apply Parts.cons rfl)); exact rfl; exact rfl; (repeat (first | apply CatP.nil | (apply CatP.one; exact rfl; exact rfl) | (apply CatP.agg; exact rfl) | apply LApp.nil | apply LApp.cons)); intro c hc ho) | (apply Wl.splitP; exact rfl; exact rfl; all_goals (intros; try (exfalso; omega))) | (apply Wl.splitB; exact rfl; exact rfl; all_goals intros) | (apply St.condP; exact rfl; all_goals (intros; try (exfalso; omega))) | (apply St.condB; exact rfl; all_goals intros))
      apply Wl.appendT
      · exact rfl
      · exact rfl
      · exact rfl
      · exact hc
      · exact rfl
      · exact own'
      · exact fun k _ => trivial
      · exact rfl
      · exact rfl
      · decide
      · unfold maxLen; omega
      · omega
      · have := hu.size; omega
      intro v3 w3 ho3 u3 _ hk3
      have u3' : Upd (fun k => v2.ownBlock = some k) wr w3 := u3.mono fun k _ hs => hs.elim id fun y => (y trivial).elim
      have hout3 := Out.snoc (l := leB 4 z) l1 p3 p4 rfl hb.bs (fun k e _ e' => by have := hb.base e; have := (hv2 k e').2; omega) ho3 u3' fun k e => (hk3 k e).2
      repeat' (first | (apply Wl.move; exact rfl; exact rfl) | (apply Wl.assign; exact rfl; exact rfl) | (apply Wl.addI; exact rfl; exact rfl; exact rfl; (constructor <;> omega)) | (apply Wl.nil) | (apply St.region) | (apply Gt.next) | (apply Gt.inNormal) | (apply Wl.splitP; exact rfl; exact rfl; all_goals (intros; try (exfalso; omega))) | (apply Wl.splitB; exact rfl; exact rfl; all_goals intros) | (apply St.condP; exact rfl; all_goals (intros; try (exfalso; omega))) | (apply St.condB; exact rfl; all_goals intros))
      apply Gt.round (k + 1, w3, v3)
      rotate_left
      · simp only; omega
      · (repeat (first | exact Sub.nil | apply Sub.cons rfl))
      · exact fun _ h => h
      refine ⟨hk, hu.comp (e2r.comp u3' (T := fun k => v2.ownBlock = some k) fun k _ hs => hs.elim False.elim id) fun k _ hs => hs.elim id fun e => (hv2 k e).1, ?_, fun j y hj => ?_, ?_, fun e => ?_⟩
      · simp only
        rw [List.take_add_one, hz, List.map_append, ← List.append_assoc]
        exact hout3
      · exact u3'.cell (e2r.cell (hrow j y hj) id) hvd
      · have := u3'.size; simp only; omega
      · rcases (hk3 d e).2 with e' | e'
        · exact hvd e'
        · omega
    · have hk' : k = 8 := by omega
      subst hk'
      have hcd2 := hu.cell hcdw (by simp only; omega)
      repeat' (first | (apply Wl.move; exact rfl; exact rfl) | (apply Wl.assign; exact rfl; exact rfl) | (apply Wl.loadO; exact rfl; exact rfl; (assumption); (repeat (first | exact trivial | refine ⟨by first | assumption | omega, ?_⟩))) | (apply Wl.lss; exact rfl; exact rfl; exact rfl) | (apply Wl.addI; exact rfl; exact rfl; exact rfl; (constructor <;> omega)) | (apply Wl.len; exact rfl; exact rfl) | (apply Wl.indexAddr1; exact rfl; exact rfl; exact rfl; (constructor <;> omega)) | (apply Wl.nil) | (apply St.seq) | (apply St.region) | (apply St.condF; exact rfl; (first | rfl | assumption)) | (apply St.exit) | (apply Gt.next) | (apply Gt.thenExit) | (apply Gt.inNormal) | (apply Gt.inExit) | (apply Wl.splitP; exact rfl; exact rfl; all_goals (intros; try (exfalso; omega))) | (apply Wl.splitB; exact rfl; exact rfl; all_goals intros) | (apply St.condP; exact rfl; all_goals (intros; try (exfalso; omega))) | (apply St.condB; exact rfl; all_goals intros))
      apply Gt.round (i + 1, w2, v2)
      rotate_left
      · simp only; omega
      · refine .cons rfl (.cons rfl (.cons rfl (.cons' rfl ?_ (.cons rfl .nil))))
        unfold offs
        rw [flatten_take_succ ds i b hbi, List.length_append]
        congr 1
        omega
      · exact fun _ h => h
      refine ⟨hlt, hu, ?_⟩
      simp only
      rw [rows_succ, List.getD_eq_getElem?_getD, hx, List.getD_eq_getElem?_getD, hbi, ← List.append_assoc]
      exact hout
  · have hin' : i = hs.length := by omega
    subst hin'
    have hrf := rows_flat hs ds hs.length
    have htf : (topL entry hs.length).flatten.length = 52 := by simp [topL, leB_length, elfIdent]
    have hrl := rows_len hs ds hs.length
    repeat' (first | (apply Wl.move; exact rfl; exact rfl) | (apply Wl.assign; exact rfl; exact rfl) | (apply Wl.lss; exact rfl; exact rfl; exact rfl) | (apply Wl.len; exact rfl; exact rfl) | (apply Wl.nil) | (apply St.seq) | (apply St.block) | (apply St.region) | (apply St.exit) | (apply Gt.next) | (apply Gt.thenExit) | (apply Gt.inExit) | (apply Wl.splitP; exact rfl; exact rfl; all_goals (intros; try (exfalso; omega))) | (apply Wl.splitB; exact rfl; exact rfl; all_goals intros) | (apply St.condP; exact rfl; all_goals (intros; try (exfalso; omega))) | (apply St.condB; exact rfl; all_goals intros))
    refine St.loop (σ := Nat × World × Value)
      (fun τ => τ.1 ≤ vs.length ∧ Upd (fun k => w.heap.size ≤ k) w τ.2.1 ∧ Out w.heap.size τ.2.1 τ.2.2 (topL entry hs.length ++ rows hs ds hs.length ++ ds.take τ.1))
      (fun τ => [(2, .slice ad vs.length cd), (7, τ.2.2), (14, .int .i64 τ.1)])
      (fun τ => Hp τ.2.1 [])
      (fun τ => vs.length - τ.1) (0, w0, v) ⟨Nat.zero_le _, hu, by simpa using hout⟩ (by (repeat (first | exact Sub.nil | apply Sub.cons rfl))) (fun _ h => h) ?_
    clear hout hu w0 v
    rintro ⟨i, w0, v⟩ ⟨hin, hu, hout⟩
    simp only at hin hu hout ⊢
    by_cases hlt : i < vs.length
    · obtain ⟨b, hbi⟩ : ∃ b, ds[i]? = some b := ⟨_, List.getElem?_eq_getElem (by omega)⟩
      obtain ⟨y, hy⟩ : ∃ y, vs[i]? = some y := ⟨_, List.getElem?_eq_getElem hlt⟩
      have hyb := hbs i y b hy hbi
      obtain ⟨ya, yc, rfl, _, _⟩ := hyb.shape
      obtain ⟨gd, od, rfl, hcdd⟩ := hcelld (fun e => by rw [e] at hlt; simp at hlt)
      have hcdw : w.cell? ⟨gd, od + (i : Int).toNat, none⟩ = some (.slice ya b.length yc) := by
        obtain ⟨h1, h2⟩ := List.getElem?_eq_some_iff.1 hy
        have := hcdd i h1
        rw [h2] at this
        rw [Int.toNat_natCast]
        exact this
      have hgdw := World.block_lt_of_cell? w _ hcdw
      simp only at hgdw
      have hcd0 := hu.cell hcdw (by simp only; omega)
      have hyb0 : Bs w0 (.slice ya b.length yc) b := hyb.upd hu fun k _ hk _ y => by omega
      have hv2 : ∀ k, v.ownBlock = some k → w.heap.size ≤ k ∧ k < w0.heap.size := fun k e => by
        obtain ⟨_, _, h2, _⟩ := hout
        exact h2.lt k e
      obtain ⟨vs', l1, own', p3, p4⟩ := hout
      have hvl' : vs'.length ≤ 200 := by
        rw [l1, List.length_append, List.length_append, hrl, List.length_take]
        simp only [topL, List.length_cons, List.length_nil]
        omega
      repeat' (first | (apply Wl.move; exact rfl; exact rfl) | (apply Wl.loadO; exact rfl; exact rfl; (assumption); (repeat (first | exact trivial | refine ⟨by first | assumption | omega, ?_⟩))) | (apply Wl.lss; exact rfl; exact rfl; exact rfl) | (apply Wl.len; exact rfl; exact rfl) | (apply Wl.lit; exact rfl; (repeat (first | exact Parts.nil | apply Parts.cons rfl)); exact rfl; exact rfl; (repeat (first | apply CatP.nil | (apply CatP.one; exact rfl; exact rfl) | (apply CatP.agg; exact rfl) | apply LApp.nil | apply LApp.cons)); intro c hc ho) | (apply Wl.indexAddr1; exact rfl; exact rfl; exact rfl; (constructor <;> omega)) | (apply Wl.nil) | (apply St.seq) | (apply St.block) | (apply St.region) | (apply St.skip) | (apply Gt.next) | (apply Wl.splitP; exact rfl; exact rfl; all_goals (intros; try (exfalso; omega))) | (apply Wl.splitB; exact rfl; exact rfl; all_goals intros) | (apply St.condP; exact rfl; all_goals (intros; try (exfalso; omega))) | (apply St.condB; exact rfl; all_goals intros))
      apply Wl.appendT
      · exact rfl
      · exact rfl
      · exact rfl
      · exact hc
      · exact rfl
      · exact own'
      · exact fun k _ => trivial
      · exact rfl
      · exact rfl
      · decide
      · unfold maxLen; omega
      · omega
      · exact hu.size
      intro v3 w3 ho3 u3 _ hk3
      have u3' : Upd (fun k => v.ownBlock = some k) w0 w3 := u3.mono fun k _ hs => hs.elim id fun y => (y trivial).elim
      have hout3 := Out.snoc (l := b) l1 p3 p4 rfl hyb0 (fun k e hne e' => by have := Bs.inH' hyb hne k e; have := (hv2 k e').1; omega) ho3 u3' fun k e => (hk3 k e).2
      repeat' (first | (apply Wl.move; exact rfl; exact rfl) | (apply Wl.assign; exact rfl; exact rfl) | (apply Wl.addI; exact rfl; exact rfl; exact rfl; (constructor <;> omega)) | (apply Wl.nil) | (apply St.region) | (apply Gt.next) | (apply Gt.inNormal) | (apply Wl.splitP; exact rfl; exact rfl; all_goals (intros; try (exfalso; omega))) | (apply Wl.splitB; exact rfl; exact rfl; all_goals intros) | (apply St.condP; exact rfl; all_goals (intros; try (exfalso; omega))) | (apply St.condB; exact rfl; all_goals intros))
      apply Gt.round (i + 1, w3, v3)
      rotate_left
      · simp only; omega
      · (repeat (first | exact Sub.nil | apply Sub.cons rfl))
      · exact fun _ h => h
      refine ⟨hlt, hu.comp u3' fun k _ hs => hs.elim id fun e => (hv2 k e).1, ?_⟩
      simp only
      rw [List.take_add_one, hbi, ← List.append_assoc]
      exact hout3
    · have hin' : i = vs.length := by omega
      subst hin'
      rw [hvl, List.take_length] at hout
      repeat' (first | (apply Wl.move; exact rfl; exact rfl) | (apply Wl.lss; exact rfl; exact rfl; exact rfl) | (apply Wl.len; exact rfl; exact rfl) | (apply Wl.nil) | (apply St.seq) | (apply St.region) | (apply St.exit) | (apply Gt.next) | (apply Gt.thenExit) | (apply Gt.inExit) | (apply Wl.splitP; exact rfl; exact rfl; all_goals (intros; try (exfalso; omega))) | (apply Wl.splitB; exact rfl; exact rfl; all_goals intros) | (apply St.condP; exact rfl; all_goals (intros; try (exfalso; omega))) | (apply St.condB; exact rfl; all_goals intros))
      apply Wl.call
      exact rfl
      (repeat (first | exact Evs.nil | apply Evs.cons rfl))
      intro wq hq
      refine (join_any _ _ wq (hout.upd hq.ext fun k y _ => y).bss (by rw [List.flatten_append, List.flatten_append, List.length_append, List.length_append, hrf, htf]; omega)).mono ?_
      rintro e wr ⟨vp, rfl, hb, hup⟩
      refine ⟨_, rfl, ?_⟩
      repeat' (first | (apply Wl.assign; exact rfl; exact rfl) | (apply Wl.nil) | (apply St.ret) | (apply Gt.next) | (apply Gt.out1; exact rfl; exact rfl; intro w' hp) | (apply Wl.splitP; exact rfl; exact rfl; all_goals (intros; try (exfalso; omega))) | (apply Wl.splitB; exact rfl; exact rfl; all_goals intros) | (apply St.condP; exact rfl; all_goals (intros; try (exfalso; omega))) | (apply St.condB; exact rfl; all_goals intros))
      refine ⟨_, rfl, Bo.less (hb.upd hp.upd fun _ _ y => y trivial) (Nat.le_trans hu.size hq.ext.size), ?_⟩
      exact hu.comp (bag_call hq hup hp) fun k _ hs => hs.elim id False.elim
end Go.Proofs.Ytcjikjadajmefaa
