/-
  porticolaw15.play of any call but Back: both files keep their trap vector alike. Conditions: the files lie in blocks of their own; the call's entries lie in older blocks.
-/
import Derived.Test.YtcefkbnachnciaaDoorCsrO
namespace Go.Proofs.YtcefkbnachnciaaDoor
open Go.RowKit Go.Pt
theorem FF.lt {w : World} {c : Nat} {md tv : Int} (h : FF w c md tv) : c < w.heap.size := by
  obtain ⟨st, mie, mip, sc, ep, ca, tl, cs, hk, hc⟩ := h
  exact lt_of_block hc
theorem MM.ltc {w : World} {c b n : Nat} {tv : Int} (h : MM w c b n tv) : c < w.heap.size := by
  obtain ⟨md, cs, n', lk, hk, h1, h2, h3⟩ := h
  exact lt_of_block h1
theorem MM.ltb {w : World} {c b n : Nat} {tv : Int} (h : MM w c b n tv) : b < w.heap.size := by
  obtain ⟨md, cs, n', lk, hk, h1, h2, h3⟩ := h
  exact h2.lt
theorem FF.ne {w : World} {c c' b n : Nat} {md tv tv' : Int} (h : FF w c md tv) (k : MM w c' b n tv') : c ≠ c' ∧ c ≠ b := by
  obtain ⟨st, mie, mip, sc, ep, ca, tl, cs, hk, hc⟩ := h
  obtain ⟨md', cs', n', lk, hk', hc', ⟨D, ⟨es, clock, hb, _⟩, _⟩, _⟩ := k
  constructor
  · intro e; subst e; rw [hc] at hc'; simp at hc'
  · intro e; subst e; rw [hc] at hb; cases hb
theorem Hp.rest {S : Nat → Prop} {w0 w w' : World} {H : List Blk} (h : Hp w0 H w) (u : Upd S w w') (hs : ∀ x ∈ H, ¬ S x.b) : Hp w' H w' := ⟨Upd.refl _ _, h.own.upd u hs, h.apart⟩
theorem MM.le {w : World} {c b n m : Nat} {tv : Int} (h : MM w c b n tv) (hn : n ≤ m) : MM w c b m tv := by
  obtain ⟨md, cs, n', lk, hk, h1, h2, h3, h4⟩ := h
  exact ⟨md, cs, n', lk, hk, h1, h2, Nat.le_trans h3 hn, h4⟩
/-- both files in one world: the mode is one of two, the vectors are these, all else of w0 is as it was -/
structure Both (w0 w : World) (c cm b n : Nat) (md tv tv2 : Int) : Prop where
  f : FF w c md tv
  m : MM w cm b n tv2
  mode : md = 0 ∨ md = 3
  tv0 : 0 ≤ tv ∧ tv < 4294967296
  u : Upd (fun k => w0.heap.size ≤ k) w0 w
  c0 : w0.heap.size ≤ c
  m0 : w0.heap.size ≤ cm
  b0 : w0.heap.size ≤ b
theorem Both.keep {w0 w w' : World} {c cm b n : Nat} {md tv tv2 : Int} {S : Nat → Prop} (h : Both w0 w c cm b n md tv tv2) (u : Upd S w w') (hc : ¬ S c) (hm : ¬ S cm) (hb : ¬ S b) (h0 : ∀ k, S k → w0.heap.size ≤ k) : Both w0 w' c cm b n md tv tv2 :=
  ⟨h.f.upd u hc, h.m.upd u hm hb, h.mode, h.tv0, h.u.comp u fun k _ hs => hs.elim id (h0 k), h.c0, h.m0, h.b0⟩
theorem Both.keepP {w0 w w' : World} {c cm b n p t : Nat} {xs : List Value} {md tv tv2 : Int} (h : Both w0 w c cm b n md tv tv2) (k : Hp w [⟨p, xs, t⟩] w') (hp : c < p ∧ cm < p ∧ b < p) : Both w0 w' c cm b n md tv tv2 :=
  h.keep (Hp.turned k) (by omega) (by omega) (by omega) fun k hk => by have := h.c0; omega
theorem Both.fcall {w0 w w' : World} {c cm b n : Nat} {md tv tv2 md' tv' : Int} (h : Both w0 w c cm b n md tv tv2) (f : FF w' c md' tv') (u : Upd (fun k => k = c) w w') (hm : md' = 0 ∨ md' = 3) (ht : 0 ≤ tv' ∧ tv' < 4294967296) : Both w0 w' c cm b n md' tv' tv2 :=
  ⟨f, h.m.upd u (fun e => (h.f.ne h.m).1 e.symm) (fun e => (h.f.ne h.m).2 e.symm), hm, ht, h.u.comp u fun k _ hs => hs.elim id fun e => by rw [e]; exact h.c0, h.c0, h.m0, h.b0⟩
theorem Both.mcall {w0 w w' : World} {c cm b n n' : Nat} {md tv tv2 tv' : Int} (h : Both w0 w c cm b n md tv tv2) (m : MM w' cm b n' tv') (u : Upd (fun k => k = cm ∨ k = b) w w') : Both w0 w' c cm b n' md tv tv' :=
  ⟨h.f.upd u (fun e => e.elim (h.f.ne h.m).1 (h.f.ne h.m).2), m, h.mode, h.tv0, h.u.comp u fun k _ hs => hs.elim id fun e => by rcases e with e | e <;> rw [e] <;> first | exact h.m0 | exact h.b0, h.c0, h.m0, h.b0⟩
theorem Both.le {w0 w : World} {c cm b n m : Nat} {md tv tv2 : Int} (h : Both w0 w c cm b n md tv tv2) (hn : n ≤ m) : Both w0 w c cm b m md tv tv2 := ⟨h.f, h.m.le hn, h.mode, h.tv0, h.u, h.c0, h.m0, h.b0⟩
end Go.Proofs.YtcefkbnachnciaaDoor
