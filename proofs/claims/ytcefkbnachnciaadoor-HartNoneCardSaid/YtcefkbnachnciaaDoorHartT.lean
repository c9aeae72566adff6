/-
  hart.Hart: 32 registers, a place, the file, the memory; trap. Conditions: the blocks lie apart.
-/
import Derived.Test.YtcefkbnachnciaaDoorMemB
import Derived.Test.YtcefkbnachnciaaDoorCsrQ
import Derived.Test.YtcefkbnachnciaaDoorNum
namespace Go.Pt
open Go.RowKit
theorem LSet.app {xs r r' : List Value} {i : Nat} {v : Value} (h : LSet r i v r') : LSet (xs ++ r) (xs.length + i) v (xs ++ r') := by
  induction xs with
  | nil => simpa using h
  | cons x s ih => rw [List.length_cons, show s.length + 1 + i = (s.length + i) + 1 by omega]; exact .s ih
section
variable {P : Program} {md : Md} {N : Nat} {ops : Array Oper} {rest : List Oper} {Γ : Env} {Q : Exit → Act → World → Prop} {d : Nat} {ty : TypeId} {pos : String} {af : Array Edge} {t : TypeId} {x y : Operand}
theorem Wl.loadHi (i : Nat) {w0 : World} {H : List Blk} {bt : TypeId} [TyC P t] {c j : Nat} {xs r : List Value} {v : Value} (hd : Nat.blt d N = true) (hx : ev Γ x = some (.pointer (some ⟨c, j, none⟩))) (hm : (⟨c, xs ++ r, bt⟩ : Blk) ∈ H) (hl : xs.length = 32) (hj : j = 32 + i) (hv : r[i]? = some v)
    (h : Wl rest P md ops N ((d, v) :: Γ) (Hp w0 H) Q) : Wl (⟨some d, .load t x, ty, pos, af, none⟩ :: rest) P md ops N Γ (Hp w0 H) Q :=
  Wl.loadH hd hx hm (by rw [hj, ← hl, List.getElem?_append_right (by omega), Nat.add_sub_cancel_left]; exact hv) h
theorem Wl.storeHi (i : Nat) {w0 : World} {H H' : List Blk} {bt by_ : TypeId} [TyS P t 1 by_] {c j : Nat} {v : Value} {xs r r' : List Value} (hx : ev Γ x = some (.pointer (some ⟨c, j, none⟩))) (hy : ev Γ y = some v) (h1 : v.oneCell' = true) (hs : HSet c (xs ++ r) (xs ++ r') bt H H') (hl : xs.length = 32) (hj : j = 32 + i) (hr : LSet r i v r')
    (h : Wl rest P .seq ops N Γ (Hp w0 H') Q) : Wl (⟨none, .store t x y, ty, pos, af, none⟩ :: rest) P .seq ops N Γ (Hp w0 H) Q := Wl.store hx hy h1 hs (by rw [hj, ← hl]; exact hr.app) h
end
end Go.Pt
namespace Go.Proofs.YtcefkbnachnciaaDoor
open Go.RowKit Go.Pt
/-- the machine at h: registers, place, file at c, memory vM -/
def HH (w : World) (h c : Nat) (vM : Value) (xs : List Value) (pc : Int) : Prop := xs.length = 32 ∧ w.heap[h]? = some (.cells (xs ++ [.int .u32 pc, .pointer (some ⟨c, 0, none⟩), vM]).toArray 30 (0, 0))
theorem HH.ne {w : World} {h c c' : Nat} {vM : Value} {xs : List Value} {pc md tv : Int} (k : HH w h c vM xs pc) (f : FF w c' md tv) : h ≠ c' := by
  obtain ⟨st, mie, mip, sc, ep, ca, tl, cs, hk, hc⟩ := f
  intro e
  have := k.2
  rw [e, hc] at this
  simp at this
theorem HH.lt {w : World} {h c : Nat} {vM : Value} {xs : List Value} {pc : Int} (k : HH w h c vM xs pc) : h < w.heap.size := lt_of_block k.2
theorem HH.upd {w w' : World} {h c : Nat} {vM : Value} {xs : List Value} {pc : Int} {S : Nat → Prop} (k : HH w h c vM xs pc) (u : Upd S w w') (hs : ¬ S h) : HH w' h c vM xs pc := ⟨k.1, u.heap k.2 hs⟩
set_option maxHeartbeats 4000000 in
theorem htrap (h cf : Nat) (vM : Value) (xs : List Value) (pc md tv wd ca tl at_ wi ca0 tl0 : Int) (tr st0 : Bool) (w : World) (hH : HH w h cf vM xs pc) (hF : FF w cf md tv) :
    Calls Tryd.prog 23 #[.pointer (some ⟨h, 0, none⟩), .agg #[.int .u32 wd, .bool tr, .int .u32 ca0, .int .u32 tl0, .int .u32 at_, .int .i64 wi, .bool st0], .int .u32 ca, .int .u32 tl] w
      fun e w' => e = .returned (.agg #[.int .u32 wd, .bool true, .int .u32 ca, .int .u32 tl, .int .u32 at_, .int .i64 wi, .bool st0]) ∧ HH w' h cf vM xs tv ∧ FF w' cf 3 tv ∧ Upd (fun k => k = h ∨ k = cf) w w' := by
  have hne := hH.ne hF
  have hlc := hF.lt
  have hlh := hH.lt
  obtain ⟨hl, hh⟩ := hH
  refine enter (args := [_, _, _, _]) (Γ := [(0, _), (1, _), (2, _), (3, _)]) Tryd.func23 Tryd.ntmps23 rfl (of_decide_eq_true rfl) (.cons rfl (.cons rfl (.cons rfl (.cons rfl .nil)))) ?_
  refine St.cls (C' := Hp w [⟨h, xs ++ [.int .u32 pc, .pointer (some ⟨cf, 0, none⟩), vM], 30⟩]) (fun _ h' => Hp.open h' hh) ?_
  repeat' (first | (apply Wl.boxA; exact rfl; exact rfl; intro c hc ho) | (apply Wl.alloc; exact rfl; intro c hc ho) | (apply Wl.nil) | (apply St.seq) | (apply St.region) | (apply Gt.next) | (apply Wl.splitP; exact rfl; exact rfl; all_goals (intros; try (exfalso; omega))) | (apply Wl.splitB; exact rfl; exact rfl; all_goals intros) | (apply St.condP; exact rfl; all_goals (intros; try (exfalso; omega))) | (apply St.condB; exact rfl; all_goals intros))
  rename_i cT hcT hoT
  have hF33 : ∀ (w' : World) (pc' : Int), w'.heap[h]? = some (.cells (xs ++ [.int .u32 pc', .pointer (some ⟨cf, 0, none⟩), vM]).toArray 30 (0, 0)) → w'.cell? ⟨h, 33, none⟩ = some (.pointer (some ⟨cf, 0, none⟩)) := fun w' pc' h' =>
    cell_of h' (by rw [show (33 : Nat) = xs.length + 1 by omega, List.getElem?_append_right (by omega), Nat.add_sub_cancel_left]; rfl)
  have hTc : cT < c ∨ c < cT := by have := ho.1; simp only at this; omega
  refine St.tree (fun w' => w'.cell? ⟨h, 33, none⟩ = some (.pointer (some ⟨cf, 0, none⟩))) mixed (fun _ h' => ⟨Hp.drew h', hF33 _ pc ((Hp.drew h').own.at (.tail _ (.tail _ (.head _))))⟩) ?_
  refine Mt.pure 0 (by decide +kernel) (by exact rfl) (by exact rfl) (by decide +kernel) (by decide +kernel) ?_
  repeat' (first | (apply Wl.move; exact rfl; exact rfl) | (apply Wl.nilM) | (apply Wl.splitP; exact rfl; exact rfl; all_goals (intros; try (exfalso; omega))) | (apply Wl.splitB; exact rfl; exact rfl; all_goals intros) | (apply St.condP; exact rfl; all_goals (intros; try (exfalso; omega))) | (apply St.condB; exact rfl; all_goals intros))
  apply Mt.back
  refine Mt.pure 1 (by decide +kernel) (by exact rfl) (by exact rfl) (by decide +kernel) (by decide +kernel) ?_
  repeat' (first | (apply Wl.move; exact rfl; exact rfl) | (apply Wl.nilM) | (apply Wl.splitP; exact rfl; exact rfl; all_goals (intros; try (exfalso; omega))) | (apply Wl.splitB; exact rfl; exact rfl; all_goals intros) | (apply St.condP; exact rfl; all_goals (intros; try (exfalso; omega))) | (apply St.condB; exact rfl; all_goals intros))
  apply Mt.back
  refine Mt.pure 2 (by decide +kernel) (by exact rfl) (by exact rfl) (by decide +kernel) (by decide +kernel) ?_
  repeat' (first | (apply Wl.nilCheck; exact rfl; exact rfl) | (apply Wl.nilM) | (apply Wl.splitP; exact rfl; exact rfl; all_goals (intros; try (exfalso; omega))) | (apply Wl.splitB; exact rfl; exact rfl; all_goals intros) | (apply St.condP; exact rfl; all_goals (intros; try (exfalso; omega))) | (apply St.condB; exact rfl; all_goals intros))
  apply Mt.back
  refine Mt.pure 3 (by decide +kernel) (by exact rfl) (by exact rfl) (by decide +kernel) (by decide +kernel) ?_
  repeat' (first | (apply Wl.fieldAddrZ; exact rfl; exact rfl) | (apply Wl.nilM) | (apply Wl.splitP; exact rfl; exact rfl; all_goals (intros; try (exfalso; omega))) | (apply Wl.splitB; exact rfl; exact rfl; all_goals intros) | (apply St.condP; exact rfl; all_goals (intros; try (exfalso; omega))) | (apply St.condB; exact rfl; all_goals intros))
  apply Mt.back
  refine Mt.pure 4 (by decide +kernel) (by exact rfl) (by exact rfl) (by decide +kernel) (by decide +kernel) ?_
  repeat' (first | (apply Wl.loadF; exact rfl; exact rfl; (intro w' h'; exact h')) | (apply Wl.nilM) | (apply Wl.splitP; exact rfl; exact rfl; all_goals (intros; try (exfalso; omega))) | (apply Wl.splitB; exact rfl; exact rfl; all_goals intros) | (apply St.condP; exact rfl; all_goals (intros; try (exfalso; omega))) | (apply St.condB; exact rfl; all_goals intros))
  apply Mt.back
  refine Mt.pure 5 (by decide +kernel) (by exact rfl) (by exact rfl) (by decide +kernel) (by decide +kernel) ?_
  repeat' (first | (apply Wl.move; exact rfl; exact rfl) | (apply Wl.nilM) | (apply Wl.splitP; exact rfl; exact rfl; all_goals (intros; try (exfalso; omega))) | (apply Wl.splitB; exact rfl; exact rfl; all_goals intros) | (apply St.condP; exact rfl; all_goals (intros; try (exfalso; omega))) | (apply St.condB; exact rfl; all_goals intros))
  apply Mt.back
  refine Mt.pure 6 (by decide +kernel) (by exact rfl) (by exact rfl) (by decide +kernel) (by decide +kernel) ?_
  repeat' (first | (apply Wl.nilCheck; exact rfl; exact rfl) | (apply Wl.nilM) | (apply Wl.splitP; exact rfl; exact rfl; all_goals (intros; try (exfalso; omega))) | (apply Wl.splitB; exact rfl; exact rfl; all_goals intros) | (apply St.condP; exact rfl; all_goals (intros; try (exfalso; omega))) | (apply St.condB; exact rfl; all_goals intros))
  apply Mt.back
  refine Mt.pure 7 (by decide +kernel) (by exact rfl) (by exact rfl) (by decide +kernel) (by decide +kernel) ?_
  repeat' (first | (apply Wl.fieldAddrZ; exact rfl; exact rfl) | (apply Wl.nilM) | (apply Wl.splitP; exact rfl; exact rfl; all_goals (intros; try (exfalso; omega))) | (apply Wl.splitB; exact rfl; exact rfl; all_goals intros) | (apply St.condP; exact rfl; all_goals (intros; try (exfalso; omega))) | (apply St.condB; exact rfl; all_goals intros))
  apply Mt.back
  refine Mt.pure 9 (by decide +kernel) (by exact rfl) (by exact rfl) (by decide +kernel) (by decide +kernel) ?_
  repeat' (first | (apply Wl.move; exact rfl; exact rfl) | (apply Wl.nilM) | (apply Wl.splitP; exact rfl; exact rfl; all_goals (intros; try (exfalso; omega))) | (apply Wl.splitB; exact rfl; exact rfl; all_goals intros) | (apply St.condP; exact rfl; all_goals (intros; try (exfalso; omega))) | (apply St.condB; exact rfl; all_goals intros))
  apply Mt.back
  refine Mt.pure 10 (by decide +kernel) (by exact rfl) (by exact rfl) (by decide +kernel) (by decide +kernel) ?_
  repeat' (first | (apply Wl.move; exact rfl; exact rfl) | (apply Wl.nilM) | (apply Wl.splitP; exact rfl; exact rfl; all_goals (intros; try (exfalso; omega))) | (apply Wl.splitB; exact rfl; exact rfl; all_goals intros) | (apply St.condP; exact rfl; all_goals (intros; try (exfalso; omega))) | (apply St.condB; exact rfl; all_goals intros))
  apply Mt.back
  refine Mt.eff1 (i := 8) (by decide +kernel) (by exact rfl) ?_
  repeat' (first | (apply Wl.loadHi 0; exact rfl; exact rfl; (repeat (first | exact List.Mem.head _ | apply List.Mem.tail)); exact hl; exact rfl; exact rfl) | (apply Wl.nil) | (apply Wl.splitP; exact rfl; exact rfl; all_goals (intros; try (exfalso; omega))) | (apply Wl.splitB; exact rfl; exact rfl; all_goals intros) | (apply St.condP; exact rfl; all_goals (intros; try (exfalso; omega))) | (apply St.condB; exact rfl; all_goals intros))
  refine Mt.backE (fun _ h' => hF33 _ pc (h'.own.at (.tail _ (.tail _ (.head _))))) ?_
  refine Mt.eff1 (i := 11) (by decide +kernel) (by exact rfl) ?_
  apply Wl.callC
  · exact rfl
  · (repeat (first | exact Evs.nil | apply Evs.cons rfl))
  intro wq hq
  refine (ftrap cf pc ca tl md tv wq (hF.upd hq.upd fun y => y ⟨by simp only; omega, by simp only; omega, fun e => hne e, trivial⟩)).mono ?_
  rintro e w1 ⟨rfl, f1, u1⟩
  refine ⟨_, _, rfl, Hp.rest hq u1 (by simp only [List.mem_cons, List.not_mem_nil, or_false, forall_eq_or_imp, forall_eq]; omega), ?_⟩
  have hsz := hq.upd.size
  have hqu := hq.upd
  have hfz := f1.lt
  clear hq
  repeat' (first | (apply Wl.nil) | (apply Wl.splitP; exact rfl; exact rfl; all_goals (intros; try (exfalso; omega))) | (apply Wl.splitB; exact rfl; exact rfl; all_goals intros) | (apply St.condP; exact rfl; all_goals (intros; try (exfalso; omega))) | (apply St.condB; exact rfl; all_goals intros))
  refine Mt.backE (fun _ h' => hF33 _ pc (h'.own.at (.tail _ (.tail _ (.head _))))) ?_
  refine Mt.pure 12 (by decide +kernel) (by exact rfl) (by exact rfl) (by decide +kernel) (by decide +kernel) ?_
  repeat' (first | (apply Wl.nilCheck; exact rfl; exact rfl) | (apply Wl.nilM) | (apply Wl.splitP; exact rfl; exact rfl; all_goals (intros; try (exfalso; omega))) | (apply Wl.splitB; exact rfl; exact rfl; all_goals intros) | (apply St.condP; exact rfl; all_goals (intros; try (exfalso; omega))) | (apply St.condB; exact rfl; all_goals intros))
  apply Mt.back
  refine Mt.pure 13 (by decide +kernel) (by exact rfl) (by exact rfl) (by decide +kernel) (by decide +kernel) ?_
  repeat' (first | (apply Wl.fieldAddrZ; exact rfl; exact rfl) | (apply Wl.nilM) | (apply Wl.splitP; exact rfl; exact rfl; all_goals (intros; try (exfalso; omega))) | (apply Wl.splitB; exact rfl; exact rfl; all_goals intros) | (apply St.condP; exact rfl; all_goals (intros; try (exfalso; omega))) | (apply St.condB; exact rfl; all_goals intros))
  apply Mt.back
  refine Mt.eff1 (i := 14) (by decide +kernel) (by exact rfl) ?_
  apply Wl.storeHi 0
  · exact rfl
  · exact rfl
  · exact rfl
  · (repeat (first | apply HSet.here | apply HSet.there))
  · exact hl
  · exact rfl
  · (repeat (first | apply LSet.z | apply LSet.s))
  repeat' (first | (apply Wl.nil) | (apply Wl.splitP; exact rfl; exact rfl; all_goals (intros; try (exfalso; omega))) | (apply Wl.splitB; exact rfl; exact rfl; all_goals intros) | (apply St.condP; exact rfl; all_goals (intros; try (exfalso; omega))) | (apply St.condB; exact rfl; all_goals intros))
  refine Mt.backE (fun _ h' => hF33 _ tv (h'.own.at (.tail _ (.tail _ (.head _))))) ?_
  refine Mt.toGt (by decide +kernel) ?_
  repeat' (first | (apply Wl.loadHi 1; exact rfl; exact rfl; (repeat (first | exact List.Mem.head _ | apply List.Mem.tail)); exact hl; exact rfl; exact rfl) | (apply Wl.move; exact rfl; exact rfl) | (apply Wl.nilCheck; exact rfl; exact rfl) | (apply Wl.fieldAddrZ; exact rfl; exact rfl) | (apply Wl.store; exact rfl; exact rfl; exact rfl; (repeat (first | apply HSet.here | apply HSet.there)); (repeat (first | apply LSet.z | apply LSet.s))) | (apply Wl.nil) | (apply St.seq) | (apply St.region) | (apply Gt.next) | (apply Wl.splitP; exact rfl; exact rfl; all_goals (intros; try (exfalso; omega))) | (apply Wl.splitB; exact rfl; exact rfl; all_goals intros) | (apply St.condP; exact rfl; all_goals (intros; try (exfalso; omega))) | (apply St.condB; exact rfl; all_goals intros))
  apply Wl.callC
  · exact rfl
  · (repeat (first | exact Evs.nil | apply Evs.cons rfl))
  intro wq2 hq2
  refine (ftick cf false 3 tv wq2 (f1.upd hq2.upd fun y => y ⟨by simp only; omega, by simp only; omega, fun e => hne e, trivial⟩)).mono ?_
  rintro e w2 ⟨rfl, f2, u2⟩
  refine ⟨_, _, rfl, Hp.rest hq2 u2 (by simp only [List.mem_cons, List.not_mem_nil, or_false, forall_eq_or_imp, forall_eq]; omega), ?_⟩
  have hsz2 := hq2.upd.size
  have hsz1 := u1.size
  have hqu2 := hq2.upd
  have hfz2 := f2.lt
  clear hq2
  repeat' (first | (apply Gt.outC'; exact rfl; infer_instance; exact rfl; (repeat (first | exact List.Mem.head _ | apply List.Mem.tail)); (repeat (first | apply LSub.z | apply LSub.t | apply LSub.s)); intro w' hp) | (apply Wl.storeA; exact rfl; exact rfl; exact rfl; exact rfl; (repeat (first | apply HSet.here | apply HSet.there)); (repeat (first | apply LPut.s | apply LPut.z | apply LOver.nil | apply LOver.cons))) | (apply Wl.loadAH; exact rfl; exact rfl; (repeat (first | exact List.Mem.head _ | apply List.Mem.tail)); (repeat (first | apply LSub.z | apply LSub.t | apply LSub.s))) | (apply Wl.nil) | (apply St.seq) | (apply St.region) | (apply St.ret) | (apply Gt.next) | (apply Wl.splitP; exact rfl; exact rfl; all_goals (intros; try (exfalso; omega))) | (apply Wl.splitB; exact rfl; exact rfl; all_goals intros) | (apply St.condP; exact rfl; all_goals (intros; try (exfalso; omega))) | (apply St.condB; exact rfl; all_goals intros))
  have key : ∀ (a b : World) (x1 x2 x3 : List Value) (t1 t2 t3 : Nat), w.heap.size ≤ a.heap.size → Upd (fun k => ¬ Off [⟨c, x1, t1⟩, ⟨cT, x2, t2⟩, ⟨h, x3, t3⟩] k) a b → Upd (fun k => k = h ∨ w.heap.size ≤ k) a b := fun a b x1 x2 x3 t1 t2 t3 _ u =>
    u.mono fun k _ hs => Classical.byContradiction fun z => hs ⟨fun e => z (.inr (by simp only at e; omega)), fun e => z (.inr (by simp only at e; omega)), fun e => z (.inl e.symm), trivial⟩
  have key2 : Upd (fun k => k = h ∨ k = cf ∨ w.heap.size ≤ k) w w' :=
    ((((key _ _ _ _ _ _ _ _ (Nat.le_refl _) hqu).mono fun k _ hs => hs.elim .inl fun e => .inr (.inr e)).trans (u1.mono fun k _ e => .inr (.inl e))).trans (((key _ _ _ _ _ _ _ _ (by omega) hqu2).mono fun k _ hs => hs.elim .inl fun e => .inr (.inr e)).trans (u2.mono fun k _ e => .inr (.inl e)))).trans
      ((key _ _ _ _ _ _ _ _ (by have := u2.size; omega) hp.upd).mono fun k _ hs => hs.elim .inl fun e => .inr (.inr e))
  exact ⟨rfl, ⟨hl, hp.own.2.2.1⟩, f2.upd hp.upd fun y => y ⟨by simp only; omega, by simp only; omega, fun e => hne e, trivial⟩, key2.mono fun k hk hs => by rcases hs with e | e | e; exact .inl e; exact .inr e; omega⟩
end Go.Proofs.YtcefkbnachnciaaDoor
