/-
  The law HartNone: its walk; the example of the laws of layer 16. Conditions: none.
-/
import Derived.Test.YtcefkbnachnciaaDoorHartD
namespace Go.Pt
open Go.RowKit
section
variable {P : Program} {md : Md} {N : Nat} {ops : Array Oper} {rest : List Oper} {Γ : Env} {C : World → Prop} {Q : Exit → Act → World → Prop} {d : Nat} {ty : TypeId} {pos : String} {af : Array Edge} {t u : TypeId} {x y : Operand}
/-- a field of a struct that is a value -/
theorem Wl.fieldV {s i off ft : Nat} [hf : Fld P s i off ft] [TyC P ft] {cs : List Value} {v : Value} (hd : Nat.blt d N = true) (hx : ev Γ x = some (.agg cs.toArray)) (hv : cs[off]? = some v) (h : Wl rest P md ops N ((d, v) :: Γ) C Q) :
    Wl (⟨some d, .field s x i, ty, pos, af, none⟩ :: rest) P md ops N Γ C Q :=
  Wl.val hd (fun a w ha _ => by
    have h := hf.out
    unfold fieldB at h
    split at h <;> try cases h
    rename_i fs hfs
    cases e : fs[i]? with
    | none => rw [e] at h; cases h
    | some f =>
      rw [e] at h; simp at h
      obtain ⟨h1, h2, h3⟩ := h
      subst h1 h2
      have hv' : cs.toArray[f.offset]? = some v := by simpa using hv
      simp [execOp, ha.ev hx, Instr.field, run_underlying hfs, e, part, run_aggC (P := P) (t := f.type), asAgg, hv]) h
/-- structs compared whole -/
theorem Wl.eqlG {xs ys : Array Value} {la lb : List Lit} (hd : Nat.blt d N = true) (hx : ev Γ x = some (.agg xs)) (hy : ev Γ y = some (.agg ys)) (hk : P.keyTypeAt 8 t = true) (hg0 : P.eqGuardType P.depth t = false) (fx : (Value.agg xs).formed P t = true) (fy : (Value.agg ys).formed P t = true)
    (hlx : P.keyLits 8 t xs.toList = some la) (hly : P.keyLits 8 t ys.toList = some lb) (b : Bool) (hb : b = true ↔ la = lb) (h : Wl rest P md ops N ((d, .bool b) :: Γ) C Q) : Wl (⟨some d, .binOp .eql t x y u, ty, pos, af, none⟩ :: rest) P md ops N Γ C Q :=
  Wl.val hd (fun a w ha _ => by
    obtain ⟨r, h1, _, h3⟩ := run_neq_agg (P := P) w (t := t) hk fx fy hlx hly
    have : r = b := by rw [Bool.eq_iff_iff, h3, hb]
    subst this
    simp only [execOp, ha.ev hx, ha.ev hy, pure_bind, Sem.run_bind, guard_agg (P := P) hg0, Result.andThen_ok, h1]; rfl) h
end
end Go.Pt
namespace Go.Proofs.YtcefkbnachnciaaDoor
open Go.RowKit Go.Pt
set_option maxHeartbeats 4000000 in
theorem hnew (a : Option Addr) (w : World) : Calls Tryd.prog 8 #[.pointer a] w fun e w' => ∃ h cf, e = .returned (.pointer (some ⟨h, 0, none⟩)) ∧ Hp w [⟨h, xz ++ [Value.int .u32 0, Value.pointer (some ⟨cf, 0, none⟩), Value.pointer a], 30⟩, ⟨cf, fz 0, 54⟩] w' ∧ w.heap.size ≤ h ∧ w.heap.size ≤ cf ∧ h ≠ cf := by
  refine enter (args := [_]) (Γ := [(0, _)]) Tryd.func8 Tryd.ntmps8 rfl (of_decide_eq_true rfl) (.cons rfl .nil) ?_
  repeat' (first | (apply Gt.inl1; exact rfl; exact rfl) | (apply Wl.inline; exact rfl; (repeat (first | exact Evs.nil | apply Evs.cons rfl)); exact rfl; exact rfl) | (apply Wl.move; exact rfl; exact rfl) | (apply Wl.assign; exact rfl; exact rfl) | (apply Wl.buildS; exact rfl; (repeat (first | exact Parts.nil | apply Parts.cons rfl)); (repeat (first | apply Fills.nil | (apply Fills.one; exact rfl; exact rfl; (repeat (first | apply LSet.z | apply LSet.s))) | (apply Fills.agg; exact rfl; exact rfl; (repeat (first | apply LPut.s | apply LPut.z | apply LOver.nil | apply LOver.cons)))))) | (apply Wl.boxA; exact rfl; exact rfl; intro c hc ho) | (apply Wl.nil) | (apply St.seq) | (apply St.region) | (apply St.ret) | (apply Gt.next) | (apply Gt.out1; exact rfl; exact rfl; intro w' hp) | (apply Wl.splitP; exact rfl; exact rfl; all_goals (intros; try (exfalso; omega))) | (apply Wl.splitB; exact rfl; exact rfl; all_goals intros) | (apply St.condP; exact rfl; all_goals (intros; try (exfalso; omega))) | (apply St.condB; exact rfl; all_goals intros))
  rename_i cf hcf hof
  exact ⟨_, _, rfl, hp, hc, hcf, fun e => ho.1 e.symm⟩
theorem Hp.two {w wq w1 : World} {m : Blk} {h cf t t2 : Nat} {xs ys xs' ys' : List Value} (hq : Hp w [m, ⟨h, xs, t⟩, ⟨cf, ys, t2⟩] wq) (hd : Hp wq [⟨h, xs', t⟩, ⟨cf, ys', t2⟩] w1) : Hp w [m, ⟨h, xs', t⟩, ⟨cf, ys', t2⟩] w1 := by
  have a1 := hq.apart.1.1
  have a2 := hq.apart.1.2.1
  exact ⟨(hq.upd.mono (S' := fun k => ¬ Off [m, ⟨h, xs', t⟩, ⟨cf, ys', t2⟩] k) fun k _ hs y => hs ⟨y.1, y.2.1, y.2.2.1, trivial⟩).trans (hd.upd.mono fun k _ hs y => hs y.2), ⟨hd.upd.heap (hq.own.at (.head _)) fun y => y ⟨a1, a2, trivial⟩, hd.own.1, hd.own.2.1, trivial⟩, ⟨⟨a1, a2, trivial⟩, ⟨hd.apart.1.1, trivial⟩, trivial, trivial⟩⟩
theorem newHp {w wq w1 : World} {S : Nat → Prop} (h : Upd (fun k => w.heap.size ≤ k) w wq) (u : Upd S wq w1) (hs : ∀ k, S k → w.heap.size ≤ k) : Hp w [] w1 :=
  ⟨(h.comp u (T := fun k => w.heap.size ≤ k) fun k _ e => e.elim id (hs k)).mono fun k hk e => by omega, trivial, trivial⟩
set_option maxHeartbeats 8000000 in
theorem fit16 (w : World) : Calls Tryd.prog 7 #[] w fun e w' => e = .returned (.bool true) ∧ Hp w [] w' := by
  refine enter (args := []) (Γ := []) Tryd.func7 Tryd.ntmps7 rfl (of_decide_eq_true rfl) .nil ?_
  repeat' (first | (apply Wl.assign; exact rfl; exact rfl) | (apply Wl.nil) | (apply St.seq) | (apply St.region) | (apply Gt.next) | (apply Wl.splitP; exact rfl; exact rfl; all_goals (intros; try (exfalso; omega))) | (apply Wl.splitB; exact rfl; exact rfl; all_goals intros) | (apply St.condP; exact rfl; all_goals (intros; try (exfalso; omega))) | (apply St.condB; exact rfl; all_goals intros))
  apply Wl.callC
  · exact rfl
  · (repeat (first | exact Evs.nil | apply Evs.cons rfl))
  intro wq hq
  refine (newMem wq).mono ?_
  rintro e w1 ⟨cM, rfl, hp, hcM⟩
  have hsz := hq.upd.size
  have hcM0 : w.heap.size ≤ cM := by omega
  refine ⟨_, _, rfl, hq.callNew hp hcM, ?_⟩
  clear hp hq hsz hcM w1 wq
  repeat' (first | (apply Wl.move; exact rfl; exact rfl) | (apply Wl.assign; exact rfl; exact rfl) | (apply Wl.nil) | (apply St.seq) | (apply St.region) | (apply Gt.next) | (apply Wl.splitP; exact rfl; exact rfl; all_goals (intros; try (exfalso; omega))) | (apply Wl.splitB; exact rfl; exact rfl; all_goals intros) | (apply St.condP; exact rfl; all_goals (intros; try (exfalso; omega))) | (apply St.condB; exact rfl; all_goals intros))
  apply Wl.callC
  · exact rfl
  · (repeat (first | exact Evs.nil | apply Evs.cons rfl))
  intro wq hq
  refine (mstore cM 2147487744 4 5243155 (fun _ => 0) wq (by decide) (.inr (.inr rfl)) (hq.own.at (.head _))).mono ?_
  rintro e w1 ⟨⟨v, rfl⟩, hp⟩
  have hp' : Hp wq [⟨cM, memC fitF, 94⟩] w1 := hp
  refine ⟨_, _, rfl, hq.callSet (by (repeat (first | apply HSet.here | apply HSet.there))) hp', ?_⟩
  clear hp hp' hq w1 wq
  repeat' (first | (apply Wl.move; exact rfl; exact rfl) | (apply Wl.nil) | (apply St.seq) | (apply St.region) | (apply Gt.next) | (apply Wl.splitP; exact rfl; exact rfl; all_goals (intros; try (exfalso; omega))) | (apply Wl.splitB; exact rfl; exact rfl; all_goals intros) | (apply St.condP; exact rfl; all_goals (intros; try (exfalso; omega))) | (apply St.condB; exact rfl; all_goals intros))
  apply Wl.callC
  · exact rfl
  · (repeat (first | exact Evs.nil | apply Evs.cons rfl))
  intro wq hq
  refine (hnew _ wq).mono ?_
  rintro e w1 ⟨h, cf, rfl, hp, hh, hf, hne⟩
  have hsz := hq.upd.size
  have hlm := hq.own.lt (.head _)
  simp only at hlm
  have hq1 : Hp w [⟨cM, memC fitF, 94⟩, ⟨h, xz ++ [Value.int .u32 0, Value.pointer (some ⟨cf, 0, none⟩), Value.pointer (some ⟨cM, 0, none⟩)], 30⟩, ⟨cf, fz 0, 54⟩] w1 :=
    ⟨(hq.upd.mono (S' := fun k => ¬ Off [⟨cM, memC fitF, 94⟩, ⟨h, xz ++ [Value.int .u32 0, Value.pointer (some ⟨cf, 0, none⟩), Value.pointer (some ⟨cM, 0, none⟩)], 30⟩, ⟨cf, fz 0, 54⟩] k) fun k hk hs y => hs ⟨y.1, trivial⟩).trans (hp.upd.mono fun k hk hs y => hs y.2),
      ⟨hp.upd.heap (hq.own.at (.head _)) fun y => y ⟨by simp only; omega, by simp only; omega, trivial⟩, hp.own.1, hp.own.2.1, trivial⟩, ⟨⟨by simp only; omega, by simp only; omega, trivial⟩, ⟨fun e => hne e.symm, trivial⟩, trivial, trivial⟩⟩
  refine ⟨_, _, rfl, hq1, ?_⟩
  have hh' : w.heap.size ≤ h := by omega
  have hf' : w.heap.size ≤ cf := by omega
  have hmh : cM < h := by omega
  have hmf : cM < cf := by omega
  clear hp hq hq1 hsz hlm hh hf w1 wq
  repeat' (first | (apply Wl.storeHi 0; exact rfl; exact rfl; exact rfl; (repeat (first | apply HSet.here | apply HSet.there)); exact rfl; exact rfl; (repeat (first | apply LSet.z | apply LSet.s))) | (apply Wl.move; exact rfl; exact rfl) | (apply Wl.assign; exact rfl; exact rfl) | (apply Wl.on; exact rfl; exact rfl; (first | with_reducible rfl | with_reducible assumption | decide)) | (apply Wl.nilCheck; exact rfl; exact rfl) | (apply Wl.pickF; exact rfl; exact rfl; (first | with_reducible rfl | with_reducible assumption | decide); exact rfl) | (apply Wl.fieldAddrZ; exact rfl; exact rfl) | (apply Wl.loadH; exact rfl; exact rfl; (repeat (first | exact List.Mem.head _ | apply List.Mem.tail)); exact rfl) | (apply Wl.eqlPN; exact rfl; exact rfl; exact rfl) | (apply Wl.nil) | (apply St.seq) | (apply St.region) | (apply St.condF; exact rfl; (first | with_reducible rfl | with_reducible assumption | decide)) | (apply St.skip) | (apply Gt.next) | (apply Wl.splitP; exact rfl; exact rfl; all_goals (intros; try (exfalso; omega))) | (apply Wl.splitB; exact rfl; exact rfl; all_goals intros) | (apply St.condP; exact rfl; all_goals (intros; try (exfalso; omega))) | (apply St.condB; exact rfl; all_goals intros))
  apply Wl.callC
  · exact rfl
  · (repeat (first | exact Evs.nil | apply Evs.cons rfl))
  intro wq hq
  refine (step5 h cf cM wq hne (hq.own.at (.tail _ (.head _))) (hq.own.at (.tail _ (.tail _ (.head _)))) (hq.own.at (.head _))).mono ?_
  rintro e w1 ⟨rfl, hd⟩
  refine ⟨_, _, rfl, Hp.two hq hd, ?_⟩
  clear hq hd wq w1
  repeat' (first | (apply Wl.move; exact rfl; exact rfl) | (apply Wl.on; exact rfl; exact rfl; (first | with_reducible rfl | with_reducible assumption | decide)) | (apply Wl.nilCheck; exact rfl; exact rfl) | (apply Wl.pickT; exact rfl; exact rfl; (first | with_reducible rfl | with_reducible assumption | decide); exact rfl) | (apply Wl.not; exact rfl; exact rfl) | (apply Wl.fieldAddr0; exact rfl; exact rfl) | (apply Wl.fieldAddrZ; exact rfl; exact rfl) | (apply Wl.loadH; exact rfl; exact rfl; (repeat (first | exact List.Mem.head _ | apply List.Mem.tail)); exact rfl) | (apply Wl.eqlIs; exact rfl; exact rfl; exact rfl; (first | with_reducible assumption | with_reducible rfl)) | (apply Wl.storeA; exact rfl; exact rfl; exact rfl; exact rfl; (repeat (first | apply HSet.here | apply HSet.there)); (repeat (first | apply LPut.s | apply LPut.z | apply LOver.nil | apply LOver.cons))) | (apply Wl.alloc; exact rfl; intro c hc ho) | (apply Wl.indexArr; exact rfl; exact rfl; exact rfl; (constructor <;> omega)) | (apply Wl.nil) | (apply St.seq) | (apply St.region) | (apply Gt.next) | (apply Wl.splitP; exact rfl; exact rfl; all_goals (intros; try (exfalso; omega))) | (apply Wl.splitB; exact rfl; exact rfl; all_goals intros) | (apply St.condP; exact rfl; all_goals (intros; try (exfalso; omega))) | (apply St.condB; exact rfl; all_goals intros))
  apply Wl.callC
  · exact rfl
  · (repeat (first | exact Evs.nil | apply Evs.cons rfl))
  intro wq hq
  refine (step0 h cf cM wq hne (hq.own.at (.tail _ (.tail _ (.head _)))) (hq.own.at (.tail _ (.tail _ (.tail _ (.head _))))) (hq.own.at (.tail _ (.head _)))).mono ?_
  rintro e w1 ⟨rfl, u1⟩
  refine ⟨_, _, rfl, newHp (onlyNew hq (by simp only [List.mem_cons, List.not_mem_nil, or_false, forall_eq_or_imp, forall_eq]; omega)) u1 (by intro k hk; omega), ?_⟩
  clear hq u1 wq w1
  repeat' (first | (apply Wl.fieldV; exact rfl; exact rfl; exact rfl) | (apply Wl.assign; exact rfl; exact rfl) | (apply Wl.on; exact rfl; exact rfl; (first | with_reducible rfl | with_reducible assumption | decide)) | (apply Wl.pickT; exact rfl; exact rfl; (first | with_reducible rfl | with_reducible assumption | decide); exact rfl) | (apply Wl.eqlIs; exact rfl; exact rfl; exact rfl; (first | with_reducible assumption | with_reducible rfl)) | (apply Wl.nil) | (apply St.ret) | (apply Gt.next) | (apply Gt.out1; exact rfl; exact rfl; intro w' hp) | (apply Wl.splitP; exact rfl; exact rfl; all_goals (intros; try (exfalso; omega))) | (apply Wl.splitB; exact rfl; exact rfl; all_goals intros) | (apply St.condP; exact rfl; all_goals (intros; try (exfalso; omega))) | (apply St.condB; exact rfl; all_goals intros))
  exact ⟨rfl, hp⟩
theorem stepNil (w : World) : Calls Tryd.prog 9 #[.pointer none] w fun e w' => e = .returned (.agg #[.int .u32 0, .bool false, .int .u32 0, .int .u32 0, .int .u32 0, .int .i64 0, .bool false]) ∧ Hp w [] w' := by
  refine enter (args := [_]) (Γ := [(0, _)]) Tryd.func9 Tryd.ntmps9 rfl (of_decide_eq_true rfl) (.cons rfl .nil) ?_
  repeat' (first | (apply Gt.outC'; exact rfl; infer_instance; exact rfl; (repeat (first | exact List.Mem.head _ | apply List.Mem.tail)); (repeat (first | apply LSub.z | apply LSub.t | apply LSub.s)); intro w' hp) | (apply Wl.move; exact rfl; exact rfl) | (apply Wl.eqlNN; exact rfl; exact rfl; exact rfl) | (apply Wl.storeA; exact rfl; exact rfl; exact rfl; exact rfl; (repeat (first | apply HSet.here | apply HSet.there)); (repeat (first | apply LPut.s | apply LPut.z | apply LOver.nil | apply LOver.cons))) | (apply Wl.buildS; exact rfl; (repeat (first | exact Parts.nil | apply Parts.cons rfl)); (repeat (first | apply Fills.nil | (apply Fills.one; exact rfl; exact rfl; (repeat (first | apply LSet.z | apply LSet.s))) | (apply Fills.agg; exact rfl; exact rfl; (repeat (first | apply LPut.s | apply LPut.z | apply LOver.nil | apply LOver.cons)))))) | (apply Wl.alloc; exact rfl; intro c hc ho) | (apply Wl.nil) | (apply St.seq) | (apply St.region) | (apply St.condT; exact rfl; (first | with_reducible rfl | with_reducible assumption | decide)) | (apply St.ret) | (apply Gt.next) | (apply Gt.thenRet) | (apply Wl.splitP; exact rfl; exact rfl; all_goals (intros; try (exfalso; omega))) | (apply Wl.splitB; exact rfl; exact rfl; all_goals intros) | (apply St.condP; exact rfl; all_goals (intros; try (exfalso; omega))) | (apply St.condB; exact rfl; all_goals intros))
  exact ⟨rfl, hp.drop (by simp; omega)⟩
set_option maxHeartbeats 8000000 in
theorem none16 (pc : Int) (w : World) (hpc : 0 ≤ pc ∧ pc < 4294967296) : Calls Tryd.prog 3 #[.int .u32 pc] w fun e w' => e = .returned (.bool true) ∧ Hp w [] w' := by
  refine enter (args := [_]) (Γ := [(0, _)]) Tryd.func3 Tryd.ntmps3 rfl (of_decide_eq_true rfl) (.cons rfl .nil) ?_
  repeat' (first | (apply Wl.assign; exact rfl; exact rfl) | (apply Wl.nil) | (apply St.seq) | (apply St.region) | (apply Gt.next) | (apply Wl.splitP; exact rfl; exact rfl; all_goals (intros; try (exfalso; omega))) | (apply Wl.splitB; exact rfl; exact rfl; all_goals intros) | (apply St.condP; exact rfl; all_goals (intros; try (exfalso; omega))) | (apply St.condB; exact rfl; all_goals intros))
  apply Wl.callQ
  exact rfl
  (repeat (first | exact Evs.nil | apply Evs.cons rfl))
  · intro wq hq
    refine (fit16 wq).mono ?_
    rintro e wr ⟨rfl, hr⟩
    exact ⟨rfl, hq.keep hr⟩
  repeat' (first | (apply Wl.assign; exact rfl; exact rfl) | (apply Wl.not; exact rfl; exact rfl) | (apply Wl.nil) | (apply St.seq) | (apply St.region) | (apply St.condF; exact rfl; (first | with_reducible rfl | with_reducible assumption | decide)) | (apply St.skip) | (apply Gt.next) | (apply Wl.splitP; exact rfl; exact rfl; all_goals (intros; try (exfalso; omega))) | (apply Wl.splitB; exact rfl; exact rfl; all_goals intros) | (apply St.condP; exact rfl; all_goals (intros; try (exfalso; omega))) | (apply St.condB; exact rfl; all_goals intros))
  apply Wl.callC
  · exact rfl
  · (repeat (first | exact Evs.nil | apply Evs.cons rfl))
  intro wq hq
  refine (hnew _ wq).mono ?_
  rintro e w1 ⟨h, cf, rfl, hp, hh, hf, hne⟩
  have hsz := hq.upd.size
  have hq1 : Hp w [⟨h, xz ++ [Value.int .u32 0, Value.pointer (some ⟨cf, 0, none⟩), Value.pointer none], 30⟩, ⟨cf, fz 0, 54⟩] w1 :=
    ⟨(hq.upd.mono (S' := fun k => ¬ Off [⟨h, xz ++ [Value.int .u32 0, Value.pointer (some ⟨cf, 0, none⟩), Value.pointer none], 30⟩, ⟨cf, fz 0, 54⟩] k) fun k hk hs y => hs trivial).trans hp.upd, hp.own, hp.apart⟩
  refine ⟨_, _, rfl, hq1, ?_⟩
  have hh' : w.heap.size ≤ h := by omega
  have hf' : w.heap.size ≤ cf := by omega
  clear hp hq hq1 hsz hh hf w1 wq
  repeat' (first | (apply Wl.storeHi 0; exact rfl; exact rfl; exact rfl; (repeat (first | apply HSet.here | apply HSet.there)); exact rfl; exact rfl; (repeat (first | apply LSet.z | apply LSet.s))) | (apply Wl.move; exact rfl; exact rfl) | (apply Wl.assign; exact rfl; exact rfl) | (apply Wl.nilCheck; exact rfl; exact rfl) | (apply Wl.fieldAddrZ; exact rfl; exact rfl) | (apply Wl.nil) | (apply St.seq) | (apply St.region) | (apply Gt.next) | (apply Wl.splitP; exact rfl; exact rfl; all_goals (intros; try (exfalso; omega))) | (apply Wl.splitB; exact rfl; exact rfl; all_goals intros) | (apply St.condP; exact rfl; all_goals (intros; try (exfalso; omega))) | (apply St.condB; exact rfl; all_goals intros))
  apply Wl.callC
  · exact rfl
  · (repeat (first | exact Evs.nil | apply Evs.cons rfl))
  intro wq hq
  refine (stepN h cf pc wq hpc hne (hq.own.at (.head _)) (hq.own.at (.tail _ (.head _)))).mono ?_
  rintro e w1 ⟨rfl, k1, u1⟩
  have hb := newHp (onlyNew hq (by simp only [List.mem_cons, List.not_mem_nil, or_false, forall_eq_or_imp, forall_eq]; omega)) u1 (by intro k hk; omega)
  have hb2 : Hp w [⟨h, xz ++ [Value.int .u32 0, Value.pointer (some ⟨cf, 0, none⟩), Value.pointer none], 30⟩] w1 := ⟨hb.upd.mono fun k _ y => (y trivial).elim, ⟨k1.2, trivial⟩, ⟨trivial, trivial⟩⟩
  refine ⟨_, _, rfl, hb2, ?_⟩
  clear hq u1 hb hb2 k1 wq w1
  by_cases h4 : pc % 4 ≠ 0
  · rw [if_pos h4]
    repeat' (first | (apply Wl.rem32E; exact rfl; exact rfl; exact rfl; (decide); (omega)) | (apply Wl.move; exact rfl; exact rfl) | (apply Wl.assign; exact rfl; exact rfl) | (apply Wl.neq; exact rfl; exact rfl; exact rfl) | (apply Wl.storeA; exact rfl; exact rfl; exact rfl; exact rfl; (repeat (first | apply HSet.here | apply HSet.there)); (repeat (first | apply LPut.s | apply LPut.z | apply LOver.nil | apply LOver.cons))) | (apply Wl.alloc; exact rfl; intro c hc ho) | (apply Wl.nil) | (apply St.seq) | (apply St.region) | (apply Gt.next) | (apply Wl.splitP; exact rfl; exact rfl; all_goals (intros; try (exfalso; omega))) | (apply Wl.splitB; exact rfl; exact rfl; all_goals intros) | (apply St.condP; exact rfl; all_goals (intros; try (exfalso; omega))) | (apply St.condB; exact rfl; all_goals intros))
    apply Wl.callQ
    exact rfl
    (repeat (first | exact Evs.nil | apply Evs.cons rfl))
    · intro wq hq
      refine (stepNil wq).mono ?_
      rintro e wr ⟨rfl, hr⟩
      exact ⟨rfl, hq.keep hr⟩
    repeat' (first | (apply Wl.eqlG (la := [Lit.int .u32 0, Lit.bool false, Lit.int .u32 0, Lit.int .u32 0, Lit.int .u32 0, Lit.int .i64 0, Lit.bool false]) (lb := [Lit.int .u32 0, Lit.bool false, Lit.int .u32 0, Lit.int .u32 0, Lit.int .u32 0, Lit.int .i64 0, Lit.bool false]); exact rfl; exact rfl; exact rfl; (kernel_rfl); (kernel_rfl); (kernel_rfl); (kernel_rfl); (kernel_rfl); (kernel_rfl); exact (⟨fun _ => rfl, fun _ => rfl⟩ : true = true ↔ _ = _)) | (apply Wl.move; exact rfl; exact rfl) | (apply Wl.assign; exact rfl; exact rfl) | (apply Wl.on; exact rfl; exact rfl; (first | with_reducible rfl | with_reducible assumption | decide)) | (apply Wl.nilCheck; exact rfl; exact rfl) | (apply Wl.pickT; exact rfl; exact rfl; (first | with_reducible rfl | with_reducible assumption | decide); exact rfl) | (apply Wl.fieldAddrZ; exact rfl; exact rfl) | (apply Wl.loadH; exact rfl; exact rfl; (repeat (first | exact List.Mem.head _ | apply List.Mem.tail)); exact rfl) | (apply Wl.eqlIs; exact rfl; exact rfl; exact rfl; (first | with_reducible assumption | with_reducible rfl)) | (apply Wl.buildS; exact rfl; (repeat (first | exact Parts.nil | apply Parts.cons rfl)); (repeat (first | apply Fills.nil | (apply Fills.one; exact rfl; exact rfl; (repeat (first | apply LSet.z | apply LSet.s))) | (apply Fills.agg; exact rfl; exact rfl; (repeat (first | apply LPut.s | apply LPut.z | apply LOver.nil | apply LOver.cons)))))) | (apply Wl.nil) | (apply St.ret) | (apply Gt.next) | (apply Gt.out1; exact rfl; exact rfl; intro w' hp) | (apply Wl.splitP; exact rfl; exact rfl; all_goals (intros; try (exfalso; omega))) | (apply Wl.splitB; exact rfl; exact rfl; all_goals intros) | (apply St.condP; exact rfl; all_goals (intros; try (exfalso; omega))) | (apply St.condB; exact rfl; all_goals intros))
    exact ⟨rfl, hp.drop (by simp only [List.mem_cons, List.not_mem_nil, or_false, forall_eq_or_imp, forall_eq]; omega)⟩
  · rw [if_neg h4]
    repeat' (first | (apply Wl.rem32E; exact rfl; exact rfl; exact rfl; (decide); (omega)) | (apply Wl.move; exact rfl; exact rfl) | (apply Wl.assign; exact rfl; exact rfl) | (apply Wl.neq; exact rfl; exact rfl; exact rfl) | (apply Wl.storeA; exact rfl; exact rfl; exact rfl; exact rfl; (repeat (first | apply HSet.here | apply HSet.there)); (repeat (first | apply LPut.s | apply LPut.z | apply LOver.nil | apply LOver.cons))) | (apply Wl.alloc; exact rfl; intro c hc ho) | (apply Wl.nil) | (apply St.seq) | (apply St.region) | (apply St.skip) | (apply Gt.next) | (apply Wl.splitP; exact rfl; exact rfl; all_goals (intros; try (exfalso; omega))) | (apply Wl.splitB; exact rfl; exact rfl; all_goals intros) | (apply St.condP; exact rfl; all_goals (intros; try (exfalso; omega))) | (apply St.condB; exact rfl; all_goals intros))
    apply Wl.callQ
    exact rfl
    (repeat (first | exact Evs.nil | apply Evs.cons rfl))
    · intro wq hq
      refine (stepNil wq).mono ?_
      rintro e wr ⟨rfl, hr⟩
      exact ⟨rfl, hq.keep hr⟩
    repeat' (first | (apply Wl.eqlG (la := [Lit.int .u32 0, Lit.bool false, Lit.int .u32 0, Lit.int .u32 0, Lit.int .u32 0, Lit.int .i64 0, Lit.bool false]) (lb := [Lit.int .u32 0, Lit.bool false, Lit.int .u32 0, Lit.int .u32 0, Lit.int .u32 0, Lit.int .i64 0, Lit.bool false]); exact rfl; exact rfl; exact rfl; (kernel_rfl); (kernel_rfl); (kernel_rfl); (kernel_rfl); (kernel_rfl); (kernel_rfl); exact (⟨fun _ => rfl, fun _ => rfl⟩ : true = true ↔ _ = _)) | (apply Wl.move; exact rfl; exact rfl) | (apply Wl.assign; exact rfl; exact rfl) | (apply Wl.on; exact rfl; exact rfl; (first | with_reducible rfl | with_reducible assumption | decide)) | (apply Wl.nilCheck; exact rfl; exact rfl) | (apply Wl.pickT; exact rfl; exact rfl; (first | with_reducible rfl | with_reducible assumption | decide); exact rfl) | (apply Wl.fieldAddrZ; exact rfl; exact rfl) | (apply Wl.loadH; exact rfl; exact rfl; (repeat (first | exact List.Mem.head _ | apply List.Mem.tail)); exact rfl) | (apply Wl.eqlIs; exact rfl; exact rfl; exact rfl; (first | with_reducible assumption | with_reducible rfl)) | (apply Wl.buildS; exact rfl; (repeat (first | exact Parts.nil | apply Parts.cons rfl)); (repeat (first | apply Fills.nil | (apply Fills.one; exact rfl; exact rfl; (repeat (first | apply LSet.z | apply LSet.s))) | (apply Fills.agg; exact rfl; exact rfl; (repeat (first | apply LPut.s | apply LPut.z | apply LOver.nil | apply LOver.cons)))))) | (apply Wl.nil) | (apply St.ret) | (apply Gt.next) | (apply Gt.out1; exact rfl; exact rfl; intro w' hp) | (apply Wl.splitP; exact rfl; exact rfl; all_goals (intros; try (exfalso; omega))) | (apply Wl.splitB; exact rfl; exact rfl; all_goals intros) | (apply St.condP; exact rfl; all_goals (intros; try (exfalso; omega))) | (apply St.condB; exact rfl; all_goals intros))
    exact ⟨rfl, hp.drop (by simp only [List.mem_cons, List.not_mem_nil, or_false, forall_eq_or_imp, forall_eq]; omega)⟩
end Go.Proofs.YtcefkbnachnciaaDoor
