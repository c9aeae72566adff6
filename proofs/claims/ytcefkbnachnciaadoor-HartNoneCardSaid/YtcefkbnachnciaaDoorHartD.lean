/-
  The example's two steps. Conditions: the blocks are the example's.
-/
import Derived.Test.YtcefkbnachnciaaDoorInst
namespace Go.Pt
open Go.RowKit
theorem Gt.inlC' {P : Program} {N N' d : Nat} {ops : Array Oper} {rest : List Oper} {Γ Γ' : Env} {Q : Exit → Act → World → Prop} {w0 : World} {H : List Blk} {fn : Func} {t ty n c i bt : Nat} {cs xs : List Value} (hr : fn.results = #[.cell t ty]) (hT : TyA P ty n) (ht : look Γ' t = some (.pointer (some ⟨c, i, none⟩))) (hm : (⟨c, cs, bt⟩ : Blk) ∈ H) (hi' : LSub cs i n xs)
    (h : Wl rest P .seq ops N ((d, .agg xs.toArray) :: Γ) (Hp w0 H) Q) : Gt N' .ret Γ' (Hp w0 H) (bodyPost P fn (InlPost P ops N d rest Γ Q)) := Gt.inlC hr ht hm hi' h
end Go.Pt
namespace Go.Proofs.YtcefkbnachnciaaDoor
open Go.RowKit Go.Pt
def xz : List Value := [.int .u32 0, .int .u32 0, .int .u32 0, .int .u32 0, .int .u32 0, .int .u32 0, .int .u32 0, .int .u32 0, .int .u32 0, .int .u32 0, .int .u32 0, .int .u32 0, .int .u32 0, .int .u32 0, .int .u32 0, .int .u32 0, .int .u32 0, .int .u32 0, .int .u32 0, .int .u32 0, .int .u32 0, .int .u32 0, .int .u32 0, .int .u32 0, .int .u32 0, .int .u32 0, .int .u32 0, .int .u32 0, .int .u32 0, .int .u32 0, .int .u32 0, .int .u32 0]
def xfive : List Value := [.int .u32 0, .int .u32 0, .int .u32 5, .int .u32 0, .int .u32 0, .int .u32 0, .int .u32 0, .int .u32 0, .int .u32 0, .int .u32 0, .int .u32 0, .int .u32 0, .int .u32 0, .int .u32 0, .int .u32 0, .int .u32 0, .int .u32 0, .int .u32 0, .int .u32 0, .int .u32 0, .int .u32 0, .int .u32 0, .int .u32 0, .int .u32 0, .int .u32 0, .int .u32 0, .int .u32 0, .int .u32 0, .int .u32 0, .int .u32 0, .int .u32 0, .int .u32 0]
/-- a file of zeros, but n cycles, n instructions done -/
def fz (n : Int) : List Value := .int .i64 3 :: .int .u32 0 :: .int .u32 0 :: .int .u32 0 :: .int .u32 0 :: .int .u32 0 :: .int .u32 0 :: .int .u32 0 :: .int .u32 0 :: [.int .u8 0, .int .u8 0, .int .u8 0, .int .u8 0, .int .u8 0, .int .u8 0, .int .u8 0, .int .u8 0, .int .u8 0, .int .u8 0, .int .u8 0, .int .u8 0, .int .u8 0, .int .u8 0, .int .u8 0, .int .u8 0,
  .int .u32 0, .int .u32 0, .int .u32 0, .int .u32 0, .int .u32 0, .int .u32 0, .int .u32 0, .int .u32 0, .int .u32 0, .int .u32 0, .int .u32 0, .int .u32 0, .int .u32 0, .int .u32 0, .int .u32 0, .int .u32 0, .int .u64 n, .int .u64 n]
set_option maxHeartbeats 8000000 in
theorem do5 (h cf cM : Nat) (w : World) (hne : h ≠ cf) (h1 : w.heap[h]? = some (.cells (xz ++ [Value.int .u32 2147487744, Value.pointer (some ⟨cf, 0, none⟩), Value.pointer (some ⟨cM, 0, none⟩)]).toArray 30 (0, 0))) (h2 : w.heap[cf]? = some (.cells (fz 0).toArray 54 (0, 0))) :
    Calls Tryd.prog 25 #[.pointer (some ⟨h, 0, none⟩), .agg #[.int .u32 5243155, .bool false, .int .u32 0, .int .u32 0, .int .u32 0, .int .i64 0, .bool false], .agg #[.int .i64 19, .int .i64 2, .int .i64 0, .int .i64 0, .int .u32 5]] w
      fun e w' => e = .returned (.agg #[.int .u32 5243155, .bool false, .int .u32 0, .int .u32 0, .int .u32 0, .int .i64 0, .bool false]) ∧ Hp w [⟨h, xfive ++ [.int .u32 2147487748, .pointer (some ⟨cf, 0, none⟩), .pointer (some ⟨cM, 0, none⟩)], 30⟩, ⟨cf, fz 1, 54⟩] w' := by
  have lh := lt_of_block h1
  have lf := lt_of_block h2
  refine enter (args := [_, _, _]) (Γ := [(0, _), (1, _), (2, _)]) Tryd.func25 Tryd.ntmps25 rfl (of_decide_eq_true rfl) (.cons rfl (.cons rfl (.cons rfl .nil))) ?_
  refine St.cls (C' := Hp w [⟨h, xz ++ [Value.int .u32 2147487744, Value.pointer (some ⟨cf, 0, none⟩), Value.pointer (some ⟨cM, 0, none⟩)], 30⟩, ⟨cf, fz 0, 54⟩]) (fun _ h' => Hp.open (Hp.open h' h2) h1 ⟨fun e => hne e.symm, trivial⟩) ?_
  simp only [xz, fz, List.cons_append, List.nil_append]
  repeat' (first | (apply Gt.inlC'; exact rfl; infer_instance; exact rfl; (repeat (first | exact List.Mem.head _ | apply List.Mem.tail)); (repeat (first | apply LSub.z | apply LSub.t | apply LSub.s))) | (apply Gt.outC'; exact rfl; infer_instance; exact rfl; (repeat (first | exact List.Mem.head _ | apply List.Mem.tail)); (repeat (first | apply LSub.z | apply LSub.t | apply LSub.s)); intro w' hp) | (apply Gt.inl1; exact rfl; exact rfl) | (apply Gt.inl2; exact rfl; exact rfl; exact rfl) | (apply Gt.inl00n; exact rfl) | (apply Wl.inline; exact rfl; (repeat (first | exact Evs.nil | apply Evs.cons rfl)); exact rfl; exact rfl) | (apply Wl.move; exact rfl; exact rfl) | (apply Wl.assign; exact rfl; exact rfl) | (apply Wl.on; exact rfl; exact rfl; (first | with_reducible rfl | with_reducible assumption | decide)) | (apply Wl.off; exact rfl; exact rfl; exact rfl; (first | with_reducible rfl | (show _ = false; with_reducible assumption) | (show _ = true; with_reducible assumption) | decide)) | (apply Wl.extract; exact rfl; exact rfl; exact rfl) | (apply Wl.nilCheck; exact rfl; exact rfl) | (apply Wl.pickT; exact rfl; exact rfl; (first | with_reducible rfl | with_reducible assumption | decide); exact rfl) | (apply Wl.pickF; exact rfl; exact rfl; (first | with_reducible rfl | with_reducible assumption | decide); exact rfl) | (apply Wl.fieldAddr0; exact rfl; exact rfl) | (apply Wl.fieldAddrZ; exact rfl; exact rfl) | (apply Wl.loadH; exact rfl; exact rfl; (repeat (first | exact List.Mem.head _ | apply List.Mem.tail)); exact rfl) | (apply Wl.eqlPN; exact rfl; exact rfl; exact rfl) | (apply Wl.eqlIs; exact rfl; exact rfl; exact rfl; (first | with_reducible assumption | with_reducible rfl)) | (apply Wl.eql; exact rfl; exact rfl; exact rfl) | (apply Wl.neq; exact rfl; exact rfl; exact rfl) | (apply Wl.leq; exact rfl; exact rfl; exact rfl) | (apply Wl.gtr; exact rfl; exact rfl; exact rfl) | (apply Wl.geq; exact rfl; exact rfl; exact rfl) | (apply Wl.addU; exact rfl; exact rfl; exact rfl; (constructor <;> omega)) | (apply Wl.add; exact rfl; exact rfl; exact rfl) | (apply Wl.store; exact rfl; exact rfl; exact rfl; (repeat (first | apply HSet.here | apply HSet.there)); (repeat (first | apply LSet.z | apply LSet.s))) | (apply Wl.storeA; exact rfl; exact rfl; exact rfl; exact rfl; (repeat (first | apply HSet.here | apply HSet.there)); (repeat (first | apply LPut.s | apply LPut.z | apply LOver.nil | apply LOver.cons))) | (apply Wl.loadAH; exact rfl; exact rfl; (repeat (first | exact List.Mem.head _ | apply List.Mem.tail)); (repeat (first | apply LSub.z | apply LSub.t | apply LSub.s))) | (apply Wl.boxA; exact rfl; exact rfl; intro c hc ho) | (apply Wl.alloc; exact rfl; intro c hc ho) | (apply Wl.indexArr; exact rfl; exact rfl; exact rfl; (constructor <;> omega)) | (apply Wl.nil) | (apply Wl.nilQ) | (apply St.seq) | (apply St.block) | (apply St.region) | (apply St.draw; exact mixed; (kernel_rfl); exact (fun _ h => Hp.drew h)) | (apply St.condT; exact rfl; (first | with_reducible rfl | with_reducible assumption | decide)) | (apply St.condF; exact rfl; (first | with_reducible rfl | with_reducible assumption | decide)) | (apply St.ret) | (apply St.skip) | (apply Gt.next) | (apply Gt.thenRet) | (apply Gt.inNormal) | (apply Gt.inRet) | (apply Wl.splitP; exact rfl; exact rfl; all_goals (intros; try (exfalso; omega))) | (apply Wl.splitB; exact rfl; exact rfl; all_goals intros) | (apply St.condP; exact rfl; all_goals (intros; try (exfalso; omega))) | (apply St.condB; exact rfl; all_goals intros))
  refine ⟨rfl, ?_⟩
  have hp := Hp.pop (Hp.pop (Hp.pop (Hp.pop (Hp.pop hp (by simp only; omega)) (by simp only; omega)) (by simp only; omega)) (by simp only; omega)) (by simp only; omega)
  exact hp
theorem Wl.rem32E {P : Program} {md : Md} {ops : Array Oper} {N : Nat} {rest : List Oper} {Γ : Env} {C : World → Prop} {Q : Exit → Act → World → Prop} {d : Nat} {ty : TypeId} {pos : String} {af : Array Edge} {t u : TypeId} {x y : Operand} {m n : Int}
    (hd : Nat.blt d N = true) (hx : ev Γ x = some (.int .u32 m)) (hy : ev Γ y = some (.int .u32 n)) (hn : n ≠ 0) (hm : 0 ≤ m) (h : Wl rest P md ops N ((d, .int .u32 (m % n)) :: Γ) C Q) : Wl (⟨some d, .binOp .rem t x y u, ty, pos, af, none⟩ :: rest) P md ops N Γ C Q :=
  Wl.rem hd hx hy hn (by rw [Int.tmod_eq_emod_of_nonneg hm]; exact h)
theorem upd_old {w a b : World} {S : Nat → Prop} (u : Upd (fun k => S k ∨ w.heap.size ≤ k) a b) (h : w.heap.size ≤ a.heap.size) (e : a = w) : Upd S w b := by
  subst e
  exact u.mono fun k hk hs => hs.elim id fun y => by omega
theorem onlyNew {w a b : World} {H : List Blk} (h : Hp a H b) (hn : ∀ x ∈ H, w.heap.size ≤ x.b) : Upd (fun k => w.heap.size ≤ k) a b :=
  h.upd.mono fun k _ hs => Classical.byContradiction fun z => hs (Off.of fun x hx e => by have := hn x hx; omega)
theorem FF.two {w : World} {c : Nat} {md tv : Int} (h : FF w c md tv) : w.cell? ⟨c, 0, none⟩ = some (.int .i64 md) := by
  obtain ⟨st, mie, mip, sc, ep, ca, tl, cs, hk, hc⟩ := h
  exact cell_of hc rfl
theorem HH.at1 {w : World} {h c : Nat} {vM : Value} {xs : List Value} {pc : Int} (k : HH w h c vM xs pc) : w.cell? ⟨h, 32, none⟩ = some (.int .u32 pc) ∧ w.cell? ⟨h, 33, none⟩ = some (.pointer (some ⟨c, 0, none⟩)) ∧ w.cell? ⟨h, 34, none⟩ = some vM := by
  obtain ⟨hl, hh⟩ := k
  refine ⟨cell_of hh ?_, cell_of hh ?_, cell_of hh ?_⟩
  · rw [show (32 : Nat) = xs.length + 0 by omega, List.getElem?_append_right (by omega), Nat.add_sub_cancel_left]; rfl
  · rw [show (33 : Nat) = xs.length + 1 by omega, List.getElem?_append_right (by omega), Nat.add_sub_cancel_left]; rfl
  · rw [show (34 : Nat) = xs.length + 2 by omega, List.getElem?_append_right (by omega), Nat.add_sub_cancel_left]; rfl
set_option maxHeartbeats 8000000 in
theorem system0 (h cf : Nat) (vM : Value) (xs : List Value) (pc md tv nx : Int) (w : World) (hH : HH w h cf vM xs pc) (hF : FF w cf md tv) :
    Calls Tryd.prog 47 #[.pointer (some ⟨h, 0, none⟩), .agg #[.int .u32 0, .bool false, .int .u32 0, .int .u32 0, .int .u32 0, .int .i64 0, .bool false], .agg #[.int .i64 0, .int .i64 0, .int .i64 0, .int .i64 0, .int .u32 0], .int .u32 nx] w
      fun e w' => e = .returned (.agg #[.int .u32 0, .bool true, .int .u32 2, .int .u32 0, .int .u32 0, .int .i64 0, .bool false]) ∧ HH w' h cf vM xs tv ∧ FF w' cf 3 tv ∧ Upd (fun k => k = h ∨ k = cf) w w' := by
  have lh := hH.lt
  have lf := hF.lt
  obtain ⟨c32, c33, c34⟩ := hH.at1
  have m0 := hF.two
  refine enter (args := [_, _, _, _]) (Γ := [(0, _), (1, _), (2, _), (3, _)]) Tryd.func47 Tryd.ntmps47 rfl (of_decide_eq_true rfl) (.cons rfl (.cons rfl (.cons rfl (.cons rfl .nil)))) ?_
  repeat' (first | (apply Wl.loadO; exact rfl; exact rfl; (first | exact c33 | exact m0); (repeat (first | exact trivial | refine ⟨by simp only; omega, ?_⟩))) | (apply Wl.move; exact rfl; exact rfl) | (apply Wl.assign; exact rfl; exact rfl) | (apply Wl.off; exact rfl; exact rfl; exact rfl; (first | with_reducible rfl | (show _ = false; with_reducible assumption) | (show _ = true; with_reducible assumption) | decide)) | (apply Wl.nilCheck; exact rfl; exact rfl) | (apply Wl.pickF; exact rfl; exact rfl; (first | with_reducible rfl | with_reducible assumption | decide); exact rfl) | (apply Wl.fieldAddr0; exact rfl; exact rfl) | (apply Wl.fieldAddrZ; exact rfl; exact rfl) | (apply Wl.loadH; exact rfl; exact rfl; (repeat (first | exact List.Mem.head _ | apply List.Mem.tail)); exact rfl) | (apply Wl.eql; exact rfl; exact rfl; exact rfl) | (apply Wl.loadAH; exact rfl; exact rfl; (repeat (first | exact List.Mem.head _ | apply List.Mem.tail)); (repeat (first | apply LSub.z | apply LSub.t | apply LSub.s))) | (apply Wl.boxA; exact rfl; exact rfl; intro c hc ho) | (apply Wl.alloc; exact rfl; intro c hc ho) | (apply Wl.nil) | (apply St.seq) | (apply St.block) | (apply St.region) | (apply St.condF; exact rfl; (first | with_reducible rfl | with_reducible assumption | decide)) | (apply St.skip) | (apply Gt.next) | (apply Gt.inNormal) | (apply Wl.splitP; exact rfl; exact rfl; all_goals (intros; try (exfalso; omega))) | (apply Wl.splitB; exact rfl; exact rfl; all_goals intros) | (apply St.condP; exact rfl; all_goals (intros; try (exfalso; omega))) | (apply St.condB; exact rfl; all_goals intros))
  all_goals
    apply Wl.callC
    · exact rfl
    · (repeat (first | exact Evs.nil | apply Evs.cons rfl))
    intro wq hq
    refine (htrap h cf vM xs pc md tv 0 2 0 0 0 0 0 false false wq (hH.upd hq.upd fun y => y (by repeat (first | exact trivial | refine ⟨by simp only; omega, ?_⟩))) (hF.upd hq.upd fun y => y (by repeat (first | exact trivial | refine ⟨by simp only; omega, ?_⟩)))).mono ?_
    rintro e w1 ⟨rfl, k1, f1, u1⟩
    have hn := onlyNew (w := w) hq (by simp only [List.mem_cons, List.not_mem_nil, or_false, forall_eq_or_imp, forall_eq]; omega)
    have hq1 := Hp.rest hq u1 (by simp only [List.mem_cons, List.not_mem_nil, or_false, forall_eq_or_imp, forall_eq]; omega)
    refine ⟨_, _, rfl, hq1, ?_⟩
    have hs1 := hq.upd.size
    have hs2 := u1.size
    clear hq hq1
    repeat' (first | (apply Gt.outC'; exact rfl; infer_instance; exact rfl; (repeat (first | exact List.Mem.head _ | apply List.Mem.tail)); (repeat (first | apply LSub.z | apply LSub.t | apply LSub.s)); intro w' hp) | (apply Wl.storeA; exact rfl; exact rfl; exact rfl; exact rfl; (repeat (first | apply HSet.here | apply HSet.there)); (repeat (first | apply LPut.s | apply LPut.z | apply LOver.nil | apply LOver.cons))) | (apply Wl.nil) | (apply St.ret) | (apply Gt.next) | (apply Wl.splitP; exact rfl; exact rfl; all_goals (intros; try (exfalso; omega))) | (apply Wl.splitB; exact rfl; exact rfl; all_goals intros) | (apply St.condP; exact rfl; all_goals (intros; try (exfalso; omega))) | (apply St.condB; exact rfl; all_goals intros))
    have hn2 := onlyNew (w := w) hp (by simp only [List.mem_cons, List.not_mem_nil, or_false, forall_eq_or_imp, forall_eq]; omega)
    refine ⟨rfl, k1.upd hn2 (by omega), f1.upd hn2 (by omega), ?_⟩
    exact ((hn.mono (S' := fun k => (k = h ∨ k = cf) ∨ w.heap.size ≤ k) fun _ _ e => .inr e).trans ((u1.mono fun _ _ e => .inl e).trans (hn2.mono fun _ _ e => .inr e))).mono fun k hk e => e.elim id fun y => by omega
theorem form0 (w : World) : Calls Tryd.prog 40 #[.int .i64 0] w fun e w' => e = .returned (.int .i64 (-1)) ∧ Hp w [] w' := by
  refine enter (args := [_]) (Γ := [(0, _)]) Tryd.func40 Tryd.ntmps40 rfl (of_decide_eq_true rfl) (.cons rfl .nil) ?_
  repeat' (first | (apply Wl.move; exact rfl; exact rfl) | (apply Wl.assign; exact rfl; exact rfl) | (apply Wl.on; exact rfl; exact rfl; (first | with_reducible rfl | with_reducible assumption | decide)) | (apply Wl.off; exact rfl; exact rfl; exact rfl; (first | with_reducible rfl | (show _ = false; with_reducible assumption) | (show _ = true; with_reducible assumption) | decide)) | (apply Wl.pickF; exact rfl; exact rfl; (first | with_reducible rfl | with_reducible assumption | decide); exact rfl) | (apply Wl.eql; exact rfl; exact rfl; exact rfl) | (apply Wl.geq; exact rfl; exact rfl; exact rfl) | (apply Wl.nil) | (apply St.seq) | (apply St.block) | (apply St.region) | (apply St.condF; exact rfl; (first | with_reducible rfl | with_reducible assumption | decide)) | (apply St.ret) | (apply St.skip) | (apply Gt.next) | (apply Gt.inNormal) | (apply Gt.out1; exact rfl; exact rfl; intro w' hp) | (apply Wl.splitP; exact rfl; exact rfl; all_goals (intros; try (exfalso; omega))) | (apply Wl.splitB; exact rfl; exact rfl; all_goals intros) | (apply St.condP; exact rfl; all_goals (intros; try (exfalso; omega))) | (apply St.condB; exact rfl; all_goals intros))
  exact ⟨by kernel_rfl, hp⟩
theorem width0 (w : World) : Calls Tryd.prog 43 #[.int .i64 0] w fun e w' => e = .returned (.int .i64 0) ∧ Hp w [] w' := by
  refine enter (args := [_]) (Γ := [(0, _)]) Tryd.func43 Tryd.ntmps43 rfl (of_decide_eq_true rfl) (.cons rfl .nil) ?_
  repeat' (first | (apply Wl.move; exact rfl; exact rfl) | (apply Wl.assign; exact rfl; exact rfl) | (apply Wl.eql; exact rfl; exact rfl; exact rfl) | (apply Wl.nil) | (apply St.seq) | (apply St.block) | (apply St.region) | (apply St.condF; exact rfl; (first | with_reducible rfl | with_reducible assumption | decide)) | (apply St.ret) | (apply St.skip) | (apply Gt.next) | (apply Gt.inNormal) | (apply Gt.out1; exact rfl; exact rfl; intro w' hp) | (apply Wl.splitP; exact rfl; exact rfl; all_goals (intros; try (exfalso; omega))) | (apply Wl.splitB; exact rfl; exact rfl; all_goals intros) | (apply St.condP; exact rfl; all_goals (intros; try (exfalso; omega))) | (apply St.condB; exact rfl; all_goals intros))
  exact ⟨by kernel_rfl, hp⟩
set_option maxHeartbeats 8000000 in
theorem do0 (h cf : Nat) (vM : Value) (pc md tv : Int) (w : World) (hH : HH w h cf vM xfive pc) (hF : FF w cf md tv) :
    Calls Tryd.prog 25 #[.pointer (some ⟨h, 0, none⟩), .agg #[.int .u32 0, .bool false, .int .u32 0, .int .u32 0, .int .u32 0, .int .i64 0, .bool false], .agg #[.int .i64 0, .int .i64 0, .int .i64 0, .int .i64 0, .int .u32 0]] w
      fun e w' => e = .returned (.agg #[.int .u32 0, .bool true, .int .u32 2, .int .u32 0, .int .u32 0, .int .i64 0, .bool false]) ∧ HH w' h cf vM xfive tv ∧ FF w' cf 3 tv ∧ Upd (fun k => k = h ∨ k = cf) w w' := by
  have lh := hH.lt
  have lf := hF.lt
  obtain ⟨c32, c33, c34⟩ := hH.at1
  have cX : w.cell? ⟨h, 0 + Int.toNat 0 * 1, none⟩ = some (.int .u32 0) := cell_of hH.2 rfl
  refine enter (args := [_, _, _]) (Γ := [(0, _), (1, _), (2, _)]) Tryd.func25 Tryd.ntmps25 rfl (of_decide_eq_true rfl) (.cons rfl (.cons rfl (.cons rfl .nil))) ?_
  repeat' (first | (apply Wl.loadO; exact rfl; exact rfl; (first | exact c32 | exact c33 | exact cX); (repeat (first | exact trivial | refine ⟨by simp only; omega, ?_⟩))) | (apply Wl.move; exact rfl; exact rfl) | (apply Wl.assign; exact rfl; exact rfl) | (apply Wl.nilCheck; exact rfl; exact rfl) | (apply Wl.fieldAddr0; exact rfl; exact rfl) | (apply Wl.fieldAddrZ; exact rfl; exact rfl) | (apply Wl.loadH; exact rfl; exact rfl; (repeat (first | exact List.Mem.head _ | apply List.Mem.tail)); exact rfl) | (apply Wl.add; exact rfl; exact rfl; exact rfl) | (apply Wl.boxA; exact rfl; exact rfl; intro c hc ho) | (apply Wl.alloc; exact rfl; intro c hc ho) | (apply Wl.indexArr; exact rfl; exact rfl; exact rfl; (constructor <;> omega)) | (apply Wl.nil) | (apply Wl.nilQ) | (apply St.seq) | (apply St.region) | (apply St.draw; exact mixed; (kernel_rfl); exact (fun _ h => Hp.drew h)) | (apply Gt.next) | (apply Wl.splitP; exact rfl; exact rfl; all_goals (intros; try (exfalso; omega))) | (apply Wl.splitB; exact rfl; exact rfl; all_goals intros) | (apply St.condP; exact rfl; all_goals (intros; try (exfalso; omega))) | (apply St.condB; exact rfl; all_goals intros))
  apply Wl.callQ
  exact rfl
  (repeat (first | exact Evs.nil | apply Evs.cons rfl))
  · intro wq hq
    refine (form0 wq).mono ?_
    rintro e wr ⟨rfl, hr⟩
    exact ⟨rfl, hq.keep hr⟩
  repeat' (first | (apply Wl.move; exact rfl; exact rfl) | (apply Wl.assign; exact rfl; exact rfl) | (apply Wl.on; exact rfl; exact rfl; (first | with_reducible rfl | with_reducible assumption | decide)) | (apply Wl.pickF; exact rfl; exact rfl; (first | with_reducible rfl | with_reducible assumption | decide); exact rfl) | (apply Wl.fieldAddr0; exact rfl; exact rfl) | (apply Wl.loadH; exact rfl; exact rfl; (repeat (first | exact List.Mem.head _ | apply List.Mem.tail)); exact rfl) | (apply Wl.eql; exact rfl; exact rfl; exact rfl) | (apply Wl.nil) | (apply St.seq) | (apply St.block) | (apply St.region) | (apply St.condF; exact rfl; (first | with_reducible rfl | with_reducible assumption | decide)) | (apply Gt.next) | (apply Wl.splitP; exact rfl; exact rfl; all_goals (intros; try (exfalso; omega))) | (apply Wl.splitB; exact rfl; exact rfl; all_goals intros) | (apply St.condP; exact rfl; all_goals (intros; try (exfalso; omega))) | (apply St.condB; exact rfl; all_goals intros))
  apply Wl.callQ
  exact rfl
  (repeat (first | exact Evs.nil | apply Evs.cons rfl))
  · intro wq hq
    refine (width0 wq).mono ?_
    rintro e wr ⟨rfl, hr⟩
    exact ⟨rfl, hq.keep hr⟩
  repeat' (first | (apply Wl.move; exact rfl; exact rfl) | (apply Wl.assign; exact rfl; exact rfl) | (apply Wl.on; exact rfl; exact rfl; (first | with_reducible rfl | with_reducible assumption | decide)) | (apply Wl.pickF; exact rfl; exact rfl; (first | with_reducible rfl | with_reducible assumption | decide); exact rfl) | (apply Wl.eql; exact rfl; exact rfl; exact rfl) | (apply Wl.gtr; exact rfl; exact rfl; exact rfl) | (apply Wl.loadAH; exact rfl; exact rfl; (repeat (first | exact List.Mem.head _ | apply List.Mem.tail)); (repeat (first | apply LSub.z | apply LSub.t | apply LSub.s))) | (apply Wl.nil) | (apply St.seq) | (apply St.region) | (apply St.condF; exact rfl; (first | with_reducible rfl | with_reducible assumption | decide)) | (apply Gt.next) | (apply Wl.splitP; exact rfl; exact rfl; all_goals (intros; try (exfalso; omega))) | (apply Wl.splitB; exact rfl; exact rfl; all_goals intros) | (apply St.condP; exact rfl; all_goals (intros; try (exfalso; omega))) | (apply St.condB; exact rfl; all_goals intros))
  · apply Wl.callC
    · exact rfl
    · (repeat (first | exact Evs.nil | apply Evs.cons rfl))
    intro wq hq
    refine (system0 h cf vM xfive pc md tv _ wq (hH.upd hq.upd fun y => y (by repeat (first | exact trivial | refine ⟨by simp only; omega, ?_⟩))) (hF.upd hq.upd fun y => y (by repeat (first | exact trivial | refine ⟨by simp only; omega, ?_⟩)))).mono ?_
    rintro e w1 ⟨rfl, k1, f1, u1⟩
    have hn := onlyNew (w := w) hq (by simp only [List.mem_cons, List.not_mem_nil, or_false, forall_eq_or_imp, forall_eq]; omega)
    have hq1 := Hp.rest hq u1 (by simp only [List.mem_cons, List.not_mem_nil, or_false, forall_eq_or_imp, forall_eq]; omega)
    refine ⟨_, _, rfl, hq1, ?_⟩
    have hs1 := hq.upd.size
    have hs2 := u1.size
    clear hq hq1
    repeat' (first | (apply Gt.outC'; exact rfl; infer_instance; exact rfl; (repeat (first | exact List.Mem.head _ | apply List.Mem.tail)); (repeat (first | apply LSub.z | apply LSub.t | apply LSub.s)); intro w' hp) | (apply Wl.storeA; exact rfl; exact rfl; exact rfl; exact rfl; (repeat (first | apply HSet.here | apply HSet.there)); (repeat (first | apply LPut.s | apply LPut.z | apply LOver.nil | apply LOver.cons))) | (apply Wl.nil) | (apply St.ret) | (apply Gt.next) | (apply Gt.thenRet) | (apply Gt.inRet) | (apply Wl.splitP; exact rfl; exact rfl; all_goals (intros; try (exfalso; omega))) | (apply Wl.splitB; exact rfl; exact rfl; all_goals intros) | (apply St.condP; exact rfl; all_goals (intros; try (exfalso; omega))) | (apply St.condB; exact rfl; all_goals intros))
    have hn2 := onlyNew (w := w) hp (by simp only [List.mem_cons, List.not_mem_nil, or_false, forall_eq_or_imp, forall_eq]; omega)
    refine ⟨rfl, k1.upd hn2 (by omega), f1.upd hn2 (by omega), ?_⟩
    exact ((hn.mono (S' := fun k => (k = h ∨ k = cf) ∨ w.heap.size ≤ k) fun _ _ e => .inr e).trans ((u1.mono fun _ _ e => .inl e).trans (hn2.mono fun _ _ e => .inr e))).mono fun k hk e => e.elim id fun y => by omega
def fz' (n : Int) : List Value := [.int .i64 3, .int .u32 0, .int .u32 0, .int .u32 0, .int .u32 0, .int .u32 0, .int .u32 0, .int .u32 0, .int .u32 0]
theorem fz_FF {w : World} {c : Nat} {n : Int} (h : w.heap[c]? = some (.cells (fz n).toArray 54 (0, 0))) : FF w c 3 0 := by
  refine ⟨0, 0, 0, 0, 0, 0, 0, (fz n).drop 9, ?_, h⟩
  have : (fz n).drop 9 = (List.range 34).map fun i => Value.int (fkd i) ((fun i => if i < 32 then 0 else n : Nat → Int) i) := by rfl
  rw [this]; exact Kd.mk'
/-- the example's memory -/
def fitF : Nat → Int := storeX (fun _ => 0) 4096 5243155 4
theorem fitload1 (c : Nat) (w : World) (hc : w.heap[c]? = some (.cells (memC fitF).toArray 94 (0, 0))) :
    Calls Tryd.prog 24 #[.pointer (some ⟨c, 0, none⟩), .int .u32 2147487744, .int .i64 4] w fun e w' => e = .returned (.tuple #[.int .u32 5243155, .int .i64 0]) ∧ Hp w [] w' := by
  refine (mload c 2147487744 4 fitF w (by decide) (.inr (.inr rfl)) hc).mono ?_
  rintro e w' ⟨rfl, h⟩
  rw [if_pos (by decide), show loadX fitF ((2147487744 : Int) - 2147483648).toNat (4 : Int).toNat = 5243155 by decide +kernel]
  exact ⟨rfl, h⟩
theorem fitload2 (c : Nat) (w : World) (hc : w.heap[c]? = some (.cells (memC fitF).toArray 94 (0, 0))) :
    Calls Tryd.prog 24 #[.pointer (some ⟨c, 0, none⟩), .int .u32 2147487748, .int .i64 4] w fun e w' => e = .returned (.tuple #[.int .u32 0, .int .i64 0]) ∧ Hp w [] w' := by
  refine (mload c 2147487748 4 fitF w (by decide) (.inr (.inr rfl)) hc).mono ?_
  rintro e w' ⟨rfl, h⟩
  rw [if_pos (by decide), show loadX fitF ((2147487748 : Int) - 2147483648).toNat (4 : Int).toNat = 0 by decide +kernel]
  exact ⟨rfl, h⟩
set_option maxHeartbeats 2000000 in
theorem mayM (b : Nat) (at_ r : Int) (w : World) (hat : 0 ≤ at_ ∧ at_ < 4294967296) (hb : b < w.heap.size) (hmode : w.cell? ⟨b, 0, none⟩ = some (.int .i64 3)) (hcfg : ∀ j : Nat, j < 16 → w.cell? ⟨b, 9 + j, none⟩ = some (.int .u8 0)) (haddr : ∀ j : Nat, j < 16 → w.cell? ⟨b, 25 + j, none⟩ = some (.int .u32 0)) :
    Calls Tryd.prog 17 #[.pointer (some ⟨b, 0, none⟩), .int .u32 at_, .int .i64 4, .int .i64 r] w fun e w' => e = .returned (.bool true) ∧ Hp w [] w' := by
  refine enter (args := [_, _, _, _]) (Γ := [(0, _), (1, _), (2, _), (3, _)]) Tryd.func17 Tryd.ntmps17 rfl (of_decide_eq_true rfl) (.cons rfl (.cons rfl (.cons rfl (.cons rfl .nil)))) ?_
  repeat' (first | (apply Wl.move; exact rfl; exact rfl) | (apply Wl.assign; exact rfl; exact rfl) | (apply Wl.nilCheck; exact rfl; exact rfl) | (apply Wl.fieldAddr0; exact rfl; exact rfl) | (apply Wl.loadO; exact rfl; exact rfl; (assumption); (repeat (first | exact trivial | refine ⟨by first | assumption | omega, ?_⟩))) | (apply Wl.eqlPN; exact rfl; exact rfl; exact rfl) | (apply Wl.eql; exact rfl; exact rfl; exact rfl) | (apply Wl.nil) | (apply St.seq) | (apply St.region) | (apply St.condF; exact rfl; (first | with_reducible rfl | with_reducible assumption | decide)) | (apply St.skip) | (apply Gt.next) | (apply Wl.splitP; exact rfl; exact rfl; all_goals (intros; try (exfalso; omega))) | (apply Wl.splitB; exact rfl; exact rfl; all_goals intros) | (apply St.condP; exact rfl; all_goals (intros; try (exfalso; omega))) | (apply St.condB; exact rfl; all_goals intros))
  apply Wl.callC
  · exact rfl
  · (repeat (first | exact Evs.nil | apply Evs.cons rfl))
  intro wq hq
  have cellq {p : Addr} {x : Value} (h : w.cell? p = some x) : wq.cell? p = some x := hq.upd.cell h fun y => y trivial
  have hsz := hq.upd.size
  refine (entries0 b wq (by omega) (fun j hj => cellq (hcfg j hj)) (fun j hj => cellq (haddr j hj))).mono ?_
  rintro e wr ⟨v, rfl, hov, hur⟩
  obtain ⟨k, o, cap, rfl, hc⟩ := ents0_cells hov
  have hu : Upd (fun k => w.heap.size ≤ k) w wr := hq.upd.comp hur fun k _ hs => hs.elim (fun y => (y trivial).elim) fun e => by omega
  refine ⟨_, _, rfl, Hp.start wr, ?_⟩
  clear hq
  repeat' (first | (apply Wl.max2; exact rfl; exact rfl; exact rfl) | (apply Wl.move; exact rfl; exact rfl) | (apply Wl.assign; exact rfl; exact rfl) | (apply Wl.addU; exact rfl; exact rfl; exact rfl; (constructor <;> omega)) | (apply Wl.convU64; exact rfl; exact rfl; (constructor <;> omega)) | (apply Wl.len; exact rfl; exact rfl) | (apply Wl.nil) | (apply St.seq) | (apply St.block) | (apply St.region) | (apply Gt.next) | (apply Wl.splitP; exact rfl; exact rfl; all_goals (intros; try (exfalso; omega))) | (apply Wl.splitB; exact rfl; exact rfl; all_goals intros) | (apply St.condP; exact rfl; all_goals (intros; try (exfalso; omega))) | (apply St.condB; exact rfl; all_goals intros))
  refine St.loop (σ := Nat) (fun i => i ≤ 16) (fun i => [(40, .int .i64 i), (39, .int .i64 16), (11, .int .u64 (at_ + 4)), (10, .int .u64 at_), (9, .slice (some ⟨k, o, none⟩) 16 cap), (0, .pointer (some ⟨b, 0, none⟩)), (3, .int .i64 r), (8, .bool false)])
    (fun _ => Hp wr []) (fun i => 16 - i) 0 (by simp) (by (repeat (first | exact Sub.nil | apply Sub.cons rfl))) (fun _ h => h) ?_
  intro i hi
  by_cases hlt : i < 16
  · obtain ⟨c1, c2⟩ := hc i hlt
    repeat' (first | (apply Wl.move; exact rfl; exact rfl) | (apply Wl.assign; exact rfl; exact rfl) | (apply Wl.lss; exact rfl; exact rfl; exact rfl) | (apply Wl.nil) | (apply St.seq) | (apply St.block) | (apply St.region) | (apply St.skip) | (apply Gt.next) | (apply Wl.splitP; exact rfl; exact rfl; all_goals (intros; try (exfalso; omega))) | (apply Wl.splitB; exact rfl; exact rfl; all_goals intros) | (apply St.condP; exact rfl; all_goals (intros; try (exfalso; omega))) | (apply St.condB; exact rfl; all_goals intros))
    apply Wl.callQ
    · exact rfl
    · (repeat (first | exact Evs.nil | apply Evs.cons rfl))
    · intro wp hp
      refine (range0 k o cap i wp hlt (hp.upd.cell c1 fun y => y trivial) (hp.upd.cell c2 fun y => y trivial)).mono ?_
      rintro e wz ⟨rfl, hz⟩
      exact ⟨rfl, hp.keep hz⟩
    repeat' (first | (apply Wl.move; exact rfl; exact rfl) | (apply Wl.assign; exact rfl; exact rfl) | (apply Wl.off; exact rfl; exact rfl; exact rfl; (first | with_reducible rfl | (show _ = false; with_reducible assumption) | (show _ = true; with_reducible assumption) | decide)) | (apply Wl.extract; exact rfl; exact rfl; exact rfl) | (apply Wl.pickT; exact rfl; exact rfl; (first | with_reducible rfl | with_reducible assumption | decide); exact rfl) | (apply Wl.leq; exact rfl; exact rfl; exact rfl) | (apply Wl.addI; exact rfl; exact rfl; exact rfl; (constructor <;> omega)) | (apply Wl.nil) | (apply St.seq) | (apply St.region) | (apply St.condT; exact rfl; (first | with_reducible rfl | with_reducible assumption | decide)) | (apply St.exit) | (apply Gt.next) | (apply Gt.thenExit) | (apply Gt.inExit) | (apply Wl.splitP; exact rfl; exact rfl; all_goals (intros; try (exfalso; omega))) | (apply Wl.splitB; exact rfl; exact rfl; all_goals intros) | (apply St.condP; exact rfl; all_goals (intros; try (exfalso; omega))) | (apply St.condB; exact rfl; all_goals intros))
    apply Gt.round (i + 1)
    rotate_left
    · omega
    · (repeat (first | exact Sub.nil | apply Sub.cons rfl))
    · exact fun _ h => h
    · omega
  · have hie : i = 16 := by omega
    subst hie
    repeat' (first | (apply Wl.assign; exact rfl; exact rfl) | (apply Wl.lss; exact rfl; exact rfl; exact rfl) | (apply Wl.nil) | (apply St.seq) | (apply St.region) | (apply St.condF; exact rfl; (first | with_reducible rfl | with_reducible assumption | decide)) | (apply St.ret) | (apply St.exit) | (apply Gt.next) | (apply Gt.thenExit) | (apply Gt.inExit) | (apply Gt.out1; exact rfl; exact rfl; intro w' hp) | (apply Wl.splitP; exact rfl; exact rfl; all_goals (intros; try (exfalso; omega))) | (apply Wl.splitB; exact rfl; exact rfl; all_goals intros) | (apply St.condP; exact rfl; all_goals (intros; try (exfalso; omega))) | (apply St.condB; exact rfl; all_goals intros))
    exact ⟨rfl, Hp.under hp hu⟩
theorem fz_cell {w : World} {c : Nat} {n : Int} (h : w.heap[c]? = some (.cells (fz n).toArray 54 (0, 0))) : w.cell? ⟨c, 0, none⟩ = some (.int .i64 3) ∧ (∀ j : Nat, j < 16 → w.cell? ⟨c, 9 + j, none⟩ = some (.int .u8 0)) ∧ ∀ j : Nat, j < 16 → w.cell? ⟨c, 25 + j, none⟩ = some (.int .u32 0) := by
  refine ⟨cell_of h rfl, fun j hj => cell_of h ?_, fun j hj => cell_of h ?_⟩ <;>
  · rcases lt16 hj with rfl | rfl | rfl | rfl | rfl | rfl | rfl | rfl | rfl | rfl | rfl | rfl | rfl | rfl | rfl | rfl <;> rfl
theorem due0 : dueOf 3 0 0 0 = false := by decide
set_option maxHeartbeats 8000000 in
theorem step5 (h cf cM : Nat) (w : World) (hne : h ≠ cf) (h1 : w.heap[h]? = some (.cells (xz ++ [Value.int .u32 2147487744, Value.pointer (some ⟨cf, 0, none⟩), Value.pointer (some ⟨cM, 0, none⟩)]).toArray 30 (0, 0))) (h2 : w.heap[cf]? = some (.cells (fz 0).toArray 54 (0, 0))) (h3 : w.heap[cM]? = some (.cells (memC fitF).toArray 94 (0, 0))) :
    Calls Tryd.prog 9 #[.pointer (some ⟨h, 0, none⟩)] w
      fun e w' => e = .returned (.agg #[.int .u32 5243155, .bool false, .int .u32 0, .int .u32 0, .int .u32 0, .int .i64 0, .bool false]) ∧ Hp w [⟨h, xfive ++ [.int .u32 2147487748, .pointer (some ⟨cf, 0, none⟩), .pointer (some ⟨cM, 0, none⟩)], 30⟩, ⟨cf, fz 1, 54⟩] w' := by
  have hH : HH w h cf (.pointer (some ⟨cM, 0, none⟩)) xz 2147487744 := ⟨rfl, h1⟩
  have lh := lt_of_block h1
  have lf := lt_of_block h2
  have lm := lt_of_block h3
  obtain ⟨c32, c33, c34⟩ := hH.at1
  refine enter (args := [_]) (Γ := [(0, _)]) Tryd.func9 Tryd.ntmps9 rfl (of_decide_eq_true rfl) (.cons rfl .nil) ?_
  repeat' (first | (apply Wl.loadO; exact rfl; exact rfl; (first | exact c32 | exact c33 | exact c34); (repeat (first | exact trivial | refine ⟨by simp only; omega, ?_⟩))) | (apply Wl.move; exact rfl; exact rfl) | (apply Wl.nilCheck; exact rfl; exact rfl) | (apply Wl.fieldAddrZ; exact rfl; exact rfl) | (apply Wl.eqlPN; exact rfl; exact rfl; exact rfl) | (apply Wl.alloc; exact rfl; intro c hc ho) | (apply Wl.nil) | (apply St.seq) | (apply St.region) | (apply St.condF; exact rfl; (first | with_reducible rfl | with_reducible assumption | decide)) | (apply St.skip) | (apply Gt.next) | (apply Wl.splitP; exact rfl; exact rfl; all_goals (intros; try (exfalso; omega))) | (apply Wl.splitB; exact rfl; exact rfl; all_goals intros) | (apply St.condP; exact rfl; all_goals (intros; try (exfalso; omega))) | (apply St.condB; exact rfl; all_goals intros))
  apply Wl.callQ
  · exact rfl
  · (repeat (first | exact Evs.nil | apply Evs.cons rfl))
  · intro wq hq
    refine (fdue cf 3 0 0 0 0 0 0 0 0 ((fz 0).drop 9) wq (hq.upd.heap h2 fun y => y (by repeat (first | exact trivial | refine ⟨by simp only; omega, ?_⟩)))).mono ?_
    rintro e wr ⟨rfl, hr⟩
    rw [due0]
    exact ⟨rfl, hq.keep hr⟩
  repeat' (first | (apply Wl.loadO; exact rfl; exact rfl; (first | exact c32 | exact c33 | exact c34); (repeat (first | exact trivial | refine ⟨by simp only; omega, ?_⟩))) | (apply Wl.callQQ; exact rfl; (repeat (first | exact Evs.nil | apply Evs.cons rfl)); (intro wq hq; refine (fitload1 cM wq (hq.upd.heap h3 fun y => y (by repeat (first | exact trivial | refine ⟨by simp only; omega, ?_⟩)))).mono ?_; rintro e wr ⟨rfl, hr⟩; exact ⟨rfl, hq.keep hr⟩)) | (apply Wl.callQQ; exact rfl; (repeat (first | exact Evs.nil | apply Evs.cons rfl)); (intro wq hq; have hz := fz_cell (hq.upd.heap h2 fun y => y (by repeat (first | exact trivial | refine ⟨by simp only; omega, ?_⟩))); refine (mayM cf _ _ wq (by decide) (by have := hq.upd.size; omega) hz.1 hz.2.1 hz.2.2).mono ?_; rintro e wr ⟨rfl, hr⟩; exact ⟨rfl, hq.keep hr⟩)) | (apply Wl.move; exact rfl; exact rfl) | (apply Wl.assign; exact rfl; exact rfl) | (apply Wl.on; exact rfl; exact rfl; (first | with_reducible rfl | with_reducible assumption | decide)) | (apply Wl.extract; exact rfl; exact rfl; exact rfl) | (apply Wl.nilCheck; exact rfl; exact rfl) | (apply Wl.pickF; exact rfl; exact rfl; (first | with_reducible rfl | with_reducible assumption | decide); exact rfl) | (apply Wl.not; exact rfl; exact rfl) | (apply Wl.fieldAddrZ; exact rfl; exact rfl) | (apply Wl.neqIs; exact rfl; exact rfl; exact rfl; (first | with_reducible assumption | with_reducible rfl)) | (apply Wl.neq; exact rfl; exact rfl; exact rfl) | (apply Wl.rem; exact rfl; exact rfl; exact rfl; (first | decide | omega)) | (apply Wl.buildS; exact rfl; (repeat (first | exact Parts.nil | apply Parts.cons rfl)); (repeat (first | apply Fills.nil | (apply Fills.one; exact rfl; exact rfl; (repeat (first | apply LSet.z | apply LSet.s))) | (apply Fills.agg; exact rfl; exact rfl; (repeat (first | apply LPut.s | apply LPut.z | apply LOver.nil | apply LOver.cons)))))) | (apply Wl.nil) | (apply Wl.nilQ) | (apply St.seq) | (apply St.region) | (apply St.draw; exact mixed; (kernel_rfl); exact (fun _ h => Hp.drew h)) | (apply St.condF; exact rfl; (first | with_reducible rfl | with_reducible assumption | decide)) | (apply St.skip) | (apply Gt.next) | (apply Wl.splitP; exact rfl; exact rfl; all_goals (intros; try (exfalso; omega))) | (apply Wl.splitB; exact rfl; exact rfl; all_goals intros) | (apply St.condP; exact rfl; all_goals (intros; try (exfalso; omega))) | (apply St.condB; exact rfl; all_goals intros))
  apply Wl.callQ
  exact rfl
  (repeat (first | exact Evs.nil | apply Evs.cons rfl))
  · intro wq hq
    refine (dec5 wq).mono ?_
    rintro e wr ⟨rfl, hr⟩
    exact ⟨rfl, hq.keep hr⟩
  repeat' (first | (apply Wl.splitP; exact rfl; exact rfl; all_goals (intros; try (exfalso; omega))) | (apply Wl.splitB; exact rfl; exact rfl; all_goals intros) | (apply St.condP; exact rfl; all_goals (intros; try (exfalso; omega))) | (apply St.condB; exact rfl; all_goals intros))
  apply Wl.callC
  · exact rfl
  · (repeat (first | exact Evs.nil | apply Evs.cons rfl))
  intro wq hq
  refine (do5 h cf cM wq hne (hq.upd.heap h1 fun y => y (by repeat (first | exact trivial | refine ⟨by simp only; omega, ?_⟩))) (hq.upd.heap h2 fun y => y (by repeat (first | exact trivial | refine ⟨by simp only; omega, ?_⟩)))).mono ?_
  rintro e w1 ⟨rfl, hd⟩
  have hn := onlyNew (w := w) hq (by simp only [List.mem_cons, List.not_mem_nil, or_false, forall_eq_or_imp, forall_eq]; omega)
  have hs1 := hq.upd.size
  have hs2 := hd.upd.size
  have u1 : Upd (fun k => k = h ∨ k = cf) wq w1 := hd.upd.mono fun k _ hs => Classical.byContradiction fun z => hs ⟨fun e => z (.inl e.symm), fun e => z (.inr e.symm), trivial⟩
  have hq1 := Hp.rest hq u1 (by simp only [List.mem_cons, List.not_mem_nil, or_false, forall_eq_or_imp, forall_eq]; omega)
  have hq2 : Hp w1 [_, ⟨h, xfive ++ [Value.int .u32 2147487748, Value.pointer (some ⟨cf, 0, none⟩), Value.pointer (some ⟨cM, 0, none⟩)], 30⟩, ⟨cf, fz 1, 54⟩] w1 := ⟨Upd.refl _ _, ⟨hq1.own.1, hd.own.1, hd.own.2.1, trivial⟩, ⟨⟨by simp only; omega, by simp only; omega, trivial⟩, ⟨fun e => hne e.symm, trivial⟩, trivial, trivial⟩⟩
  refine ⟨_, _, rfl, hq2, ?_⟩
  clear hq hq1 hq2
  repeat' (first | (apply Gt.outC'; exact rfl; infer_instance; exact rfl; (repeat (first | exact List.Mem.head _ | apply List.Mem.tail)); (repeat (first | apply LSub.z | apply LSub.t | apply LSub.s)); intro w' hp) | (apply Wl.storeA; exact rfl; exact rfl; exact rfl; exact rfl; (repeat (first | apply HSet.here | apply HSet.there)); (repeat (first | apply LPut.s | apply LPut.z | apply LOver.nil | apply LOver.cons))) | (apply Wl.nil) | (apply St.ret) | (apply Gt.next) | (apply Wl.splitP; exact rfl; exact rfl; all_goals (intros; try (exfalso; omega))) | (apply Wl.splitB; exact rfl; exact rfl; all_goals intros) | (apply St.condP; exact rfl; all_goals (intros; try (exfalso; omega))) | (apply St.condB; exact rfl; all_goals intros))
  have u2 : Upd (fun k => (k = h ∨ k = cf) ∨ w.heap.size ≤ k) w1 w' := hp.upd.mono fun k _ hs => Classical.byContradiction fun z => hs ⟨fun e => z (.inr (by simp only at e; omega)), fun e => z (.inl (.inl e.symm)), fun e => z (.inl (.inr e.symm)), trivial⟩
  refine ⟨rfl, ⟨((hn.mono (S' := fun k => (k = h ∨ k = cf) ∨ w.heap.size ≤ k) fun _ _ e => .inr e).trans ((u1.mono fun _ _ e => .inl e).trans u2)).mono fun k hk e => ?_, ⟨hp.own.2.1, hp.own.2.2.1, trivial⟩, ⟨⟨fun e => hne e.symm, trivial⟩, trivial, trivial⟩⟩⟩
  intro y
  rcases e with (e | e) | e
  · exact y.1 e.symm
  · exact y.2.1 e.symm
  · omega
set_option maxHeartbeats 8000000 in
theorem step0 (h cf cM : Nat) (w : World) (hne : h ≠ cf) (h1 : w.heap[h]? = some (.cells (xfive ++ [Value.int .u32 2147487748, Value.pointer (some ⟨cf, 0, none⟩), Value.pointer (some ⟨cM, 0, none⟩)]).toArray 30 (0, 0))) (h2 : w.heap[cf]? = some (.cells (fz 1).toArray 54 (0, 0))) (h3 : w.heap[cM]? = some (.cells (memC fitF).toArray 94 (0, 0))) :
    Calls Tryd.prog 9 #[.pointer (some ⟨h, 0, none⟩)] w
      fun e w' => e = .returned (.agg #[.int .u32 0, .bool true, .int .u32 2, .int .u32 0, .int .u32 0, .int .i64 0, .bool false]) ∧ Upd (fun k => k = h ∨ k = cf) w w' := by
  have hH : HH w h cf (.pointer (some ⟨cM, 0, none⟩)) xfive 2147487748 := ⟨rfl, h1⟩
  have lh := lt_of_block h1
  have lf := lt_of_block h2
  have lm := lt_of_block h3
  obtain ⟨c32, c33, c34⟩ := hH.at1
  refine enter (args := [_]) (Γ := [(0, _)]) Tryd.func9 Tryd.ntmps9 rfl (of_decide_eq_true rfl) (.cons rfl .nil) ?_
  repeat' (first | (apply Wl.loadO; exact rfl; exact rfl; (first | exact c32 | exact c33 | exact c34); (repeat (first | exact trivial | refine ⟨by simp only; omega, ?_⟩))) | (apply Wl.move; exact rfl; exact rfl) | (apply Wl.nilCheck; exact rfl; exact rfl) | (apply Wl.fieldAddrZ; exact rfl; exact rfl) | (apply Wl.eqlPN; exact rfl; exact rfl; exact rfl) | (apply Wl.alloc; exact rfl; intro c hc ho) | (apply Wl.nil) | (apply St.seq) | (apply St.region) | (apply St.condF; exact rfl; (first | with_reducible rfl | with_reducible assumption | decide)) | (apply St.skip) | (apply Gt.next) | (apply Wl.splitP; exact rfl; exact rfl; all_goals (intros; try (exfalso; omega))) | (apply Wl.splitB; exact rfl; exact rfl; all_goals intros) | (apply St.condP; exact rfl; all_goals (intros; try (exfalso; omega))) | (apply St.condB; exact rfl; all_goals intros))
  apply Wl.callQ
  · exact rfl
  · (repeat (first | exact Evs.nil | apply Evs.cons rfl))
  · intro wq hq
    refine (fdue cf 3 0 0 0 0 0 0 0 0 ((fz 1).drop 9) wq (hq.upd.heap h2 fun y => y (by repeat (first | exact trivial | refine ⟨by simp only; omega, ?_⟩)))).mono ?_
    rintro e wr ⟨rfl, hr⟩
    rw [due0]
    exact ⟨rfl, hq.keep hr⟩
  repeat' (first | (apply Wl.loadO; exact rfl; exact rfl; (first | exact c32 | exact c33 | exact c34); (repeat (first | exact trivial | refine ⟨by simp only; omega, ?_⟩))) | (apply Wl.callQQ; exact rfl; (repeat (first | exact Evs.nil | apply Evs.cons rfl)); (intro wq hq; refine (fitload2 cM wq (hq.upd.heap h3 fun y => y (by repeat (first | exact trivial | refine ⟨by simp only; omega, ?_⟩)))).mono ?_; rintro e wr ⟨rfl, hr⟩; exact ⟨rfl, hq.keep hr⟩)) | (apply Wl.callQQ; exact rfl; (repeat (first | exact Evs.nil | apply Evs.cons rfl)); (intro wq hq; have hz := fz_cell (hq.upd.heap h2 fun y => y (by repeat (first | exact trivial | refine ⟨by simp only; omega, ?_⟩))); refine (mayM cf _ _ wq (by decide) (by have := hq.upd.size; omega) hz.1 hz.2.1 hz.2.2).mono ?_; rintro e wr ⟨rfl, hr⟩; exact ⟨rfl, hq.keep hr⟩)) | (apply Wl.move; exact rfl; exact rfl) | (apply Wl.assign; exact rfl; exact rfl) | (apply Wl.on; exact rfl; exact rfl; (first | with_reducible rfl | with_reducible assumption | decide)) | (apply Wl.extract; exact rfl; exact rfl; exact rfl) | (apply Wl.nilCheck; exact rfl; exact rfl) | (apply Wl.pickF; exact rfl; exact rfl; (first | with_reducible rfl | with_reducible assumption | decide); exact rfl) | (apply Wl.not; exact rfl; exact rfl) | (apply Wl.fieldAddrZ; exact rfl; exact rfl) | (apply Wl.neqIs; exact rfl; exact rfl; exact rfl; (first | with_reducible assumption | with_reducible rfl)) | (apply Wl.neq; exact rfl; exact rfl; exact rfl) | (apply Wl.rem; exact rfl; exact rfl; exact rfl; (first | decide | omega)) | (apply Wl.buildS; exact rfl; (repeat (first | exact Parts.nil | apply Parts.cons rfl)); (repeat (first | apply Fills.nil | (apply Fills.one; exact rfl; exact rfl; (repeat (first | apply LSet.z | apply LSet.s))) | (apply Fills.agg; exact rfl; exact rfl; (repeat (first | apply LPut.s | apply LPut.z | apply LOver.nil | apply LOver.cons)))))) | (apply Wl.nil) | (apply Wl.nilQ) | (apply St.seq) | (apply St.region) | (apply St.draw; exact mixed; (kernel_rfl); exact (fun _ h => Hp.drew h)) | (apply St.condF; exact rfl; (first | with_reducible rfl | with_reducible assumption | decide)) | (apply St.skip) | (apply Gt.next) | (apply Wl.splitP; exact rfl; exact rfl; all_goals (intros; try (exfalso; omega))) | (apply Wl.splitB; exact rfl; exact rfl; all_goals intros) | (apply St.condP; exact rfl; all_goals (intros; try (exfalso; omega))) | (apply St.condB; exact rfl; all_goals intros))
  apply Wl.callQ
  exact rfl
  (repeat (first | exact Evs.nil | apply Evs.cons rfl))
  · intro wq hq
    refine (dec0 wq).mono ?_
    rintro e wr ⟨rfl, hr⟩
    exact ⟨rfl, hq.keep hr⟩
  repeat' (first | (apply Wl.splitP; exact rfl; exact rfl; all_goals (intros; try (exfalso; omega))) | (apply Wl.splitB; exact rfl; exact rfl; all_goals intros) | (apply St.condP; exact rfl; all_goals (intros; try (exfalso; omega))) | (apply St.condB; exact rfl; all_goals intros))
  · apply Wl.callC
    · exact rfl
    · (repeat (first | exact Evs.nil | apply Evs.cons rfl))
    intro wq hq
    refine (do0 h cf _ _ 3 0 wq (hH.upd hq.upd fun y => y (by repeat (first | exact trivial | refine ⟨by simp only; omega, ?_⟩))) (fz_FF (n := 1) (hq.upd.heap h2 fun y => y (by repeat (first | exact trivial | refine ⟨by simp only; omega, ?_⟩))))).mono ?_
    rintro e w1 ⟨rfl, k1, f1, u1⟩
    have hn := onlyNew (w := w) hq (by simp only [List.mem_cons, List.not_mem_nil, or_false, forall_eq_or_imp, forall_eq]; omega)
    have hq1 := Hp.rest hq u1 (by simp only [List.mem_cons, List.not_mem_nil, or_false, forall_eq_or_imp, forall_eq]; omega)
    refine ⟨_, _, rfl, hq1, ?_⟩
    have hs1 := hq.upd.size
    have hs2 := u1.size
    clear hq hq1
    repeat' (first | (apply Gt.outC'; exact rfl; infer_instance; exact rfl; (repeat (first | exact List.Mem.head _ | apply List.Mem.tail)); (repeat (first | apply LSub.z | apply LSub.t | apply LSub.s)); intro w' hp) | (apply Wl.storeA; exact rfl; exact rfl; exact rfl; exact rfl; (repeat (first | apply HSet.here | apply HSet.there)); (repeat (first | apply LPut.s | apply LPut.z | apply LOver.nil | apply LOver.cons))) | (apply Wl.nil) | (apply St.ret) | (apply Gt.next) | (apply Wl.splitP; exact rfl; exact rfl; all_goals (intros; try (exfalso; omega))) | (apply Wl.splitB; exact rfl; exact rfl; all_goals intros) | (apply St.condP; exact rfl; all_goals (intros; try (exfalso; omega))) | (apply St.condB; exact rfl; all_goals intros))
    have hn2 := onlyNew (w := w) hp (by simp only [List.mem_cons, List.not_mem_nil, or_false, forall_eq_or_imp, forall_eq]; omega)
    have uu := ((hn.mono (S' := fun k => (k = h ∨ k = cf) ∨ w.heap.size ≤ k) fun _ _ e => .inr e).trans ((u1.mono fun _ _ e => .inl e).trans (hn2.mono fun _ _ e => .inr e))).mono (S' := fun k => k = h ∨ k = cf) fun k hk e => e.elim id fun y => by omega
    exact ⟨rfl, uu⟩
theorem mloadN (a : Int) (w : World) : Calls Tryd.prog 24 #[.pointer none, .int .u32 a, .int .i64 4] w fun e w' => e = .returned (.tuple #[.int .u32 0, .int .i64 18]) ∧ Hp w [] w' := by
  refine enter (args := [_, _, _]) (Γ := [(0, _), (1, _), (2, _)]) Tryd.func24 Tryd.ntmps24 rfl (of_decide_eq_true rfl) (.cons rfl (.cons rfl (.cons rfl .nil))) ?_
  repeat' (first | (apply Wl.move; exact rfl; exact rfl) | (apply Wl.assign; exact rfl; exact rfl) | (apply Wl.on; exact rfl; exact rfl; (first | with_reducible rfl | with_reducible assumption | decide)) | (apply Wl.pickT; exact rfl; exact rfl; (first | with_reducible rfl | with_reducible assumption | decide); exact rfl) | (apply Wl.neqIs; exact rfl; exact rfl; exact rfl; (first | with_reducible assumption | with_reducible rfl)) | (apply Wl.neq; exact rfl; exact rfl; exact rfl) | (apply Wl.convU32; exact rfl; exact rfl; (constructor <;> omega)) | (apply Wl.nil) | (apply St.seq) | (apply St.region) | (apply Gt.next) | (apply Wl.splitP; exact rfl; exact rfl; all_goals (intros; try (exfalso; omega))) | (apply Wl.splitB; exact rfl; exact rfl; all_goals intros) | (apply St.condP; exact rfl; all_goals (intros; try (exfalso; omega))) | (apply St.condB; exact rfl; all_goals intros))
  apply Wl.callQ
  exact rfl
  (repeat (first | exact Evs.nil | apply Evs.cons rfl))
  · intro wq hq
    refine (has_nil a 4 wq).mono ?_
    rintro e wr ⟨rfl, hr⟩
    exact ⟨rfl, hq.keep hr⟩
  repeat' (first | (apply Wl.assign; exact rfl; exact rfl) | (apply Wl.on; exact rfl; exact rfl; (first | with_reducible rfl | with_reducible assumption | decide)) | (apply Wl.pickF; exact rfl; exact rfl; (first | with_reducible rfl | with_reducible assumption | decide); exact rfl) | (apply Wl.not; exact rfl; exact rfl) | (apply Wl.nil) | (apply St.seq) | (apply St.region) | (apply St.condT; exact rfl; (first | with_reducible rfl | with_reducible assumption | decide)) | (apply St.ret) | (apply Gt.next) | (apply Gt.thenRet) | (apply Gt.out2; exact rfl; exact rfl; exact rfl; intro w' hp) | (apply Wl.splitP; exact rfl; exact rfl; all_goals (intros; try (exfalso; omega))) | (apply Wl.splitB; exact rfl; exact rfl; all_goals intros) | (apply St.condP; exact rfl; all_goals (intros; try (exfalso; omega))) | (apply St.condB; exact rfl; all_goals intros))
  exact ⟨rfl, hp⟩
set_option maxHeartbeats 8000000 in
theorem stepN (h cf : Nat) (pc : Int) (w : World) (hpc : 0 ≤ pc ∧ pc < 4294967296) (hne : h ≠ cf) (h1 : w.heap[h]? = some (.cells (xz ++ [Value.int .u32 pc, Value.pointer (some ⟨cf, 0, none⟩), Value.pointer none]).toArray 30 (0, 0))) (h2 : w.heap[cf]? = some (.cells (fz 0).toArray 54 (0, 0))) :
    Calls Tryd.prog 9 #[.pointer (some ⟨h, 0, none⟩)] w
      fun e w' => e = .returned (.agg #[.int .u32 0, .bool true, .int .u32 (if pc % 4 ≠ 0 then 0 else 1), .int .u32 pc, .int .u32 0, .int .i64 0, .bool false]) ∧ HH w' h cf (.pointer none) xz 0 ∧ Upd (fun k => k = h ∨ k = cf) w w' := by
  have hH : HH w h cf (.pointer none) xz pc := ⟨rfl, h1⟩
  have lh := lt_of_block h1
  have lf := lt_of_block h2
  obtain ⟨c32, c33, c34⟩ := hH.at1
  refine enter (args := [_]) (Γ := [(0, _)]) Tryd.func9 Tryd.ntmps9 rfl (of_decide_eq_true rfl) (.cons rfl .nil) ?_
  repeat' (first | (apply Wl.loadO; exact rfl; exact rfl; (first | exact c32 | exact c33 | exact c34); (repeat (first | exact trivial | refine ⟨by simp only; omega, ?_⟩))) | (apply Wl.move; exact rfl; exact rfl) | (apply Wl.nilCheck; exact rfl; exact rfl) | (apply Wl.fieldAddrZ; exact rfl; exact rfl) | (apply Wl.eqlPN; exact rfl; exact rfl; exact rfl) | (apply Wl.alloc; exact rfl; intro c hc ho) | (apply Wl.nil) | (apply St.seq) | (apply St.region) | (apply St.condF; exact rfl; (first | with_reducible rfl | with_reducible assumption | decide)) | (apply St.skip) | (apply Gt.next) | (apply Wl.splitP; exact rfl; exact rfl; all_goals (intros; try (exfalso; omega))) | (apply Wl.splitB; exact rfl; exact rfl; all_goals intros) | (apply St.condP; exact rfl; all_goals (intros; try (exfalso; omega))) | (apply St.condB; exact rfl; all_goals intros))
  apply Wl.callQ
  · exact rfl
  · (repeat (first | exact Evs.nil | apply Evs.cons rfl))
  · intro wq hq
    refine (fdue cf 3 0 0 0 0 0 0 0 0 ((fz 0).drop 9) wq (hq.upd.heap h2 fun y => y (by repeat (first | exact trivial | refine ⟨by simp only; omega, ?_⟩)))).mono ?_
    rintro e wr ⟨rfl, hr⟩
    rw [due0]
    exact ⟨rfl, hq.keep hr⟩
  repeat' (first | (apply Wl.loadO; exact rfl; exact rfl; (first | exact c32 | exact c33 | exact c34); (repeat (first | exact trivial | refine ⟨by simp only; omega, ?_⟩))) | (apply Wl.rem32E; exact rfl; exact rfl; exact rfl; (decide); (omega)) | (apply Wl.callQQ; exact rfl; (repeat (first | exact Evs.nil | apply Evs.cons rfl)); (intro wq hq; refine (mloadN _ wq).mono ?_; rintro e wr ⟨rfl, hr⟩; exact ⟨rfl, hq.keep hr⟩)) | (apply Wl.move; exact rfl; exact rfl) | (apply Wl.assign; exact rfl; exact rfl) | (apply Wl.off; exact rfl; exact rfl; exact rfl; (first | with_reducible rfl | (show _ = false; with_reducible assumption) | (show _ = true; with_reducible assumption) | decide)) | (apply Wl.extract; exact rfl; exact rfl; exact rfl) | (apply Wl.nilCheck; exact rfl; exact rfl) | (apply Wl.pickT; exact rfl; exact rfl; (first | with_reducible rfl | with_reducible assumption | decide); exact rfl) | (apply Wl.fieldAddrZ; exact rfl; exact rfl) | (apply Wl.neq; exact rfl; exact rfl; exact rfl) | (apply Wl.buildS; exact rfl; (repeat (first | exact Parts.nil | apply Parts.cons rfl)); (repeat (first | apply Fills.nil | (apply Fills.one; exact rfl; exact rfl; (repeat (first | apply LSet.z | apply LSet.s))) | (apply Fills.agg; exact rfl; exact rfl; (repeat (first | apply LPut.s | apply LPut.z | apply LOver.nil | apply LOver.cons)))))) | (apply Wl.nil) | (apply Wl.nilQ) | (apply St.seq) | (apply St.region) | (apply St.draw; exact mixed; (kernel_rfl); exact (fun _ h => Hp.drew h)) | (apply St.condT; exact rfl; (first | with_reducible rfl | with_reducible assumption | decide)) | (apply St.condF; exact rfl; (first | with_reducible rfl | with_reducible assumption | decide)) | (apply St.skip) | (apply Gt.next) | (apply Wl.splitP; exact rfl; exact rfl; all_goals (intros; try (exfalso; omega))) | (apply Wl.splitB; exact rfl; exact rfl; all_goals intros) | (apply St.condP; exact rfl; all_goals (intros; try (exfalso; omega))) | (apply St.condB; exact rfl; all_goals intros))
  · rw [if_pos (by assumption)]
    apply Wl.callC
    · exact rfl
    · (repeat (first | exact Evs.nil | apply Evs.cons rfl))
    intro wq hq
    refine (htrap h cf _ xz pc 3 0 0 0 pc 0 0 0 0 false false wq (hH.upd hq.upd fun y => y (by repeat (first | exact trivial | refine ⟨by simp only; omega, ?_⟩))) (fz_FF (n := 0) (hq.upd.heap h2 fun y => y (by repeat (first | exact trivial | refine ⟨by simp only; omega, ?_⟩))))).mono ?_
    rintro e w1 ⟨rfl, k1, f1, u1⟩
    have hn := onlyNew (w := w) hq (by simp only [List.mem_cons, List.not_mem_nil, or_false, forall_eq_or_imp, forall_eq]; omega)
    have hq1 := Hp.rest hq u1 (by simp only [List.mem_cons, List.not_mem_nil, or_false, forall_eq_or_imp, forall_eq]; omega)
    refine ⟨_, _, rfl, hq1, ?_⟩
    have hs1 := hq.upd.size
    have hs2 := u1.size
    clear hq hq1
    repeat' (first | (apply Gt.outC'; exact rfl; infer_instance; exact rfl; (repeat (first | exact List.Mem.head _ | apply List.Mem.tail)); (repeat (first | apply LSub.z | apply LSub.t | apply LSub.s)); intro w' hp) | (apply Wl.storeA; exact rfl; exact rfl; exact rfl; exact rfl; (repeat (first | apply HSet.here | apply HSet.there)); (repeat (first | apply LPut.s | apply LPut.z | apply LOver.nil | apply LOver.cons))) | (apply Wl.nil) | (apply St.ret) | (apply Gt.next) | (apply Gt.thenRet) | (apply Wl.splitP; exact rfl; exact rfl; all_goals (intros; try (exfalso; omega))) | (apply Wl.splitB; exact rfl; exact rfl; all_goals intros) | (apply St.condP; exact rfl; all_goals (intros; try (exfalso; omega))) | (apply St.condB; exact rfl; all_goals intros))
    have hn2 := onlyNew (w := w) hp (by simp only [List.mem_cons, List.not_mem_nil, or_false, forall_eq_or_imp, forall_eq]; omega)
    have uu := ((hn.mono (S' := fun k => (k = h ∨ k = cf) ∨ w.heap.size ≤ k) fun _ _ e => .inr e).trans ((u1.mono fun _ _ e => .inl e).trans (hn2.mono fun _ _ e => .inr e))).mono (S' := fun k => k = h ∨ k = cf) fun k hk e => e.elim id fun y => by omega
    exact ⟨rfl, k1.upd hn2 (by omega), uu⟩
  · rw [if_neg (by assumption)]
    apply Wl.callC
    · exact rfl
    · (repeat (first | exact Evs.nil | apply Evs.cons rfl))
    intro wq hq
    refine (htrap h cf _ xz pc 3 0 0 1 pc 0 0 0 0 false false wq (hH.upd hq.upd fun y => y (by repeat (first | exact trivial | refine ⟨by simp only; omega, ?_⟩))) (fz_FF (n := 0) (hq.upd.heap h2 fun y => y (by repeat (first | exact trivial | refine ⟨by simp only; omega, ?_⟩))))).mono ?_
    rintro e w1 ⟨rfl, k1, f1, u1⟩
    have hn := onlyNew (w := w) hq (by simp only [List.mem_cons, List.not_mem_nil, or_false, forall_eq_or_imp, forall_eq]; omega)
    have hq1 := Hp.rest hq u1 (by simp only [List.mem_cons, List.not_mem_nil, or_false, forall_eq_or_imp, forall_eq]; omega)
    refine ⟨_, _, rfl, hq1, ?_⟩
    have hs1 := hq.upd.size
    have hs2 := u1.size
    clear hq hq1
    repeat' (first | (apply Gt.outC'; exact rfl; infer_instance; exact rfl; (repeat (first | exact List.Mem.head _ | apply List.Mem.tail)); (repeat (first | apply LSub.z | apply LSub.t | apply LSub.s)); intro w' hp) | (apply Wl.storeA; exact rfl; exact rfl; exact rfl; exact rfl; (repeat (first | apply HSet.here | apply HSet.there)); (repeat (first | apply LPut.s | apply LPut.z | apply LOver.nil | apply LOver.cons))) | (apply Wl.nil) | (apply St.ret) | (apply Gt.next) | (apply Gt.thenRet) | (apply Wl.splitP; exact rfl; exact rfl; all_goals (intros; try (exfalso; omega))) | (apply Wl.splitB; exact rfl; exact rfl; all_goals intros) | (apply St.condP; exact rfl; all_goals (intros; try (exfalso; omega))) | (apply St.condB; exact rfl; all_goals intros))
    have hn2 := onlyNew (w := w) hp (by simp only [List.mem_cons, List.not_mem_nil, or_false, forall_eq_or_imp, forall_eq]; omega)
    have uu := ((hn.mono (S' := fun k => (k = h ∨ k = cf) ∨ w.heap.size ≤ k) fun _ _ e => .inr e).trans ((u1.mono fun _ _ e => .inl e).trans (hn2.mono fun _ _ e => .inr e))).mono (S' := fun k => k = h ∨ k = cf) fun k hk e => e.elim id fun y => by omega
    exact ⟨rfl, k1.upd hn2 (by omega), uu⟩
end Go.Proofs.YtcefkbnachnciaaDoor
