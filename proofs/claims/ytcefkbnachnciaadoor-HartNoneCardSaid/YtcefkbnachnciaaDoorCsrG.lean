/-
  csr.File told by its mode and its trap vector alone: Read's answer whether there is a register, locked, half. Conditions: the file lies in a block of its own.
-/
import Derived.Test.YtcefkbnachnciaaDoorCsr
import Derived.Test.YtcefkbnachnciaaDoorCsrT
import Derived.Laws.BitsAllLaws
import Derived.Laws.Closers25b
namespace Go.Pt
open Go.RowKit
section bin32
variable {P : Program} {md : Md} {ops : Array Oper} {N : Nat} {rest : List Oper} {Γ : Env} {C : World → Prop} {Q : Exit → Act → World → Prop} {d : Nat} {ty : TypeId} {pos : String} {af : Array Edge} {t u : TypeId} {x y : Operand} {m n : Int}
theorem Wl.add32 (hd : Nat.blt d N = true) (hx : ev Γ x = some (.int .u32 m)) (hy : ev Γ y = some (.int .u32 n)) (hb : 0 ≤ m + n ∧ m + n ≤ 4294967295) (h : Wl rest P md ops N ((d, .int .u32 (m + n)) :: Γ) C Q) : Wl (⟨some d, .binOp .add t x y u, ty, pos, af, none⟩ :: rest) P md ops N Γ C Q :=
  Wl.add hd hx hy (by rw [IntWalk.u32_in _ hb]; exact h)
theorem Wl.sub32 (hd : Nat.blt d N = true) (hx : ev Γ x = some (.int .u32 m)) (hy : ev Γ y = some (.int .u32 n)) (hb : 0 ≤ m - n ∧ m - n ≤ 4294967295) (h : Wl rest P md ops N ((d, .int .u32 (m - n)) :: Γ) C Q) : Wl (⟨some d, .binOp .sub t x y u, ty, pos, af, none⟩ :: rest) P md ops N Γ C Q :=
  Wl.sub' hd hx hy (by rw [IntWalk.u32_in _ hb]; exact h)
theorem Wl.mul32 (hd : Nat.blt d N = true) (hx : ev Γ x = some (.int .u32 m)) (hy : ev Γ y = some (.int .u32 n)) (hb : 0 ≤ m * n ∧ m * n ≤ 4294967295) (h : Wl rest P md ops N ((d, .int .u32 (m * n)) :: Γ) C Q) : Wl (⟨some d, .binOp .mul t x y u, ty, pos, af, none⟩ :: rest) P md ops N Γ C Q :=
  Wl.mul hd hx hy (by rw [IntWalk.u32_in _ hb]; exact h)
end bin32
end Go.Pt
namespace Go.Proofs.YtcefkbnachnciaaDoor
open Go.RowKit Go.Pt
theorem Hp.same {w w' : World} {c t : Nat} {cs : List Value} (h : Hp w [⟨c, cs, t⟩] w') (hc : w.heap[c]? = some (.cells cs.toArray t (0, 0))) : Hp w [] w' :=
  ⟨⟨h.upd.os, h.upd.tape, h.upd.output, h.upd.size, fun k hk _ => by
    by_cases e : k = c
    · subst e; rw [hc]; exact h.own.1
    · exact h.upd.block k hk fun y => y ⟨fun e' => e e'.symm, trivial⟩⟩, trivial, trivial⟩
theorem Hp.turned {w w' : World} {c t : Nat} {cs : List Value} (h : Hp w [⟨c, cs, t⟩] w') : Upd (fun k => k = c) w w' :=
  h.upd.mono fun k _ hs => Classical.byContradiction fun y => hs ⟨fun e => y e.symm, trivial⟩
/-- is there a register of this number? -/
def IsReg (n : Int) : Prop := (928 ≤ n ∧ n < 932) ∨ (944 ≤ n ∧ n < 960) ∨ (3857 ≤ n ∧ n < 3861) ∨ n = 768 ∨ n = 769 ∨ n = 772 ∨ n = 773 ∨ (832 ≤ n ∧ n < 837) ∨ n = 2816 ∨ n = 2818 ∨ n = 2944 ∨ n = 2946
instance (n : Int) : Decidable (IsReg n) := by unfold IsReg; infer_instance
/-- the file at c: the mode md, the trap vector tv -/
def FF (w : World) (c : Nat) (md tv : Int) : Prop := ∃ st mie mip sc ep ca tl : Int, ∃ cs : List Value, Kd fkd 34 cs ∧
  w.heap[c]? = some (.cells (.int .i64 md :: .int .u32 st :: .int .u32 mie :: .int .u32 mip :: .int .u32 tv :: .int .u32 sc :: .int .u32 ep :: .int .u32 ca :: .int .u32 tl :: cs).toArray 54 (0, 0))
theorem FF.leaf {w w' : World} {c : Nat} {md st mie mip tv sc ep ca tl : Int} {cs : List Value} (hk : Kd fkd 34 cs)
    (h : Hp w [⟨c, .int .i64 md :: .int .u32 st :: .int .u32 mie :: .int .u32 mip :: .int .u32 tv :: .int .u32 sc :: .int .u32 ep :: .int .u32 ca :: .int .u32 tl :: cs, 54⟩] w') : FF w' c md tv ∧ Upd (fun k => k = c) w w' :=
  ⟨⟨st, mie, mip, sc, ep, ca, tl, cs, hk, h.own.1⟩, Hp.turned h⟩
theorem FF.upd {w w' : World} {c : Nat} {md tv : Int} {S : Nat → Prop} (h : FF w c md tv) (u : Upd S w w') (hs : ¬ S c) : FF w' c md tv := by
  obtain ⟨st, mie, mip, sc, ep, ca, tl, cs, hk, hc⟩ := h
  exact ⟨st, mie, mip, sc, ep, ca, tl, cs, hk, u.heap hc hs⟩
set_option maxHeartbeats 4000000 in
theorem fread_any (c : Nat) (n : Int) (md st mie mip tv sc ep ca tl : Int) (cs : List Value) (w : World) (hn : 0 ≤ n ∧ n < 4294967296) (hk : Kd fkd 34 cs)
    (hc : w.heap[c]? = some (.cells (.int .i64 md :: .int .u32 st :: .int .u32 mie :: .int .u32 mip :: .int .u32 tv :: .int .u32 sc :: .int .u32 ep :: .int .u32 ca :: .int .u32 tl :: cs).toArray 54 (0, 0))) :
    Calls Tryd.prog 13 #[.pointer (some ⟨c, 0, none⟩), .int .u32 n] w fun e w' => (∃ v, e = .returned (.tuple #[.int .u32 v, .bool (decide (IsReg n))])) ∧ Hp w [] w' := by
  refine enter (args := [_, _]) (Γ := [(0, _), (1, _)]) Tryd.func13 Tryd.ntmps13 rfl (of_decide_eq_true rfl) (.cons rfl (.cons rfl .nil)) ?_
  refine St.cls (C' := Hp w [⟨c, .int .i64 md :: .int .u32 st :: .int .u32 mie :: .int .u32 mip :: .int .u32 tv :: .int .u32 sc :: .int .u32 ep :: .int .u32 ca :: .int .u32 tl :: cs, 54⟩]) (fun _ h' => Hp.open h' hc) ?_
  repeat' (first | (apply Wl.load9; exact rfl; exact rfl; (repeat (first | exact List.Mem.head _ | apply List.Mem.tail)); exact hk; omega; omega; (first | exact fkd8 (by omega) | exact fkd32 (by omega) (by omega) | exact fkd64 (by omega)); intro z) | (apply Wl.sub32; exact rfl; exact rfl; exact rfl; (constructor <;> omega)) | (apply Wl.move; exact rfl; exact rfl) | (apply Wl.assign; exact rfl; exact rfl) | (apply Wl.on; exact rfl; exact rfl; (first | with_reducible rfl | with_reducible assumption | decide)) | (apply Wl.off; exact rfl; exact rfl; exact rfl; (first | with_reducible rfl | (show _ = false; with_reducible assumption) | (show _ = true; with_reducible assumption) | decide)) | (apply Wl.nilCheck; exact rfl; exact rfl) | (apply Wl.pickT; exact rfl; exact rfl; (first | with_reducible rfl | with_reducible assumption | decide); exact rfl) | (apply Wl.pickF; exact rfl; exact rfl; (first | with_reducible rfl | with_reducible assumption | decide); exact rfl) | (apply Wl.fieldAddrZ; exact rfl; exact rfl) | (apply Wl.loadH; exact rfl; exact rfl; (repeat (first | exact List.Mem.head _ | apply List.Mem.tail)); exact rfl) | (apply Wl.eqlPN; exact rfl; exact rfl; exact rfl) | (apply Wl.eql; exact rfl; exact rfl; exact rfl) | (apply Wl.lss; exact rfl; exact rfl; exact rfl) | (apply Wl.geq; exact rfl; exact rfl; exact rfl) | (apply Wl.shr; exact rfl; exact rfl; exact rfl; (omega)) | (apply Wl.convI; exact rfl; exact rfl) | (apply Wl.indexArr; exact rfl; exact rfl; exact rfl; (constructor <;> omega)) | (apply Wl.nil) | (apply St.seq) | (apply St.block) | (apply St.region) | (apply St.condF; exact rfl; (first | with_reducible rfl | with_reducible assumption | decide)) | (apply St.ret) | (apply St.skip) | (apply Gt.next) | (apply Gt.thenRet) | (apply Gt.inNormal) | (apply Gt.inRet) | (apply Gt.out2; exact rfl; exact rfl; exact rfl; intro w' hp) | (apply Wl.splitP; exact rfl; exact rfl; all_goals (intros; try (exfalso; omega))) | (apply Wl.splitB; exact rfl; exact rfl; all_goals intros) | (apply St.condP; exact rfl; all_goals (intros; try (exfalso; omega))) | (apply St.condB; exact rfl; all_goals intros))
  · refine St.loop (σ := Int × Int) (fun τ => 0 ≤ τ.1 ∧ τ.1 ≤ 4) (fun τ => [(18, .int .i64 τ.1), (6, .int .u32 τ.2), (0, .pointer (some ⟨c, 0, none⟩)), (1, .int .u32 n)])
      (fun _ => Hp w [⟨c, .int .i64 md :: .int .u32 st :: .int .u32 mie :: .int .u32 mip :: .int .u32 tv :: .int .u32 sc :: .int .u32 ep :: .int .u32 ca :: .int .u32 tl :: cs, 54⟩]) (fun τ => (4 - τ.1).toNat) (0, 0) (by simp) (by (repeat (first | exact Sub.nil | apply Sub.cons rfl))) (fun _ h => h) ?_
    rintro ⟨i, x⟩ ⟨hi0, hi⟩
    simp only at hi0 hi ⊢
    repeat' (first | (apply Wl.load9; exact rfl; exact rfl; (repeat (first | exact List.Mem.head _ | apply List.Mem.tail)); exact hk; omega; omega; exact fkd8 (by omega); intro z) | (apply Wl.sub32; exact rfl; exact rfl; exact rfl; (constructor <;> omega)) | (apply Wl.mul32; exact rfl; exact rfl; exact rfl; (constructor <;> omega)) | (apply Wl.add32; exact rfl; exact rfl; exact rfl; (constructor <;> omega)) | (apply Wl.move; exact rfl; exact rfl) | (apply Wl.assign; exact rfl; exact rfl) | (apply Wl.nilCheck; exact rfl; exact rfl) | (apply Wl.fieldAddrZ; exact rfl; exact rfl) | (apply Wl.lss; exact rfl; exact rfl; exact rfl) | (apply Wl.addI; exact rfl; exact rfl; exact rfl; (constructor <;> omega)) | (apply Wl.mulI; exact rfl; exact rfl; exact rfl; (constructor <;> omega)) | (apply Wl.or; exact rfl; exact rfl; exact rfl) | (apply Wl.shl; exact rfl; exact rfl; exact rfl; (omega)) | (apply Wl.convU32; exact rfl; exact rfl; (constructor <;> omega)) | (apply Wl.convI; exact rfl; exact rfl) | (apply Wl.indexArr; exact rfl; exact rfl; exact rfl; (constructor <;> omega)) | (apply Wl.nil) | (apply St.seq) | (apply St.block) | (apply St.region) | (apply St.ret) | (apply St.skip) | (apply St.exit) | (apply Gt.next) | (apply Gt.thenRet) | (apply Gt.thenExit) | (apply Gt.inNormal) | (apply Gt.inRet) | (apply Gt.inExit) | (apply Gt.out2; exact rfl; exact rfl; exact rfl; intro w' hp) | (apply Wl.splitP; exact rfl; exact rfl; all_goals (intros; try (exfalso; omega))) | (apply Wl.splitB; exact rfl; exact rfl; all_goals intros) | (apply St.condP; exact rfl; all_goals (intros; try (exfalso; omega))) | (apply St.condB; exact rfl; all_goals intros))
    · apply Gt.round (i + 1, _)
      rotate_left
      · simp only; omega
      · (repeat (first | exact Sub.nil | apply Sub.cons rfl))
      · exact fun _ h => h
      · simp only; omega
    · exact ⟨⟨_, by rw [decide_eq_true (show IsReg n by unfold IsReg; omega)]⟩, Hp.same hp hc⟩
  all_goals first
    | exact ⟨⟨_, by rw [decide_eq_true (show IsReg n by unfold IsReg; omega)]⟩, Hp.same hp hc⟩
    | exact ⟨⟨_, by rw [decide_eq_false (show ¬ IsReg n by unfold IsReg; omega)]⟩, Hp.same hp hc⟩
set_option maxHeartbeats 4000000 in
theorem flocked (c : Nat) (i : Int) (md st mie mip tv sc ep ca tl : Int) (cs : List Value) (w : World) (hn : 0 ≤ i ∧ i < 16) (hk : Kd fkd 34 cs)
    (hc : w.heap[c]? = some (.cells (.int .i64 md :: .int .u32 st :: .int .u32 mie :: .int .u32 mip :: .int .u32 tv :: .int .u32 sc :: .int .u32 ep :: .int .u32 ca :: .int .u32 tl :: cs).toArray 54 (0, 0))) :
    Calls Tryd.prog 58 #[.pointer (some ⟨c, 0, none⟩), .int .i64 i] w fun e w' => (∃ v, e = .returned (.bool v)) ∧ Hp w [] w' := by
  refine enter (args := [_, _]) (Γ := [(0, _), (1, _)]) Tryd.func58 Tryd.ntmps58 rfl (of_decide_eq_true rfl) (.cons rfl (.cons rfl .nil)) ?_
  refine St.cls (C' := Hp w [⟨c, .int .i64 md :: .int .u32 st :: .int .u32 mie :: .int .u32 mip :: .int .u32 tv :: .int .u32 sc :: .int .u32 ep :: .int .u32 ca :: .int .u32 tl :: cs, 54⟩]) (fun _ h' => Hp.open h' hc) ?_
  repeat' (first | (apply Wl.load9; exact rfl; exact rfl; (repeat (first | exact List.Mem.head _ | apply List.Mem.tail)); exact hk; omega; omega; exact fkd8 (by omega); intro z) | (apply Wl.move; exact rfl; exact rfl) | (apply Wl.assign; exact rfl; exact rfl) | (apply Wl.on; exact rfl; exact rfl; (first | with_reducible rfl | with_reducible assumption | decide)) | (apply Wl.off; exact rfl; exact rfl; exact rfl; (first | with_reducible rfl | (show _ = false; with_reducible assumption) | (show _ = true; with_reducible assumption) | decide)) | (apply Wl.offU; exact rfl; exact rfl; exact rfl) | (apply Wl.nilCheck; exact rfl; exact rfl) | (apply Wl.pickT; exact rfl; exact rfl; (first | with_reducible rfl | with_reducible assumption | decide); exact rfl) | (apply Wl.pickF; exact rfl; exact rfl; (first | with_reducible rfl | with_reducible assumption | decide); exact rfl) | (apply Wl.fieldAddrZ; exact rfl; exact rfl) | (apply Wl.eql; exact rfl; exact rfl; exact rfl) | (apply Wl.neq; exact rfl; exact rfl; exact rfl) | (apply Wl.lss; exact rfl; exact rfl; exact rfl) | (apply Wl.addI; exact rfl; exact rfl; exact rfl; (constructor <;> omega)) | (apply Wl.and; exact rfl; exact rfl; exact rfl) | (apply Wl.shr; exact rfl; exact rfl; exact rfl; (omega)) | (apply Wl.indexArr; exact rfl; exact rfl; exact rfl; (constructor <;> omega)) | (apply Wl.nil) | (apply St.seq) | (apply St.region) | (apply St.ret) | (apply Gt.next) | (apply Gt.out1; exact rfl; exact rfl; intro w' hp) | (apply Wl.splitP; exact rfl; exact rfl; all_goals (intros; try (exfalso; omega))) | (apply Wl.splitB; exact rfl; exact rfl; all_goals intros) | (apply St.condP; exact rfl; all_goals (intros; try (exfalso; omega))) | (apply St.condB; exact rfl; all_goals intros))
  all_goals exact ⟨⟨_, rfl⟩, Hp.same hp hc⟩
theorem fhalf (a x : Int) (b : Bool) (w : World) (hx : 0 ≤ x ∧ x < 4294967296) : Calls Tryd.prog 59 #[.int .u64 a, .int .u32 x, .bool b] w fun e w' => (∃ v, e = .returned (.int .u64 v)) ∧ Hp w [] w' := by
  refine enter (args := [_, _, _]) (Γ := [(0, _), (1, _), (2, _)]) Tryd.func59 Tryd.ntmps59 rfl (of_decide_eq_true rfl) (.cons rfl (.cons rfl (.cons rfl .nil))) ?_
  repeat' (first | (apply Wl.move; exact rfl; exact rfl) | (apply Wl.assign; exact rfl; exact rfl) | (apply Wl.and; exact rfl; exact rfl; exact rfl) | (apply Wl.or; exact rfl; exact rfl; exact rfl) | (apply Wl.andNot; exact rfl; exact rfl; exact rfl) | (apply Wl.shl; exact rfl; exact rfl; exact rfl; (omega)) | (apply Wl.convU64; exact rfl; exact rfl; (constructor <;> omega)) | (apply Wl.nil) | (apply St.seq) | (apply St.region) | (apply St.ret) | (apply St.skip) | (apply Gt.next) | (apply Gt.thenRet) | (apply Gt.out1; exact rfl; exact rfl; intro w' hp) | (apply Wl.splitP; exact rfl; exact rfl; all_goals (intros; try (exfalso; omega))) | (apply Wl.splitB; exact rfl; exact rfl; all_goals intros) | (apply St.condP; exact rfl; all_goals (intros; try (exfalso; omega))) | (apply St.condB; exact rfl; all_goals intros))
  all_goals exact ⟨⟨_, rfl⟩, hp⟩
end Go.Proofs.YtcefkbnachnciaaDoor
