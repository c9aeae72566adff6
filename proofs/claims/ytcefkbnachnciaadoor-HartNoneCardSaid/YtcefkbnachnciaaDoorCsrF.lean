/-
  pmp.Range and csr.File.May1 where nothing is protected. Conditions: the entries are zeros.
-/
import Derived.Test.YtcefkbnachnciaaDoorCsrE
namespace Go.Proofs.YtcefkbnachnciaaDoor
open Go.RowKit Go.Pt
theorem Wl.max2 {P : Program} {md : Md} {ops : Array Oper} {N : Nat} {rest : List Oper} {Γ : Env} {C : World → Prop} {Q : Exit → Act → World → Prop} {d : Nat} {ty : TypeId} {pos : String} {af : Array Edge} {x y : Operand} {t u : TypeId} {k : IntKind} {m n : Int}
    (hd : Nat.blt d N = true) (hx : ev Γ x = some (.int k m)) (hy : ev Γ y = some (.int k n)) (h : Wl rest P md ops N ((d, .int k (if m < n then n else m)) :: Γ) C Q) :
    Wl (⟨some d, .call { callee := .builtin .max, args := #[x, y], argTypes := #[t, u] }, ty, pos, af, none⟩ :: rest) P md ops N Γ C Q :=
  Wl.val hd (fun a w ha _ => by simp [execOp, resolve, invoke, builtin, Builtin.max_, Builtin.max2, ha.ev hx, ha.ev hy]; try (split <;> simp_all)) h
theorem range0 (k o cap i : Nat) (w : World) (hi : i < 16) (hW : w.cell? ⟨k, o + (i : Int).toNat * 3, none⟩ = some (.int .i64 0)) (hA : w.cell? ⟨k, o + (i : Int).toNat * 3 + 2, none⟩ = some (.int .u32 0)) :
    Calls Tryd.prog 36 #[.slice (some ⟨k, o, none⟩) 16 cap, .int .i64 i] w fun e w' => e = .returned (.tuple #[.int .u64 0, .int .u64 0]) ∧ Hp w [] w' := by
  refine enter (args := [_, _]) (Γ := [(0, _), (1, _)]) Tryd.func36 Tryd.ntmps36 rfl (of_decide_eq_true rfl) (.cons rfl (.cons rfl .nil)) ?_
  repeat' (first | (apply Wl.move; exact rfl; exact rfl) | (apply Wl.assign; exact rfl; exact rfl) | (apply Wl.on; exact rfl; exact rfl; (first | with_reducible rfl | with_reducible assumption | decide)) | (apply Wl.pickF; exact rfl; exact rfl; (first | with_reducible rfl | with_reducible assumption | decide); exact rfl) | (apply Wl.fieldAddr0; exact rfl; exact rfl) | (apply Wl.fieldAddr; exact rfl; exact rfl) | (apply Wl.loadO; exact rfl; exact rfl; (assumption); (repeat (first | exact trivial | refine ⟨by first | assumption | omega, ?_⟩))) | (apply Wl.eql; exact rfl; exact rfl; exact rfl) | (apply Wl.lss; exact rfl; exact rfl; exact rfl) | (apply Wl.geq; exact rfl; exact rfl; exact rfl) | (apply Wl.convU64; exact rfl; exact rfl; (constructor <;> omega)) | (apply Wl.len; exact rfl; exact rfl) | (apply Wl.indexAddr; exact rfl; exact rfl; exact rfl; (constructor <;> omega)) | (apply Wl.nil) | (apply St.seq) | (apply St.block) | (apply St.region) | (apply St.condF; exact rfl; (first | with_reducible rfl | with_reducible assumption | decide)) | (apply St.ret) | (apply St.skip) | (apply Gt.next) | (apply Gt.inNormal) | (apply Gt.out2; exact rfl; exact rfl; exact rfl; intro w' hp) | (apply Wl.splitP; exact rfl; exact rfl; all_goals (intros; try (exfalso; omega))) | (apply Wl.splitB; exact rfl; exact rfl; all_goals intros) | (apply St.condP; exact rfl; all_goals (intros; try (exfalso; omega))) | (apply St.condB; exact rfl; all_goals intros))
  exact ⟨rfl, hp⟩
theorem ents0_at (i : Nat) (hi : i < 16) : (ents0 16)[i * 3]? = some (.int .i64 0) ∧ (ents0 16)[i * 3 + 2]? = some (.int .u32 0) := by
  have : i = 0 ∨ i = 1 ∨ i = 2 ∨ i = 3 ∨ i = 4 ∨ i = 5 ∨ i = 6 ∨ i = 7 ∨ i = 8 ∨ i = 9 ∨ i = 10 ∨ i = 11 ∨ i = 12 ∨ i = 13 ∨ i = 14 ∨ i = 15 := by omega
  rcases this with rfl | rfl | rfl | rfl | rfl | rfl | rfl | rfl | rfl | rfl | rfl | rfl | rfl | rfl | rfl | rfl <;> exact ⟨rfl, rfl⟩
theorem ents0_cells {w : World} {base : Nat} {v : Value} (h : w.ownsRow base 49 3 v 16 (ents0 16)) :
    ∃ k o cap, v = .slice (some ⟨k, o, none⟩) 16 cap ∧ ∀ i : Nat, i < 16 → w.cell? ⟨k, o + (i : Int).toNat * 3, none⟩ = some (.int .i64 0) ∧ w.cell? ⟨k, o + (i : Int).toNat * 3 + 2, none⟩ = some (.int .u32 0) := by
  obtain ⟨_, a, cap, rfl, _, _, _, hc⟩ := Sv.ofOwn h
  obtain ⟨k, o, rfl, hx⟩ := hc (fun e => by cases e)
  refine ⟨k, o, cap, rfl, fun i hi => ?_⟩
  obtain ⟨e1, e2⟩ := ents0_at i hi
  obtain ⟨l1, e1⟩ := List.getElem?_eq_some_iff.1 e1
  obtain ⟨l2, e2⟩ := List.getElem?_eq_some_iff.1 e2
  rw [Int.toNat_natCast]
  exact ⟨by rw [hx _ l1, e1], by rw [Nat.add_assoc, hx _ l2, e2]⟩
set_option maxHeartbeats 2000000 in
theorem may10 (b : Nat) (r : Int) (w : World) (hb : b < w.heap.size) (hmode : w.cell? ⟨b, 0, none⟩ = some (.int .i64 3)) (hcfg : ∀ j : Nat, j < 16 → w.cell? ⟨b, 9 + j, none⟩ = some (.int .u8 0)) (haddr : ∀ j : Nat, j < 16 → w.cell? ⟨b, 25 + j, none⟩ = some (.int .u32 0)) :
    Calls Tryd.prog 17 #[.pointer (some ⟨b, 0, none⟩), .int .u32 0, .int .i64 4, .int .i64 r] w fun e w' => e = .returned (.bool true) ∧ Hp w [] w' := by
  refine enter (args := [_, _, _, _]) (Γ := [(0, _), (1, _), (2, _), (3, _)]) Tryd.func17 Tryd.ntmps17 rfl (of_decide_eq_true rfl) (.cons rfl (.cons rfl (.cons rfl (.cons rfl .nil)))) ?_
  repeat' (first | (apply Wl.move; exact rfl; exact rfl) | (apply Wl.assign; exact rfl; exact rfl) | (apply Wl.nilCheck; exact rfl; exact rfl) | (apply Wl.fieldAddr0; exact rfl; exact rfl) | (apply Wl.loadO; exact rfl; exact rfl; (assumption); (repeat (first | exact trivial | refine ⟨by first | assumption | omega, ?_⟩))) | (apply Wl.eqlPN; exact rfl; exact rfl; exact rfl) | (apply Wl.eql; exact rfl; exact rfl; exact rfl) | (apply Wl.nil) | (apply St.seq) | (apply St.region) | (apply St.condF; exact rfl; (first | with_reducible rfl | with_reducible assumption | decide)) | (apply St.skip) | (apply Gt.next) | (apply Wl.splitP; exact rfl; exact rfl; all_goals (intros; try (exfalso; omega))) | (apply Wl.splitB; exact rfl; exact rfl; all_goals intros) | (apply St.condP; exact rfl; all_goals (intros; try (exfalso; omega))) | (apply St.condB; exact rfl; all_goals intros))
  apply Wl.callC
  · exact rfl
  · (repeat (first | exact Evs.nil | apply Evs.cons rfl))
  intro wq hq
  have cellq {p : Addr} {x : Value} (h : w.cell? p = some x) : wq.cell? p = some x := hq.upd.cell h fun y => y trivial
  have hsz := hq.upd.size
  refine (entries0 b wq (by omega) (fun j hj => cellq (hcfg j hj)) (fun j hj => cellq (haddr j hj))).mono ?_
  rintro e wr ⟨v, rfl, hov, hur⟩
  obtain ⟨k, o, cap, rfl, hc⟩ := ents0_cells hov
  have hu : Upd (fun k => w.heap.size ≤ k) w wr := hq.upd.comp hur fun k _ hs => hs.elim (fun y => (y trivial).elim) fun e => by omega
  refine ⟨_, _, rfl, Hp.start wr, ?_⟩
  clear hq
  repeat' (first | (apply Wl.max2; exact rfl; exact rfl; exact rfl) | (apply Wl.move; exact rfl; exact rfl) | (apply Wl.assign; exact rfl; exact rfl) | (apply Wl.addU; exact rfl; exact rfl; exact rfl; (constructor <;> omega)) | (apply Wl.convU64; exact rfl; exact rfl; (constructor <;> omega)) | (apply Wl.len; exact rfl; exact rfl) | (apply Wl.nil) | (apply St.seq) | (apply St.block) | (apply St.region) | (apply Gt.next) | (apply Wl.splitP; exact rfl; exact rfl; all_goals (intros; try (exfalso; omega))) | (apply Wl.splitB; exact rfl; exact rfl; all_goals intros) | (apply St.condP; exact rfl; all_goals (intros; try (exfalso; omega))) | (apply St.condB; exact rfl; all_goals intros))
  refine St.loop (σ := Nat) (fun i => i ≤ 16) (fun i => [(40, .int .i64 i), (39, .int .i64 16), (11, .int .u64 4), (10, .int .u64 0), (9, .slice (some ⟨k, o, none⟩) 16 cap), (0, .pointer (some ⟨b, 0, none⟩)), (3, .int .i64 r), (8, .bool false)])
    (fun _ => Hp wr []) (fun i => 16 - i) 0 (by simp) (by (repeat (first | exact Sub.nil | apply Sub.cons rfl))) (fun _ h => h) ?_
  intro i hi
  by_cases hlt : i < 16
  · obtain ⟨c1, c2⟩ := hc i hlt
    repeat' (first | (apply Wl.move; exact rfl; exact rfl) | (apply Wl.assign; exact rfl; exact rfl) | (apply Wl.lss; exact rfl; exact rfl; exact rfl) | (apply Wl.nil) | (apply St.seq) | (apply St.block) | (apply St.region) | (apply St.skip) | (apply Gt.next) | (apply Wl.splitP; exact rfl; exact rfl; all_goals (intros; try (exfalso; omega))) | (apply Wl.splitB; exact rfl; exact rfl; all_goals intros) | (apply St.condP; exact rfl; all_goals (intros; try (exfalso; omega))) | (apply St.condB; exact rfl; all_goals intros))
    apply Wl.callQ
    · exact rfl
    · (repeat (first | exact Evs.nil | apply Evs.cons rfl))
    · intro wp hp
      refine (range0 k o cap i wp hlt (hp.upd.cell c1 fun y => y trivial) (hp.upd.cell c2 fun y => y trivial)).mono ?_
      rintro e wz ⟨rfl, hz⟩
      exact ⟨rfl, hp.keep hz⟩
    repeat' (first | (apply Wl.move; exact rfl; exact rfl) | (apply Wl.assign; exact rfl; exact rfl) | (apply Wl.off; exact rfl; exact rfl; exact rfl; (first | with_reducible rfl | (show _ = false; with_reducible assumption) | (show _ = true; with_reducible assumption) | decide)) | (apply Wl.extract; exact rfl; exact rfl; exact rfl) | (apply Wl.pickT; exact rfl; exact rfl; (first | with_reducible rfl | with_reducible assumption | decide); exact rfl) | (apply Wl.leq; exact rfl; exact rfl; exact rfl) | (apply Wl.addI; exact rfl; exact rfl; exact rfl; (constructor <;> omega)) | (apply Wl.nil) | (apply St.seq) | (apply St.region) | (apply St.condT; exact rfl; (first | with_reducible rfl | with_reducible assumption | decide)) | (apply St.exit) | (apply Gt.next) | (apply Gt.thenExit) | (apply Gt.inExit) | (apply Wl.splitP; exact rfl; exact rfl; all_goals (intros; try (exfalso; omega))) | (apply Wl.splitB; exact rfl; exact rfl; all_goals intros) | (apply St.condP; exact rfl; all_goals (intros; try (exfalso; omega))) | (apply St.condB; exact rfl; all_goals intros))
    apply Gt.round (i + 1)
    rotate_left
    · omega
    · (repeat (first | exact Sub.nil | apply Sub.cons rfl))
    · exact fun _ h => h
    · omega
  · have hie : i = 16 := by omega
    subst hie
    repeat' (first | (apply Wl.assign; exact rfl; exact rfl) | (apply Wl.lss; exact rfl; exact rfl; exact rfl) | (apply Wl.nil) | (apply St.seq) | (apply St.region) | (apply St.condF; exact rfl; (first | with_reducible rfl | with_reducible assumption | decide)) | (apply St.ret) | (apply St.exit) | (apply Gt.next) | (apply Gt.thenExit) | (apply Gt.inExit) | (apply Gt.out1; exact rfl; exact rfl; intro w' hp) | (apply Wl.splitP; exact rfl; exact rfl; all_goals (intros; try (exfalso; omega))) | (apply Wl.splitB; exact rfl; exact rfl; all_goals intros) | (apply St.condP; exact rfl; all_goals (intros; try (exfalso; omega))) | (apply St.condB; exact rfl; all_goals intros))
    exact ⟨rfl, Hp.under hp hu⟩
end Go.Proofs.YtcefkbnachnciaaDoor
