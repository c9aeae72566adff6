/-
  porticolaw15.light and CsrBack: the law answers true. Conditions: the argument is a slice of calls, read as such.
-/
import Derived.Test.YtahgpfjkmcaeaaaDoorCsrQ
namespace Go.Proofs.YtahgpfjkmcaeaaaDoor
open Go.RowKit Go.Pt
theorem Hp.turned2 {w w' : World} {x : Blk} {p t : Nat} {cs : List Value} (h : Hp w [x, ⟨p, cs, t⟩] w') (hp : w.heap[p]? = some (.cells cs.toArray t (0, 0))) : Upd (fun k => k = x.b) w w' :=
  ⟨h.upd.os, h.upd.tape, h.upd.output, h.upd.size, fun k hk hs => by
    by_cases e : k = p
    · subst e; rw [hp]; exact h.own.2.1
    · exact h.upd.block k hk fun y => y ⟨fun e' => hs e'.symm, fun e' => e e'.symm, trivial⟩⟩
theorem Wl.rem32E {P : Program} {md : Md} {ops : Array Oper} {N : Nat} {rest : List Oper} {Γ : Env} {C : World → Prop} {Q : Exit → Act → World → Prop} {d : Nat} {ty : TypeId} {pos : String} {af : Array Edge} {t u : TypeId} {x y : Operand} {m n : Int}
    (hd : Nat.blt d N = true) (hx : ev Γ x = some (.int .u32 m)) (hy : ev Γ y = some (.int .u32 n)) (hn : n ≠ 0) (hm : 0 ≤ m) (h : Wl rest P md ops N ((d, .int .u32 (m % n)) :: Γ) C Q) : Wl (⟨some d, .binOp .rem t x y u, ty, pos, af, none⟩ :: rest) P md ops N Γ C Q :=
  Wl.rem hd hx hy hn (by rw [Int.tmod_eq_emod_of_nonneg hm]; exact h)
/-- a slice of n calls, in blocks that w holds -/
def CallS (w : World) (a : Option Addr) (n : Nat) : Prop := ∀ i : Nat, i < n → ∃ b o, a = some ⟨b, o, none⟩ ∧ ∃ (k r x y : Int) (la : Option Addr) (ln lc : Nat),
  w.cell? ⟨b, o + i * 5, none⟩ = some (.int .i64 k) ∧ w.cell? ⟨b, o + i * 5 + 1, none⟩ = some (.int .u32 r) ∧ w.cell? ⟨b, o + i * 5 + 2, none⟩ = some (.int .u32 x) ∧ w.cell? ⟨b, o + i * 5 + 3, none⟩ = some (.int .u32 y) ∧
  w.cell? ⟨b, o + i * 5 + 4, none⟩ = some (.slice la ln lc) ∧ (0 ≤ r ∧ r < 4294967296) ∧ (0 ≤ x ∧ x < 4294967296) ∧ (0 ≤ y ∧ y < 4294967296) ∧ ln ≤ 140737488355328 ∧ EntS w la ln
theorem call_cells {w w0 : World} {b o i : Nat} {k r x y : Int} {la : Option Addr} {ln lc : Nat} {S : Nat → Prop} (h0 : w.cell? ⟨b, o + i * 5, none⟩ = some (.int .i64 k)) (h1 : w.cell? ⟨b, o + i * 5 + 1, none⟩ = some (.int .u32 r)) (h2 : w.cell? ⟨b, o + i * 5 + 2, none⟩ = some (.int .u32 x))
    (h3 : w.cell? ⟨b, o + i * 5 + 3, none⟩ = some (.int .u32 y)) (h4 : w.cell? ⟨b, o + i * 5 + 4, none⟩ = some (.slice la ln lc)) (u : Upd S w w0) (hs : ¬ S b) :
    ∀ j v, [Value.int .i64 k, .int .u32 r, .int .u32 x, .int .u32 y, .slice la ln lc][j]? = some v → w0.cell? ((⟨b, o + (i : Int).toNat * 5, none⟩ : Addr).add j) = some v := by
  intro j v hj
  rw [addLit, Int.toNat_natCast]
  match j, hj with
  | 0, hj => cases hj; exact u.cell h0 hs
  | 1, hj => cases hj; exact u.cell h1 hs
  | 2, hj => cases hj; exact u.cell h2 hs
  | 3, hj => cases hj; exact u.cell h3 hs
  | 4, hj => cases hj; exact u.cell h4 hs
set_option maxHeartbeats 4000000 in
theorem light_any (n cap : Nat) (a : Option Addr) (w : World) (hS : CallS w a n) : Calls Tryd.prog 5 #[.slice a n cap] w fun e w' => (∃ b : Bool, e = .returned (.bool b) ∧ (b = true → n ≤ 600)) ∧ Hp w [] w' := by
  refine enter (args := [_]) (Γ := [(0, _)]) Tryd.func5 Tryd.ntmps5 rfl (of_decide_eq_true rfl) (.cons rfl .nil) ?_
  repeat' (first | (apply Wl.move; exact rfl; exact rfl) | (apply Wl.assign; exact rfl; exact rfl) | (apply Wl.len; exact rfl; exact rfl) | (apply Wl.nil) | (apply St.seq) | (apply St.block) | (apply St.region) | (apply Gt.next) | (apply Wl.splitP; exact rfl; exact rfl; all_goals (intros; try (exfalso; omega))) | (apply Wl.splitB; exact rfl; exact rfl; all_goals intros) | (apply St.condP; exact rfl; all_goals (intros; try (exfalso; omega))) | (apply St.condB; exact rfl; all_goals intros))
  refine St.loop (σ := Nat × Int) (fun τ => τ.1 ≤ n ∧ (τ.1 : Int) ≤ τ.2 ∧ τ.2 ≤ 600) (fun τ => [(8, .int .i64 τ.1), (7, .int .i64 n), (6, .slice a n cap), (3, .int .i64 τ.2)]) (fun _ => Hp w []) (fun τ => n - τ.1) (0, 0) (by simp) (by (repeat (first | exact Sub.nil | apply Sub.cons rfl))) (fun _ h => h) ?_
  rintro ⟨i, s⟩ ⟨hi, his, hs⟩
  simp only at hi his hs ⊢
  by_cases hlt : i < n
  · obtain ⟨b, o, rfl, k, r, x, y, la, ln, lc, h0, h1, h2, h3, h4, _, _, _, hln, _⟩ := hS i hlt
    repeat' (first | (apply Wl.loadAF (xs := [Value.int .i64 k, .int .u32 r, .int .u32 x, .int .u32 y, .slice la ln lc]); exact rfl; exact rfl; exact rfl; (intro wq hq; exact call_cells h0 h1 h2 h3 h4 hq.upd fun y => y trivial)) | (apply Wl.move; exact rfl; exact rfl) | (apply Wl.assign; exact rfl; exact rfl) | (apply Wl.fieldAddrZ; exact rfl; exact rfl) | (apply Wl.loadH; exact rfl; exact rfl; (repeat (first | exact List.Mem.head _ | apply List.Mem.tail)); exact rfl) | (apply Wl.lss; exact rfl; exact rfl; exact rfl) | (apply Wl.gtr; exact rfl; exact rfl; exact rfl) | (apply Wl.addI; exact rfl; exact rfl; exact rfl; (constructor <;> omega)) | (apply Wl.len; exact rfl; exact rfl) | (apply Wl.storeA; exact rfl; exact rfl; exact rfl; exact rfl; (repeat (first | apply HSet.here | apply HSet.there)); (repeat (first | apply LPut.s | apply LPut.z | apply LOver.nil | apply LOver.cons))) | (apply Wl.alloc; exact rfl; intro c hc ho) | (apply Wl.indexAddr; exact rfl; exact rfl; exact rfl; (constructor <;> omega)) | (apply Wl.nil) | (apply St.seq) | (apply St.block) | (apply St.region) | (apply St.ret) | (apply St.skip) | (apply Gt.next) | (apply Gt.thenRet) | (apply Gt.inNormal) | (apply Gt.inRet) | (apply Gt.out1; exact rfl; exact rfl; intro w' hp) | (apply Wl.splitP; exact rfl; exact rfl; all_goals (intros; try (exfalso; omega))) | (apply Wl.splitB; exact rfl; exact rfl; all_goals intros) | (apply St.condP; exact rfl; all_goals (intros; try (exfalso; omega))) | (apply St.condB; exact rfl; all_goals intros))
    · exact ⟨⟨false, rfl, fun e => by cases e⟩, hp.drop (by simp; omega)⟩
    · apply Gt.round (i + 1, s + (1 + (ln : Int)))
      rotate_left
      · simp only; omega
      · (repeat (first | exact Sub.nil | apply Sub.cons rfl))
      · exact fun _ h => Hp.pop h (by simp only; omega)
      · simp only; omega
  · repeat' (first | (apply Wl.assign; exact rfl; exact rfl) | (apply Wl.lss; exact rfl; exact rfl; exact rfl) | (apply Wl.nil) | (apply St.seq) | (apply St.region) | (apply St.ret) | (apply St.exit) | (apply Gt.next) | (apply Gt.thenExit) | (apply Gt.inExit) | (apply Gt.out1; exact rfl; exact rfl; intro w' hp) | (apply Wl.splitP; exact rfl; exact rfl; all_goals (intros; try (exfalso; omega))) | (apply Wl.splitB; exact rfl; exact rfl; all_goals intros) | (apply St.condP; exact rfl; all_goals (intros; try (exfalso; omega))) | (apply St.condB; exact rfl; all_goals intros))
    exact ⟨⟨true, rfl, fun _ => by omega⟩, hp⟩
theorem EntS.upd {w w' : World} {a : Option Addr} {n : Nat} {S : Nat → Prop} (h : EntS w a n) (u : Upd S w w') (hs : ∀ k, k < w.heap.size → ¬ S k) : EntS w' a n := by
  intro i hi
  obtain ⟨b, o, e, x, y, z, h1, h2, h3⟩ := h i hi
  have hb := hs b (cell_old h1)
  exact ⟨b, o, e, x, y, z, u.cell h1 hb, u.cell h2 hb, u.cell h3 hb⟩
theorem CallS.upd {w w' : World} {a : Option Addr} {n : Nat} {S : Nat → Prop} (h : CallS w a n) (u : Upd S w w') (hs : ∀ k, k < w.heap.size → ¬ S k) : CallS w' a n := by
  intro i hi
  obtain ⟨b, o, e, k, r, x, y, la, ln, lc, h0, h1, h2, h3, h4, h5, h6, h7, h8, h9⟩ := h i hi
  have hb := hs b (cell_old h0)
  exact ⟨b, o, e, k, r, x, y, la, ln, lc, u.cell h0 hb, u.cell h1 hb, u.cell h2 hb, u.cell h3 hb, u.cell h4 hb, h5, h6, h7, h8, h9.upd u hs⟩
set_option maxHeartbeats 8000000 in
theorem csrBack_any (n cap : Nat) (a : Option Addr) (pc c0 c1 : Int) (w : World) (hpc : 0 ≤ pc ∧ pc < 4294967296) (hS : CallS w a n) :
    Calls Tryd.prog 3 #[.slice a n cap, .int .u32 pc, .agg #[.int .u32 c0, .int .u32 c1]] w fun e w' => e = .returned (.bool true) ∧ Hp w [] w' := by
  refine enter (args := [_, _, _]) (Γ := [(0, _), (1, _), (2, _)]) Tryd.func3 Tryd.ntmps3 rfl (of_decide_eq_true rfl) (.cons rfl (.cons rfl (.cons rfl .nil))) ?_
  repeat' (first | (apply Wl.assign; exact rfl; exact rfl) | (apply Wl.boxA; exact rfl; exact rfl; intro c hc ho) | (apply Wl.nil) | (apply St.seq) | (apply St.region) | (apply Gt.next) | (apply Wl.splitP; exact rfl; exact rfl; all_goals (intros; try (exfalso; omega))) | (apply Wl.splitB; exact rfl; exact rfl; all_goals intros) | (apply St.condP; exact rfl; all_goals (intros; try (exfalso; omega))) | (apply St.condB; exact rfl; all_goals intros))
  rename Nat => p
  have hp0 : w.heap.size ≤ p := by assumption
  apply Wl.callQ
  exact rfl
  (repeat (first | exact Evs.nil | apply Evs.cons rfl))
  · intro wq hq
    refine (fit15 wq).mono ?_
    rintro e wr ⟨rfl, hr⟩
    exact ⟨rfl, hq.keep hr⟩
  repeat' (first | (apply Wl.move; exact rfl; exact rfl) | (apply Wl.not; exact rfl; exact rfl) | (apply Wl.nil) | (apply St.seq) | (apply St.region) | (apply St.condF; exact rfl; (first | with_reducible rfl | with_reducible assumption | decide)) | (apply St.skip) | (apply Gt.next) | (apply Wl.splitP; exact rfl; exact rfl; all_goals (intros; try (exfalso; omega))) | (apply Wl.splitB; exact rfl; exact rfl; all_goals intros) | (apply St.condP; exact rfl; all_goals (intros; try (exfalso; omega))) | (apply St.condB; exact rfl; all_goals intros))
  apply Wl.callC
  · exact rfl
  · (repeat (first | exact Evs.nil | apply Evs.cons rfl))
  intro wz hz
  refine (light_any n cap a wz (hS.upd (Hp.turned hz) fun k hk e => by omega)).mono ?_
  rintro e wr ⟨⟨bl, rfl, hbl⟩, hr⟩
  refine ⟨_, _, rfl, hz.keep hr, ?_⟩
  clear hr hz wz wr
  cases bl
  · repeat' (first | (apply Wl.assign; exact rfl; exact rfl) | (apply Wl.not; exact rfl; exact rfl) | (apply Wl.nil) | (apply St.seq) | (apply St.region) | (apply St.condT; exact rfl; (first | with_reducible rfl | with_reducible assumption | decide)) | (apply St.ret) | (apply Gt.next) | (apply Gt.thenRet) | (apply Gt.out1; exact rfl; exact rfl; intro w' hp) | (apply Wl.splitP; exact rfl; exact rfl; all_goals (intros; try (exfalso; omega))) | (apply Wl.splitB; exact rfl; exact rfl; all_goals intros) | (apply St.condP; exact rfl; all_goals (intros; try (exfalso; omega))) | (apply St.condB; exact rfl; all_goals intros))
    exact ⟨rfl, hp.drop (by simp; omega)⟩
  have hn := hbl rfl
  clear hbl
  repeat' (first | (apply Wl.not; exact rfl; exact rfl) | (apply Wl.nil) | (apply St.seq) | (apply St.region) | (apply St.condF; exact rfl; (first | with_reducible rfl | with_reducible assumption | decide)) | (apply St.skip) | (apply Gt.next) | (apply Wl.splitP; exact rfl; exact rfl; all_goals (intros; try (exfalso; omega))) | (apply Wl.splitB; exact rfl; exact rfl; all_goals intros) | (apply St.condP; exact rfl; all_goals (intros; try (exfalso; omega))) | (apply St.condB; exact rfl; all_goals intros))
  apply Wl.callC
  · exact rfl
  · (repeat (first | exact Evs.nil | apply Evs.cons rfl))
  intro wq hq
  have hpb := hq.own.1
  have hpq : p < wq.heap.size := hq.own.lt (.head _)
  have hSq : CallS wq a n := hS.upd (Hp.turned hq) fun k hk e => by omega
  have huq := Hp.turned hq
  have hqs := hq.upd.size
  have pOwn : ∀ w', Upd (fun k => wq.heap.size ≤ k) wq w' → Hp w' [⟨p, [.int .u32 c0, .int .u32 c1], 24⟩] w' := fun w' u => ⟨Upd.refl _ _, ⟨u.heap hpb (by simp only; omega), trivial⟩, ⟨trivial, trivial⟩⟩
  refine (fnew wq).mono ?_
  rintro e w1 ⟨cf, rfl, hF, hcf, hu1⟩
  refine ⟨_, _, rfl, pOwn w1 hu1, ?_⟩
  have hl1 := hF.lt
  have hqs1 := hu1.size
  clear hq
  repeat' (first | (apply Wl.splitP; exact rfl; exact rfl; all_goals (intros; try (exfalso; omega))) | (apply Wl.splitB; exact rfl; exact rfl; all_goals intros) | (apply St.condP; exact rfl; all_goals (intros; try (exfalso; omega))) | (apply St.condB; exact rfl; all_goals intros))
  apply Wl.callC
  · exact rfl
  · (repeat (first | exact Evs.nil | apply Evs.cons rfl))
  intro wq2 hq2
  have hqs2 := hq2.upd.size
  refine (mnew wq2).mono ?_
  rintro e w2 ⟨cm, b, rfl, hM, hcm, hb, hu2⟩
  have hU2 : Upd (fun k => wq.heap.size ≤ k) wq w2 := by
    have e1 : Upd (fun k => wq.heap.size ≤ k ∨ k = p) wq wq2 := hu1.comp (Hp.turned hq2) fun k _ hs => hs
    have e2 : wq2.heap[p]? = wq.heap[p]? := by rw [hq2.own.1]; exact hpb.symm
    have e3 : Upd (fun k => wq.heap.size ≤ k) wq wq2 := ⟨e1.os, e1.tape, e1.output, e1.size, fun k hk hs => by
      by_cases e : k = p
      · subst e; exact e2
      · exact e1.block k hk fun y => y.elim hs e⟩
    exact e3.comp hu2 fun k _ hs => hs.elim id fun e => by omega
  have hB : Both wq w2 cf cm b 24 3 0 0 := ⟨(hF.upd (Hp.turned hq2) (by omega)).upd hu2 (by omega), hM, .inr rfl, by decide, hU2, by omega, by omega, by omega⟩
  refine ⟨_, _, rfl, pOwn w2 hU2, ?_⟩
  clear hq2
  repeat' (first | (apply Wl.move; exact rfl; exact rfl) | (apply Wl.assign; exact rfl; exact rfl) | (apply Wl.len; exact rfl; exact rfl) | (apply Wl.nil) | (apply St.seq) | (apply St.block) | (apply St.region) | (apply Gt.next) | (apply Wl.splitP; exact rfl; exact rfl; all_goals (intros; try (exfalso; omega))) | (apply Wl.splitB; exact rfl; exact rfl; all_goals intros) | (apply St.condP; exact rfl; all_goals (intros; try (exfalso; omega))) | (apply St.condB; exact rfl; all_goals intros))
  refine St.loop (σ := Nat × World) (fun τ => τ.1 ≤ n ∧ ∃ md tv, Both wq τ.2 cf cm b (24 + 40 * τ.1) md tv tv)
    (fun τ => [(34, .int .i64 τ.1), (33, .int .i64 n), (32, .slice a n cap), (7, .pointer (some ⟨cf, 0, none⟩)), (8, .pointer (some ⟨cm, 0, none⟩)), (5, .pointer (some ⟨p, 0, none⟩)), (1, .int .u32 pc)])
    (fun τ => Hp τ.2 [⟨p, [.int .u32 c0, .int .u32 c1], 24⟩]) (fun τ => n - τ.1) (0, w2) ⟨by simp, 3, 0, hB⟩ (by (repeat (first | exact Sub.nil | apply Sub.cons rfl))) (fun _ h => h) ?_
  rintro ⟨i, w3⟩ ⟨hi, md, tv, hB3⟩
  simp only at hi hB3 ⊢
  have lc3 := hB3.f.lt
  have lm3 := hB3.m.ltc
  have lb3 := hB3.m.ltb
  have hcc : p < cf ∧ p < cm ∧ p < b := by omega
  by_cases hlt : i < n
  · obtain ⟨bb, o, rfl, k, r, x, y, la, ln, lc, h0, h1, h2, h3, h4, hr, hx, hy, hln, hE⟩ := hSq i hlt
    have hbb := cell_old h0
    simp only at hbb
    have hbw : bb < w.heap.size := by
      obtain ⟨_, _, e, _, _, _, _, _, _, _, g0, _⟩ := hS i hlt
      cases e
      exact cell_old g0
    repeat' (first | (apply Wl.loadAF (xs := [Value.int .i64 k, .int .u32 r, .int .u32 x, .int .u32 y, .slice la ln lc]); exact rfl; exact rfl; exact rfl; (intro wz hz; exact call_cells h0 h1 h2 h3 h4 (hB3.u.comp (T := fun k => wq.heap.size ≤ k ∨ k = p) (Hp.turned hz) fun k _ hs => hs) (by omega))) | (apply Wl.move; exact rfl; exact rfl) | (apply Wl.on; exact rfl; exact rfl; (first | with_reducible rfl | with_reducible assumption | decide)) | (apply Wl.off; exact rfl; exact rfl; exact rfl; (first | with_reducible rfl | (show _ = false; with_reducible assumption) | (show _ = true; with_reducible assumption) | decide)) | (apply Wl.pickF; exact rfl; exact rfl; (first | with_reducible rfl | with_reducible assumption | decide); exact rfl) | (apply Wl.fieldAddr0; exact rfl; exact rfl) | (apply Wl.loadH; exact rfl; exact rfl; (repeat (first | exact List.Mem.head _ | apply List.Mem.tail)); exact rfl) | (apply Wl.neq; exact rfl; exact rfl; exact rfl) | (apply Wl.lss; exact rfl; exact rfl; exact rfl) | (apply Wl.addI; exact rfl; exact rfl; exact rfl; (constructor <;> omega)) | (apply Wl.storeA; exact rfl; exact rfl; exact rfl; exact rfl; (repeat (first | apply HSet.here | apply HSet.there)); (repeat (first | apply LPut.s | apply LPut.z | apply LOver.nil | apply LOver.cons))) | (apply Wl.loadAH; exact rfl; exact rfl; (repeat (first | exact List.Mem.head _ | apply List.Mem.tail)); (repeat (first | apply LSub.z | apply LSub.t | apply LSub.s))) | (apply Wl.alloc; exact rfl; intro c hc ho) | (apply Wl.indexAddr; exact rfl; exact rfl; exact rfl; (constructor <;> omega)) | (apply Wl.nil) | (apply St.seq) | (apply St.block) | (apply St.region) | (apply St.condF; exact rfl; (first | with_reducible rfl | with_reducible assumption | decide)) | (apply St.skip) | (apply Gt.next) | (apply Gt.inNormal) | (apply Wl.splitP; exact rfl; exact rfl; all_goals (intros; try (exfalso; omega))) | (apply Wl.splitB; exact rfl; exact rfl; all_goals intros) | (apply St.condP; exact rfl; all_goals (intros; try (exfalso; omega))) | (apply St.condB; exact rfl; all_goals intros))
    · rename_i hk3 _
      apply Wl.callC
      · exact rfl
      · (repeat (first | exact Evs.nil | apply Evs.cons rfl))
      intro wz hz
      have hBz := hB3.keep (Hp.turned2 hz (pOwn w3 hB3.u).own.1) (by simp only; omega) (by simp only; omega) (by simp only; omega) (fun k e => by simp only at e; omega)
      refine (play_any cf cm b (24 + 40 * i) ln lc la k r x y md tv wq wz hBz (by omega) hk3 hr hx hy hE).mono ?_
      rintro e w4 ⟨rfl, md', tv', hB4⟩
      refine ⟨_, _, rfl, pOwn w4 hB4.u, ?_⟩
      clear hz hBz
      repeat' (first | (apply Wl.move; exact rfl; exact rfl) | (apply Wl.on; exact rfl; exact rfl; (first | with_reducible rfl | with_reducible assumption | decide)) | (apply Wl.pickT; exact rfl; exact rfl; (first | with_reducible rfl | with_reducible assumption | decide); exact rfl) | (apply Wl.not; exact rfl; exact rfl) | (apply Wl.addI; exact rfl; exact rfl; exact rfl; (constructor <;> omega)) | (apply Wl.nil) | (apply St.region) | (apply St.condF; exact rfl; (first | with_reducible rfl | with_reducible assumption | decide)) | (apply St.skip) | (apply Gt.next) | (apply Gt.inNormal) | (apply Wl.splitP; exact rfl; exact rfl; all_goals (intros; try (exfalso; omega))) | (apply Wl.splitB; exact rfl; exact rfl; all_goals intros) | (apply St.condP; exact rfl; all_goals (intros; try (exfalso; omega))) | (apply St.condB; exact rfl; all_goals intros))
      apply Gt.round (i + 1, w4)
      rotate_left
      · simp only; omega
      · (repeat (first | exact Sub.nil | apply Sub.cons rfl))
      · exact fun _ h => h
      · exact ⟨by simp only; omega, md', tv', hB4.le (by omega)⟩
    · apply Gt.round (i + 1, w3)
      rotate_left
      · simp only; omega
      · (repeat (first | exact Sub.nil | apply Sub.cons rfl))
      · exact fun _ h => Hp.pop h (by simp only; omega)
      · exact ⟨by simp only; omega, md, tv, hB3.le (by omega)⟩
  · obtain ⟨⟨st, mie, mip, sc, ep, ca, tl, cs, hk, hc1⟩, hM3, hmd, htv, hu3, _, _, _⟩ := hB3
    refine St.cls (C' := Hp w3 [⟨cf, .int .i64 md :: .int .u32 st :: .int .u32 mie :: .int .u32 mip :: .int .u32 tv :: .int .u32 sc :: .int .u32 ep :: .int .u32 ca :: .int .u32 tl :: cs, 39⟩, ⟨p, [.int .u32 c0, .int .u32 c1], 24⟩]) (fun _ h' => Hp.open h' hc1 ⟨by simp only; omega, trivial⟩) ?_
    repeat' (first | (apply Wl.move; exact rfl; exact rfl) | (apply Wl.assign; exact rfl; exact rfl) | (apply Wl.nilCheck; exact rfl; exact rfl) | (apply Wl.fieldAddr0; exact rfl; exact rfl) | (apply Wl.loadH; exact rfl; exact rfl; (repeat (first | exact List.Mem.head _ | apply List.Mem.tail)); exact rfl) | (apply Wl.lss; exact rfl; exact rfl; exact rfl) | (apply Wl.nil) | (apply St.seq) | (apply St.region) | (apply St.exit) | (apply Gt.next) | (apply Gt.thenExit) | (apply Gt.inExit) | (apply Wl.splitP; exact rfl; exact rfl; all_goals (intros; try (exfalso; omega))) | (apply Wl.splitB; exact rfl; exact rfl; all_goals intros) | (apply St.condP; exact rfl; all_goals (intros; try (exfalso; omega))) | (apply St.condB; exact rfl; all_goals intros))
    apply Wl.callQ
    · exact rfl
    · (repeat (first | exact Evs.nil | apply Evs.cons rfl))
    · intro wz hz
      refine (fread768 cf md st mie mip tv sc ep ca tl cs wz (hz.own.at (.head _))).mono ?_
      rintro e wr ⟨rfl, hr⟩
      exact ⟨rfl, hz.keep hr⟩
    repeat' (first | (apply Wl.move; exact rfl; exact rfl) | (apply Wl.assign; exact rfl; exact rfl) | (apply Wl.extract; exact rfl; exact rfl; exact rfl) | (apply Wl.nil) | (apply St.seq) | (apply St.region) | (apply Gt.next) | (apply Wl.splitP; exact rfl; exact rfl; all_goals (intros; try (exfalso; omega))) | (apply Wl.splitB; exact rfl; exact rfl; all_goals intros) | (apply St.condP; exact rfl; all_goals (intros; try (exfalso; omega))) | (apply St.condB; exact rfl; all_goals intros))
    apply Wl.callQ
    · exact rfl
    · (repeat (first | exact Evs.nil | apply Evs.cons rfl))
    · intro wz hz
      refine (fdue cf md st mie mip tv sc ep ca tl cs wz (hz.own.at (.head _))).mono ?_
      rintro e wr ⟨rfl, hr⟩
      exact ⟨rfl, hz.keep hr⟩
    repeat' (first | (apply Wl.move; exact rfl; exact rfl) | (apply Wl.assign; exact rfl; exact rfl) | (apply Wl.nil) | (apply St.seq) | (apply St.region) | (apply Gt.next) | (apply Wl.splitP; exact rfl; exact rfl; all_goals (intros; try (exfalso; omega))) | (apply Wl.splitB; exact rfl; exact rfl; all_goals intros) | (apply St.condP; exact rfl; all_goals (intros; try (exfalso; omega))) | (apply St.condB; exact rfl; all_goals intros))
    apply Wl.callQ
    · exact rfl
    · (repeat (first | exact Evs.nil | apply Evs.cons rfl))
    · intro wz hz
      refine (fread773 cf md st mie mip tv sc ep ca tl cs wz (hz.own.at (.head _))).mono ?_
      rintro e wr ⟨rfl, hr⟩
      exact ⟨rfl, hz.keep hr⟩
    repeat' (first | (apply Wl.move; exact rfl; exact rfl) | (apply Wl.assign; exact rfl; exact rfl) | (apply Wl.extract; exact rfl; exact rfl; exact rfl) | (apply Wl.loadH; exact rfl; exact rfl; (repeat (first | exact List.Mem.head _ | apply List.Mem.tail)); exact rfl) | (apply Wl.indexArr; exact rfl; exact rfl; exact rfl; (constructor <;> omega)) | (apply Wl.nil) | (apply St.seq) | (apply St.region) | (apply Gt.next) | (apply Wl.splitP; exact rfl; exact rfl; all_goals (intros; try (exfalso; omega))) | (apply Wl.splitB; exact rfl; exact rfl; all_goals intros) | (apply St.condP; exact rfl; all_goals (intros; try (exfalso; omega))) | (apply St.condB; exact rfl; all_goals intros))
    apply Wl.callC
    · exact rfl
    · (repeat (first | exact Evs.nil | apply Evs.cons rfl))
    intro wz hz
    refine (ftrapX cf md st mie mip tv sc ep ca tl cs wz pc c0 c1 hpc hmd (hz.own.at (.head _))).mono ?_
    rintro e wr ⟨rfl, s1, hp1, hs1, b3, b7, b11, b12⟩
    refine ⟨_, _, rfl, hz.callSet (by (repeat (first | apply HSet.here | apply HSet.there))) hp1, ?_⟩
    clear hp1 hz wz wr
    repeat' (first | (apply Wl.move; exact rfl; exact rfl) | (apply Wl.assign; exact rfl; exact rfl) | (apply Wl.nil) | (apply St.seq) | (apply St.region) | (apply Gt.next) | (apply Wl.splitP; exact rfl; exact rfl; all_goals (intros; try (exfalso; omega))) | (apply Wl.splitB; exact rfl; exact rfl; all_goals intros) | (apply St.condP; exact rfl; all_goals (intros; try (exfalso; omega))) | (apply St.condB; exact rfl; all_goals intros))
    apply Wl.callQ
    · exact rfl
    · (repeat (first | exact Evs.nil | apply Evs.cons rfl))
    · intro wz hz
      refine (fread834 cf 3 s1 mie mip tv sc (pc - pc % 4) c0 c1 cs wz (hz.own.at (.head _))).mono ?_
      rintro e wr ⟨rfl, hr⟩
      exact ⟨rfl, hz.keep hr⟩
    repeat' (first | (apply Wl.move; exact rfl; exact rfl) | (apply Wl.assign; exact rfl; exact rfl) | (apply Wl.extract; exact rfl; exact rfl; exact rfl) | (apply Wl.nil) | (apply St.seq) | (apply St.region) | (apply Gt.next) | (apply Wl.splitP; exact rfl; exact rfl; all_goals (intros; try (exfalso; omega))) | (apply Wl.splitB; exact rfl; exact rfl; all_goals intros) | (apply St.condP; exact rfl; all_goals (intros; try (exfalso; omega))) | (apply St.condB; exact rfl; all_goals intros))
    apply Wl.callQ
    · exact rfl
    · (repeat (first | exact Evs.nil | apply Evs.cons rfl))
    · intro wz hz
      refine (fread835 cf 3 s1 mie mip tv sc (pc - pc % 4) c0 c1 cs wz (hz.own.at (.head _))).mono ?_
      rintro e wr ⟨rfl, hr⟩
      exact ⟨rfl, hz.keep hr⟩
    have hdue1 : dueOf 3 s1 mie mip = false := by
      unfold dueOf
      rw [b3]; simp
    repeat' (first | (apply Wl.move; exact rfl; exact rfl) | (apply Wl.assign; exact rfl; exact rfl) | (apply Wl.on; exact rfl; exact rfl; (first | with_reducible rfl | with_reducible assumption | decide)) | (apply Wl.extract; exact rfl; exact rfl; exact rfl) | (apply Wl.nilCheck; exact rfl; exact rfl) | (apply Wl.pickF; exact rfl; exact rfl; (first | with_reducible rfl | with_reducible assumption | decide); exact rfl) | (apply Wl.fieldAddr0; exact rfl; exact rfl) | (apply Wl.loadH; exact rfl; exact rfl; (repeat (first | exact List.Mem.head _ | apply List.Mem.tail)); exact rfl) | (apply Wl.neqIs; exact rfl; exact rfl; exact rfl; (first | with_reducible assumption | with_reducible rfl)) | (apply Wl.indexArr; exact rfl; exact rfl; exact rfl; (constructor <;> omega)) | (apply Wl.nil) | (apply St.seq) | (apply St.region) | (apply Gt.next) | (apply Wl.splitP; exact rfl; exact rfl; all_goals (intros; try (exfalso; omega))) | (apply Wl.splitB; exact rfl; exact rfl; all_goals intros) | (apply St.condP; exact rfl; all_goals (intros; try (exfalso; omega))) | (apply St.condB; exact rfl; all_goals intros))
    apply Wl.callQ
    · exact rfl
    · (repeat (first | exact Evs.nil | apply Evs.cons rfl))
    · intro wz hz
      refine (fdue cf 3 s1 mie mip tv sc (pc - pc % 4) c0 c1 cs wz (hz.own.at (.head _))).mono ?_
      rintro e wr ⟨rfl, hr⟩
      rw [hdue1]
      exact ⟨rfl, hz.keep hr⟩
    repeat' (first | (apply Wl.move; exact rfl; exact rfl) | (apply Wl.pickF; exact rfl; exact rfl; (first | with_reducible rfl | with_reducible assumption | decide); exact rfl) | (apply Wl.nil) | (apply St.seq) | (apply St.region) | (apply St.condF; exact rfl; (first | with_reducible rfl | with_reducible assumption | decide)) | (apply St.skip) | (apply Gt.next) | (apply Wl.splitP; exact rfl; exact rfl; all_goals (intros; try (exfalso; omega))) | (apply Wl.splitB; exact rfl; exact rfl; all_goals intros) | (apply St.condP; exact rfl; all_goals (intros; try (exfalso; omega))) | (apply St.condB; exact rfl; all_goals intros))
    have emd : ((if tb s1 11 then 1 else 0) + (if tb s1 12 then 2 else 0) : Int) = md := by
      rw [b11, b12]
      rcases hmd with rfl | rfl <;> decide
    apply Wl.callC
    · exact rfl
    · (repeat (first | exact Evs.nil | apply Evs.cons rfl))
    intro wz hz
    refine (fbackX cf 3 s1 mie mip tv sc (pc - pc % 4) c0 c1 cs wz hs1 (hz.own.at (.head _))).mono ?_
    rintro e wr ⟨rfl, s2, hp1, a3, a11, a12⟩
    rw [emd] at hp1
    refine ⟨_, _, rfl, hz.callSet (by (repeat (first | apply HSet.here | apply HSet.there))) hp1, ?_⟩
    clear hp1 hz wz wr
    have e8 : bits .and .u32 s2 8 = bits .and .u32 st 8 := by rw [and8, and8, a3, b7]
    have e6 : bits .and .u32 s2 6144 = 0 := and6144 s2 a11 a12
    have hdue2 : dueOf md s2 mie mip = dueOf md st mie mip := by
      unfold dueOf
      rw [a3, b7]
    repeat' (first | (apply Wl.move; exact rfl; exact rfl) | (apply Wl.assign; exact rfl; exact rfl) | (apply Wl.nil) | (apply St.seq) | (apply St.region) | (apply Gt.next) | (apply Wl.splitP; exact rfl; exact rfl; all_goals (intros; try (exfalso; omega))) | (apply Wl.splitB; exact rfl; exact rfl; all_goals intros) | (apply St.condP; exact rfl; all_goals (intros; try (exfalso; omega))) | (apply St.condB; exact rfl; all_goals intros))
    apply Wl.callQ
    · exact rfl
    · (repeat (first | exact Evs.nil | apply Evs.cons rfl))
    · intro wz hz
      refine (fread768 cf md s2 mie mip tv sc (pc - pc % 4) c0 c1 cs wz (hz.own.at (.head _))).mono ?_
      rintro e wr ⟨rfl, hr⟩
      exact ⟨rfl, hz.keep hr⟩
    repeat' (first | (apply Wl.rem32E; exact rfl; exact rfl; exact rfl; (decide); (omega)) | (apply Wl.sub32; exact rfl; exact rfl; exact rfl; (constructor <;> omega)) | (apply Wl.move; exact rfl; exact rfl) | (apply Wl.assign; exact rfl; exact rfl) | (apply Wl.on; exact rfl; exact rfl; (first | with_reducible rfl | with_reducible assumption | decide)) | (apply Wl.extract; exact rfl; exact rfl; exact rfl) | (apply Wl.nilCheck; exact rfl; exact rfl) | (apply Wl.pickT; exact rfl; exact rfl; (first | with_reducible rfl | with_reducible assumption | decide); exact rfl) | (apply Wl.fieldAddr0; exact rfl; exact rfl) | (apply Wl.loadH; exact rfl; exact rfl; (repeat (first | exact List.Mem.head _ | apply List.Mem.tail)); exact rfl) | (apply Wl.eqlIs; exact rfl; exact rfl; exact rfl; (first | with_reducible assumption | with_reducible rfl)) | (apply Wl.and; exact rfl; exact rfl; exact rfl) | (apply Wl.nil) | (apply St.seq) | (apply St.region) | (apply Gt.next) | (apply Wl.splitP; exact rfl; exact rfl; all_goals (intros; try (exfalso; omega))) | (apply Wl.splitB; exact rfl; exact rfl; all_goals intros) | (apply St.condP; exact rfl; all_goals (intros; try (exfalso; omega))) | (apply St.condB; exact rfl; all_goals intros))
    apply Wl.callQ
    · exact rfl
    · (repeat (first | exact Evs.nil | apply Evs.cons rfl))
    · intro wz hz
      refine (fdue cf md s2 mie mip tv sc (pc - pc % 4) c0 c1 cs wz (hz.own.at (.head _))).mono ?_
      rintro e wr ⟨rfl, hr⟩
      rw [hdue2]
      exact ⟨rfl, hz.keep hr⟩
    repeat' (first | (apply Wl.move; exact rfl; exact rfl) | (apply Wl.assign; exact rfl; exact rfl) | (apply Wl.on; exact rfl; exact rfl; (first | with_reducible rfl | with_reducible assumption | decide)) | (apply Wl.pickT; exact rfl; exact rfl; (first | with_reducible rfl | with_reducible assumption | decide); exact rfl) | (apply Wl.eqlBs; exact rfl; exact rfl; exact rfl; (first | with_reducible assumption | with_reducible rfl)) | (apply Wl.nil) | (apply St.ret) | (apply Gt.next) | (apply Gt.out1; exact rfl; exact rfl; intro w' hp) | (apply Wl.splitP; exact rfl; exact rfl; all_goals (intros; try (exfalso; omega))) | (apply Wl.splitB; exact rfl; exact rfl; all_goals intros) | (apply St.condP; exact rfl; all_goals (intros; try (exfalso; omega))) | (apply St.condB; exact rfl; all_goals intros))
    refine ⟨rfl, ?_⟩
    have u1 : Upd (fun k => k = cf) w3 w' := Hp.turned2 hp (pOwn w3 hu3).own.1
    exact ⟨(huq.comp (hu3.comp (T := fun k => wq.heap.size ≤ k) u1 fun k _ hs => hs.elim id fun e => by omega) (T := fun k => ¬ Off [] k ∨ w.heap.size ≤ k) fun k _ hs => .inr (by rcases hs with e | e <;> omega)).mono fun k hk hs => by rcases hs with e | e; exact e; omega, trivial, trivial⟩
end Go.Proofs.YtahgpfjkmcaeaaaDoor
