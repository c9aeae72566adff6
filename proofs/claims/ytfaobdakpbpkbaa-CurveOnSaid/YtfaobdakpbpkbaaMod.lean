/-
  mont.Mod: fit, Add, Sub. Conditions: the receiver's modulus lies in memory.
-/
import Derived.Test.YtfaobdakpbpkbaaLimb
namespace Go.Pt
open Go.RowKit
theorem hpNil (w : World) : Hp w [] w := ⟨Upd.refl _ _, trivial, trivial⟩
theorem hpPop {w0 w : World} {x : Blk} {H : List Blk} (h : Hp w0 (x :: H) w) (hx : w0.heap.size ≤ x.b) : Hp w0 H w :=
  ⟨h.upd.mono fun k hk hs ho => hs ⟨fun e => by omega, ho⟩, h.own.2, h.apart.2⟩
/-- n integers lie in memory from the o-th cell of a block on -/
def ArrAt (w : World) (b o : Nat) (k : IntKind) (n : Nat) (f : Nat → Nat) : Prop := ∀ j, j < n → w.cell? ⟨b, o + j, none⟩ = some (.int k (f j))
theorem ArrAt.get {w : World} {b o n : Nat} {k : IntKind} {f : Nat → Nat} (h : ArrAt w b o k n f) (j : Nat) (v : Value) (hj : (cellsN k n f)[j]? = some v) : w.cell? ⟨b, o + j, none⟩ = some v := by
  have hl := (List.getElem?_eq_some_iff.1 hj).1
  rw [cellsN_len] at hl
  rw [cellsN_get hl] at hj
  rw [← hj]
  exact h j hl
theorem ArrAt.lt {w : World} {b o n : Nat} {k : IntKind} {f : Nat → Nat} (h : ArrAt w b o k n f) (hn : 0 < n) : b < w.heap.size := World.block_lt_of_cell? w _ (h 0 hn)
theorem ArrAt.upd {S : Nat → Prop} {w w' : World} {b o n : Nat} {k : IntKind} {f : Nat → Nat} (h : ArrAt w b o k n f) (u : Upd S w w') (hs : ¬ S b) : ArrAt w' b o k n f := fun j hj => u.cell (h j hj) hs
theorem ArrAt.hp {w w' : World} {H : List Blk} {b o n : Nat} {k : IntKind} {f : Nat → Nat} (h : ArrAt w b o k n f) (u : Hp w H w') (hs : Off H b) : ArrAt w' b o k n f := h.upd u.upd fun y => y hs
section
variable {P : Program} {md : Md} {N : Nat} {ops : Array Oper} {rest : List Oper} {Γ : Env} {Q : Exit → Act → World → Prop} {d : Nat} {ty : TypeId} {pos : String} {af : Array Edge} {t : TypeId} {x y : Operand}
theorem Wl.loadM {w0 : World} {H : List Blk} {n m : Nat} [TyA P t n] {b o : Nat} {k : IntKind} {f : Nat → Nat} (hd : Nat.blt d N = true) (hx : ev Γ x = some (.pointer (some ⟨b, o, none⟩))) (hm : ArrAt w0 b o k m f) (ho : Off H b) (hn : Nat.beq m n = true)
    (h : Wl rest P md ops N ((d, .agg (cellsN k m f).toArray) :: Γ) (Hp w0 H) Q) : Wl (⟨some d, .load t x, ty, pos, af, none⟩ :: rest) P md ops N Γ (Hp w0 H) Q :=
  Wl.loadAF hd hx ((cellsN_len k m f).trans (Nat.eq_of_beq_eq_true hn)) (fun w hw i v hv => by rw [addLit]; exact hw.old (hm.get i v hv) ho) h
theorem Wl.loadME {w0 : World} {H : List Blk} {n : Nat} [TyC P t] {b j : Nat} {k : IntKind} {f : Nat → Nat} (hd : Nat.blt d N = true) (hx : ev Γ x = some (.pointer (some ⟨b, j, none⟩))) (hm : ArrAt w0 b 0 k n f) (ho : Off H b) (hj : j < n)
    (h : Wl rest P md ops N ((d, .int k (f j)) :: Γ) (Hp w0 H) Q) : Wl (⟨some d, .load t x, ty, pos, af, none⟩ :: rest) P md ops N Γ (Hp w0 H) Q :=
  Wl.loadO hd hx (by have := hm j hj; rw [Nat.zero_add] at this; exact this) ho h
end
theorem Gt.outN {P : Program} {N : Nat} {Γ : Env} {w0 : World} {H : List Blk} {fn : Func} {R : Ending → World → Prop} {t ty n c m bt : Nat} {k : IntKind} {f : Nat → Nat} (hr : fn.results = #[.cell t ty]) (hT : TyA P ty n) (ht : look Γ t = some (.pointer (some ⟨c, 0, none⟩))) (hm : (⟨c, cellsN k m f, bt⟩ : Blk) ∈ H) (hn : Nat.beq m n = true)
    (h : ∀ w, Hp w0 H w → R (.returned (.agg (cellsN k m f).toArray)) w) : Gt N .ret Γ (Hp w0 H) (bodyPost P fn R) := Gt.outC' hr hT ht hm (LSub.whole ((cellsN_len k m f).trans (Nat.eq_of_beq_eq_true hn))) h
end Go.Pt
namespace Go.Proofs.Ytfaobdakpbpkbaa
open Go.RowKit Go.Pt

abbrev mp (b : Nat) : Value := .pointer (some ⟨b, 0, none⟩)
set_option maxHeartbeats 1000000 in
theorem modFit (b m n over : Nat) (w : World) (hM : ArrAt w b 0 .u32 8 (dg W32 m)) (hm : m < W256) (hn : n < W256) (hov : over ≤ 1) (h2 : n + W256 * over < 2 * m) :
    Calls Try.prog 54 #[mp b, numV n, .int .u32 over] w fun e w' => e = .returned (numV ((n + W256 * over) % m)) ∧ Hp w [] w' := by
  have hb := hM.lt (by decide)
  have ho := once h2
  have k1 : 0 < over → (n + W256 * over) % m = (n + W256 - m) % W256 := fun h => by
    have e : over = 1 := by omega
    subst e
    rw [Nat.mul_one] at h2 ho
    rw [Nat.mul_one, ho, if_pos (by omega), Nat.mod_eq_of_lt (show n + W256 - m < W256 by omega)]
  have k2 : over = 0 → ¬ n < m → (n + W256 * over) % m = (n + W256 - m) % W256 := fun h h' => by
    subst h
    rw [Nat.mul_zero, Nat.add_zero] at h2 ho
    rw [Nat.mul_zero, Nat.add_zero, ho, if_pos (by omega), show n + W256 - m = (n - m) + W256 by omega, Nat.add_mod_right, Nat.mod_eq_of_lt (by omega)]
  have k3 : over = 0 → n < m → (n + W256 * over) % m = n := fun h h' => by
    subst h
    rw [Nat.mul_zero, Nat.add_zero, Nat.mod_eq_of_lt h']
  refine enter (args := [_, _, _]) (Γ := [(0, _), (1, _), (2, _)]) Try.func54 Try.ntmps54 rfl (of_decide_eq_true rfl) (.cons rfl (.cons rfl (.cons rfl .nil))) ?_
  repeat' (first | (apply Wl.boxN; exact rfl; exact rfl; intro c hc ho) | (apply Wl.allocN; exact rfl; (first | exact z8 | exact z16 | exact z17 | exact z33 | exact z10); intro c hc ho) | (apply Wl.nil) | (apply St.seq) | (apply St.region) | (apply Gt.next) | (apply Wl.splitP; exact rfl; exact rfl; all_goals (intros; try (exfalso; omega))) | (apply Wl.splitB; exact rfl; exact rfl; all_goals intros) | (apply St.condP; exact rfl; all_goals (intros; try (exfalso; omega))) | (apply St.condB; exact rfl; all_goals intros))
  rename_i ca hca hoa
  generalize c = cr at *
  refine St.tree (Hp w [_, _]) mixed (fun _ h => ⟨Hp.drew h, Hp.drew h⟩) ?_
  repeat' (first | (apply Wl.loadM; exact rfl; exact rfl; exact hM; (apply Off.of; simp; omega); exact rfl) | (refine Mt.pure 0 (by decide +kernel) (by exact rfl) (by exact rfl) (by decide +kernel) (by decide +kernel) ?_) | (refine Mt.pure 1 (by decide +kernel) (by exact rfl) (by exact rfl) (by decide +kernel) (by decide +kernel) ?_) | (refine Mt.pure 2 (by decide +kernel) (by exact rfl) (by exact rfl) (by decide +kernel) (by decide +kernel) ?_) | (refine Mt.pure 3 (by decide +kernel) (by exact rfl) (by exact rfl) (by decide +kernel) (by decide +kernel) ?_) | (refine Mt.pure 4 (by decide +kernel) (by exact rfl) (by exact rfl) (by decide +kernel) (by decide +kernel) ?_) | (refine Mt.eff1 (i := 5) (by decide +kernel) (by exact rfl) ?_) | (refine Mt.eff2 (i := 5) (j := 9) (by decide +kernel) (by exact rfl) (by exact rfl) ?_ ?_) | (apply Mt.back) | (refine Mt.backE (fun _ h => by first | exact h | exact hpPop h (by simp only; omega)) ?_) | (apply Wl.loadW; exact rfl; exact rfl; (repeat (first | exact List.Mem.head _ | apply List.Mem.tail)); exact rfl) | (apply Wl.allocN; exact rfl; (first | exact z8 | exact z16 | exact z17 | exact z33 | exact z10); intro c hc ho) | (apply Wl.move; exact rfl; exact rfl) | (apply Wl.nilCheck; exact rfl; exact rfl) | (apply Wl.fieldAddr0; exact rfl; exact rfl) | (apply Wl.nil) | (apply Wl.nilM) | (apply Wl.splitP; exact rfl; exact rfl; all_goals (intros; try (exfalso; omega))) | (apply Wl.splitB; exact rfl; exact rfl; all_goals intros) | (apply St.condP; exact rfl; all_goals (intros; try (exfalso; omega))) | (apply St.condB; exact rfl; all_goals intros))
  all_goals
    apply Wl.callQ
    exact rfl
    (repeat (first | exact Evs.nil | apply Evs.cons rfl))
    · intro wq hq
      refine (limbSub n m hn hm wq).mono ?_
      rintro e wr ⟨rfl, hr⟩
      exact ⟨rfl, hq.keep hr⟩
    repeat' (first | (apply Gt.outN; exact rfl; infer_instance; exact rfl; (repeat (first | exact List.Mem.head _ | apply List.Mem.tail)); exact rfl; intro w' hp) | (refine Mt.toGt (by decide +kernel) ?_) | (refine Mt.pure 6 (by decide +kernel) (by exact rfl) (by exact rfl) (by decide +kernel) (by decide +kernel) ?_) | (refine Mt.pure 7 (by decide +kernel) (by exact rfl) (by exact rfl) (by decide +kernel) (by decide +kernel) ?_) | (refine Mt.pure 8 (by decide +kernel) (by exact rfl) (by exact rfl) (by decide +kernel) (by decide +kernel) ?_) | (refine Mt.pure 11 (by decide +kernel) (by exact rfl) (by exact rfl) (by decide +kernel) (by decide +kernel) ?_) | (refine Mt.eff1 (i := 9) (by decide +kernel) (by exact rfl) ?_) | (refine Mt.eff1 (i := 10) (by decide +kernel) (by exact rfl) ?_) | (apply Mt.back) | (refine Mt.backE (fun _ h => by first | exact h | exact hpPop h (by simp only; omega)) ?_) | (apply Wl.loadW; exact rfl; exact rfl; (repeat (first | exact List.Mem.head _ | apply List.Mem.tail)); exact rfl) | (apply Wl.storeW; exact rfl; exact rfl; (repeat (first | apply HSet.here | apply HSet.there)); exact rfl; (first | exact cellsN_len _ _ _ | exact rfl)) | (apply Wl.allocN; exact rfl; (first | exact z8 | exact z16 | exact z17 | exact z33 | exact z10); intro c hc ho) | (apply Wl.move; exact rfl; exact rfl) | (apply Wl.assign; exact rfl; exact rfl) | (apply Wl.on; exact rfl; exact rfl; (first | with_reducible rfl | with_reducible assumption | decide)) | (apply Wl.off; exact rfl; exact rfl; exact rfl; (first | with_reducible rfl | (show _ = false; with_reducible assumption) | (show _ = true; with_reducible assumption) | decide)) | (apply Wl.extract; exact rfl; exact rfl; exact rfl) | (apply Wl.pickT; exact rfl; exact rfl; (first | with_reducible rfl | with_reducible assumption | decide); exact rfl) | (apply Wl.pickF; exact rfl; exact rfl; (first | with_reducible rfl | with_reducible assumption | decide); exact rfl) | (apply Wl.eql; exact rfl; exact rfl; exact rfl) | (apply Wl.gtr; exact rfl; exact rfl; exact rfl) | (apply Wl.nil) | (apply Wl.nilM) | (apply St.seq) | (apply St.region) | (apply St.condT; exact rfl; (first | with_reducible rfl | with_reducible assumption | decide)) | (apply St.ret) | (apply St.skip) | (apply Gt.next) | (apply Gt.thenRet) | (apply Wl.splitP; exact rfl; exact rfl; all_goals (intros; try (exfalso; omega))) | (apply Wl.splitB; exact rfl; exact rfl; all_goals intros) | (apply St.condP; exact rfl; all_goals (intros; try (exfalso; omega))) | (apply St.condB; exact rfl; all_goals intros))
  all_goals
    refine ⟨?_, hp.drop (by simp; omega)⟩
    first
      | rw [k1 (by omega)]
      | rw [k2 (by omega) (by have := ‹((if n < m then 1 else 0 : Nat) : Int) = 0›; split at this <;> omega)]
      | rw [k3 (by omega) (by have := ‹¬((if n < m then 1 else 0 : Nat) : Int) = 0›; split at this <;> omega)]
set_option maxHeartbeats 1000000 in
theorem modAdd (b m x y : Nat) (w : World) (hM : ArrAt w b 0 .u32 8 (dg W32 m)) (hm : m < W256) (hx : x < m) (hy : y < m) :
    Calls Try.prog 35 #[mp b, numV x, numV y] w fun e w' => e = .returned (numV ((x + y) % m)) ∧ Hp w [] w' := by
  have hb := hM.lt (by decide)
  refine enter (args := [_, _, _]) (Γ := [(0, _), (1, _), (2, _)]) Try.func35 Try.ntmps35 rfl (of_decide_eq_true rfl) (.cons rfl (.cons rfl (.cons rfl .nil))) ?_
  repeat' (first | (apply Wl.loadW; exact rfl; exact rfl; (repeat (first | exact List.Mem.head _ | apply List.Mem.tail)); exact rfl) | (apply Wl.boxN; exact rfl; exact rfl; intro c hc ho) | (apply Wl.allocN; exact rfl; (first | exact z8 | exact z16 | exact z17 | exact z33 | exact z10); intro c hc ho) | (apply Wl.move; exact rfl; exact rfl) | (apply Wl.eqlPN; exact rfl; exact rfl; exact rfl) | (apply Wl.nil) | (apply St.seq) | (apply St.region) | (apply St.condF; exact rfl; (first | with_reducible rfl | with_reducible assumption | decide)) | (apply St.skip) | (apply Gt.next) | (apply Wl.splitP; exact rfl; exact rfl; all_goals (intros; try (exfalso; omega))) | (apply Wl.splitB; exact rfl; exact rfl; all_goals intros) | (apply St.condP; exact rfl; all_goals (intros; try (exfalso; omega))) | (apply St.condB; exact rfl; all_goals intros))
  apply Wl.callQ
  exact rfl
  (repeat (first | exact Evs.nil | apply Evs.cons rfl))
  · intro wq hq
    refine (limbAdd x y (by omega) (by omega) wq).mono ?_
    rintro e wr ⟨rfl, hr⟩
    exact ⟨rfl, hq.keep hr⟩
  repeat' (first | (apply Wl.extract; exact rfl; exact rfl; exact rfl) | (apply Wl.splitP; exact rfl; exact rfl; all_goals (intros; try (exfalso; omega))) | (apply Wl.splitB; exact rfl; exact rfl; all_goals intros) | (apply St.condP; exact rfl; all_goals (intros; try (exfalso; omega))) | (apply St.condB; exact rfl; all_goals intros))
  apply Wl.callQ
  exact rfl
  (repeat (first | exact Evs.nil | apply Evs.cons rfl))
  · intro wq hq
    refine (modFit b m ((x + y) % W256) ((x + y) / W256) wq (hM.hp hq (by apply Off.of; simp; omega)) hm (Nat.mod_lt _ (by decide)) (by unfold W256 at *; omega) (by rw [Nat.mod_add_div]; omega)).mono ?_
    rintro e wr ⟨rfl, hr⟩
    exact ⟨rfl, hq.keep hr⟩
  rw [Nat.mod_add_div]
  repeat' (first | (apply Gt.outN; exact rfl; infer_instance; exact rfl; (repeat (first | exact List.Mem.head _ | apply List.Mem.tail)); exact rfl; intro w' hp) | (apply Wl.storeW; exact rfl; exact rfl; (repeat (first | apply HSet.here | apply HSet.there)); exact rfl; (first | exact cellsN_len _ _ _ | exact rfl)) | (apply Wl.nil) | (apply St.ret) | (apply Gt.next) | (apply Wl.splitP; exact rfl; exact rfl; all_goals (intros; try (exfalso; omega))) | (apply Wl.splitB; exact rfl; exact rfl; all_goals intros) | (apply St.condP; exact rfl; all_goals (intros; try (exfalso; omega))) | (apply St.condB; exact rfl; all_goals intros))
  exact ⟨rfl, hp.drop (by simp; omega)⟩
end Go.Proofs.Ytfaobdakpbpkbaa
