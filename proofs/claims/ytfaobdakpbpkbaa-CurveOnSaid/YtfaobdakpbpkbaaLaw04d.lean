/-
  porticolaw04.fit. Conditions: none.
-/
import Derived.Test.YtfaobdakpbpkbaaLaw04c
namespace Go.Proofs.Ytfaobdakpbpkbaa
open Go.RowKit Go.Pt
attribute [local irreducible] Prim.P256 Prim.N256
section
variable {md : Md} {N : Nat} {ops : Array Oper} {rest : List Oper} {Γ : Env} {C : World → Prop} {Q : Exit → Act → World → Prop} {d : Nat} {ty : TypeId} {pos : String} {af : Array Edge} {parts : Array (Nat × Operand)}
theorem Wl.buildP0 (hd : Nat.blt d N = true) (hp : Parts Γ parts.toList []) (h : Wl rest Try.prog md ops N ((d, .agg (poC 0 0 false).toArray) :: Γ) C Q) :
    Wl (⟨some d, .build 35 parts, ty, pos, af, none⟩ :: rest) Try.prog md ops N Γ C Q := by
  refine Wl.build hd hp (fun _ => run_build_struct ?_) h
  rw [← po_zero]
  exact .nil
end
theorem onB_of {x y : Ec.F} (h : OnP (some (x, y))) : onB x.val y.val = true := by
  unfold onB
  rw [decide_eq_true x.isLt, decide_eq_true y.isLt, nF_of, nF_of, Bool.true_and, Bool.true_and, decide_eq_true_iff]
  have h' : y * y = x * x * x + Ec.A3 * x + curB := h
  rw [h']
  unfold Ec.A3
  generalize curB = b
  grobner
theorem curOnP (k bm : Nat) (A : Ec.Pt) (w : World) (hV : CurV w k bm) (hA : OnP A) : Calls Try.prog 17 #[mp k, poV A] w fun e w' => e = .returned (.bool (!A.isNone)) ∧ Hp w [] w' := by
  match A with
  | none =>
    rw [poV, poD_none]
    exact curOnC k bm 0 0 true w hV (by decide) (by decide)
  | some (x, y) =>
    rw [poV, poD_some]
    have := curOnC k bm x.val y.val false w hV (val_W x) (val_W y)
    rw [onB_of hA] at this
    exact this
theorem onB00 : onB 0 0 = false := by decide +kernel
theorem OnNone : OnP none := trivial
/-- On of the base, of Point{}; the order times the base -/
theorem curOnG (k bm : Nat) (w : World) (hV : CurV w k bm) : Calls Try.prog 17 #[mp k, poV (some curG)] w fun e w' => e = .returned (.bool true) ∧ Hp w [] w' := curOnP k bm (some curG) w hV onG
theorem curOn0 (k bm : Nat) (w : World) (hV : CurV w k bm) : Calls Try.prog 17 #[mp k, .agg (poC 0 0 false).toArray] w fun e w' => e = .returned (.bool false) ∧ Hp w [] w' := by
  have := curOnC k bm 0 0 false w hV (by decide) (by decide)
  rw [onB00] at this
  exact this
theorem curMultN (k bm : Nat) (w : World) (hV : CurV w k bm) : Calls Try.prog 11 #[mp k, numV Prim.N256, poV (some curG)] w fun e w' => e = .returned (.agg (poC 0 0 true).toArray) ∧ Hp w [] w' := by
  have := curMult k bm (some curG) Prim.N256 w hV onG nW
  rw [ordG, poV, poV, poD_none] at this
  exact this
set_option maxHeartbeats 4000000 in
theorem fit04 (w : World) : Calls Try.prog 7 #[] w fun e w' => e = .returned (.bool true) ∧ Hp w [] w' := by
  refine enter (args := []) (Γ := []) Try.func7 Try.ntmps7 rfl (of_decide_eq_true rfl) .nil ?_
  repeat' (first | (apply Wl.assign; exact rfl; exact rfl) | (apply Wl.nil) | (apply St.seq) | (apply St.region) | (apply Gt.next) | (apply Wl.splitP; exact rfl; exact rfl; all_goals (intros; try (exfalso; omega))) | (apply Wl.splitB; exact rfl; exact rfl; all_goals intros) | (apply St.condP; exact rfl; all_goals (intros; try (exfalso; omega))) | (apply St.condB; exact rfl; all_goals intros))
  apply Wl.callC
  · exact rfl
  · (repeat (first | exact Evs.nil | apply Evs.cons rfl))
  intro wq hq; refine (curNew wq).mono ?_; rintro e wr ⟨k, bm, rfl, hk, hbm, hV, hr⟩; refine ⟨_, _, rfl, hpRb (hq.keep hr), ?_⟩
  have hu : Upd (fun k => w.heap.size ≤ k) w wr := hpOn (hq.keep hr) (Upd.refl _ _) (by simp)
  obtain ⟨hkl, hbl⟩ := hV.lt
  clear hq hr
  repeat' (first | (apply Wl.callQ (f := 12); exact rfl; (repeat (first | exact Evs.nil | apply Evs.cons rfl)); (intro wq hq; refine (curBase wq).mono ?_; rintro e wr ⟨rfl, hr⟩; exact ⟨rfl, hq.keep hr⟩)) | (apply Wl.move; exact rfl; exact rfl) | (apply Wl.assign; exact rfl; exact rfl) | (apply Wl.nil) | (apply St.seq) | (apply St.region) | (apply Gt.next) | (apply Wl.splitP; exact rfl; exact rfl; all_goals (intros; try (exfalso; omega))) | (apply Wl.splitB; exact rfl; exact rfl; all_goals intros) | (apply St.condP; exact rfl; all_goals (intros; try (exfalso; omega))) | (apply St.condB; exact rfl; all_goals intros))
  apply Wl.callQ
  exact rfl
  (repeat (first | exact Evs.nil | apply Evs.cons rfl))
  · intro wq hq
    refine (curOnG k bm wq (hV.hp hq trivial trivial)).mono ?_
    rintro e wr ⟨rfl, hr⟩
    exact ⟨rfl, hq.keep hr⟩
  repeat' (first | (apply Wl.callQ (f := 12); exact rfl; (repeat (first | exact Evs.nil | apply Evs.cons rfl)); (intro wq hq; refine (curBase wq).mono ?_; rintro e wr ⟨rfl, hr⟩; exact ⟨rfl, hq.keep hr⟩)) | (apply Wl.callQ (f := 27); exact rfl; (repeat (first | exact Evs.nil | apply Evs.cons rfl)); (intro wq hq; refine (curOrder wq).mono ?_; rintro e wr ⟨rfl, hr⟩; exact ⟨rfl, hq.keep hr⟩)) | (apply Wl.move; exact rfl; exact rfl) | (apply Wl.on; exact rfl; exact rfl; (first | with_reducible rfl | with_reducible assumption | decide)) | (apply Wl.splitP; exact rfl; exact rfl; all_goals (intros; try (exfalso; omega))) | (apply Wl.splitB; exact rfl; exact rfl; all_goals intros) | (apply St.condP; exact rfl; all_goals (intros; try (exfalso; omega))) | (apply St.condB; exact rfl; all_goals intros))
  apply Wl.callQ
  exact rfl
  (repeat (first | exact Evs.nil | apply Evs.cons rfl))
  · intro wq hq
    refine (curMultN k bm wq (hV.hp hq trivial trivial)).mono ?_
    rintro e wr ⟨rfl, hr⟩
    exact ⟨rfl, hq.keep hr⟩
  repeat' (first | (apply Wl.buildP0; exact rfl; (focus ((repeat (first | exact Parts.nil | apply Parts.cons rfl)); done))) | (apply Wl.fieldVv; exact rfl; exact rfl; (first | exact poC_n _ _ _ | exact poD_n _)) | (apply Wl.move; exact rfl; exact rfl) | (apply Wl.on; exact rfl; exact rfl; (first | with_reducible rfl | with_reducible assumption | decide)) | (apply Wl.pickT; exact rfl; exact rfl; (first | with_reducible rfl | with_reducible assumption | decide); exact rfl) | (apply Wl.splitP; exact rfl; exact rfl; all_goals (intros; try (exfalso; omega))) | (apply Wl.splitB; exact rfl; exact rfl; all_goals intros) | (apply St.condP; exact rfl; all_goals (intros; try (exfalso; omega))) | (apply St.condB; exact rfl; all_goals intros))
  apply Wl.callQ
  exact rfl
  (repeat (first | exact Evs.nil | apply Evs.cons rfl))
  · intro wq hq
    refine (curOn0 k bm wq (hV.hp hq trivial trivial)).mono ?_
    rintro e wr ⟨rfl, hr⟩
    exact ⟨rfl, hq.keep hr⟩
  repeat' (first | (apply Wl.assign; exact rfl; exact rfl) | (apply Wl.on; exact rfl; exact rfl; (first | with_reducible rfl | with_reducible assumption | decide)) | (apply Wl.pickT; exact rfl; exact rfl; (first | with_reducible rfl | with_reducible assumption | decide); exact rfl) | (apply Wl.not; exact rfl; exact rfl) | (apply Wl.nil) | (apply St.ret) | (apply Gt.next) | (apply Gt.out1; exact rfl; exact rfl; intro w' hp) | (apply Wl.splitP; exact rfl; exact rfl; all_goals (intros; try (exfalso; omega))) | (apply Wl.splitB; exact rfl; exact rfl; all_goals intros) | (apply St.condP; exact rfl; all_goals (intros; try (exfalso; omega))) | (apply St.condB; exact rfl; all_goals intros))
  exact ⟨rfl, hpFin hp hu (by simp)⟩
end Go.Proofs.Ytfaobdakpbpkbaa
