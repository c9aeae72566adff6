/-
  CurveMults: its walk. Conditions: numbers are below 2^256.
-/
import Derived.Test.YtfaobdakpbpkbaaLaw04d
namespace Go.Proofs.Ytfaobdakpbpkbaa
open Go.RowKit Go.Pt
attribute [local irreducible] Prim.P256 Prim.N256
section
variable {k bm b n m : Nat} {A B R : Ec.Pt} {p q r : Ec.F × Ec.F × Ec.F} {w : World}
theorem gMult (hV : CurV w k bm) (hA : OnP A) (hn : n < W256) (e : R = sm3 n A) : Calls Try.prog 11 #[mp k, numV n, poV A] w fun e w' => e = .returned (poV R) ∧ Hp w [] w' := e ▸ curMult k bm A n w hV hA hn
theorem gTwo (hV : CurV w k bm) (hA : OnP A) (hB : OnP B) (hn : n < W256) (hm : m < W256) (e : R = add3 (sm3 n A) (sm3 m B)) : Calls Try.prog 18 #[mp k, numV n, poV A, numV m, poV B] w fun e w' => e = .returned (poV R) ∧ Hp w [] w' := e ▸ curTwo k bm A B n m w hV hA hB hn hm
theorem gAddP (hV : CurV w k bm) (e : R = add3 A B) : Calls Try.prog 20 #[mp k, poV A, poV B] w fun e w' => e = .returned (poV R) ∧ Hp w [] w' := e ▸ curAddP k bm A B w hV
theorem gTimesR (hF : FldV w b Prim.P256) (e : r = ptimes n p) : Calls Try.prog 13 #[mp b, num16 n, rpV p] w fun e w' => e = .returned (rpV r) ∧ Hp w [] w' := e ▸ refTimes b n p w hF
theorem gPlusR (hF : FldV w b Prim.P256) (e : r = Ec.pplus p q) : Calls Try.prog 19 #[mp b, rpV p, rpV q] w fun e w' => e = .returned (rpV r) ∧ Hp w [] w' := e ▸ refPlus b p q w hF
end
theorem P_gt : W256 ≤ 2 * Prim.P256 := by decide +kernel
theorem P_r0 : rowR Prim.P256 0 < 2 ^ 225 := by decide +kernel
theorem P_r1 : rowR Prim.P256 1 < 2 ^ 241 := by decide +kernel
theorem newFieldP (w : World) : Calls Try.prog 9 #[num16 Prim.P256] w fun e w' => ∃ b, e = .returned (mp b) ∧ w.heap.size ≤ b ∧ FldV w' b Prim.P256 ∧ Hp w [] w' := newField Prim.P256 w pW P_gt P_r0 P_r1
set_option maxHeartbeats 8000000 in
theorem mults04 (n m : Nat) (w : World) (hn : n < W256) (hm : m < W256) : Calls Try.prog 3 #[numV n, numV m] w fun e w' => e = .returned (.bool true) ∧ Hp w [] w' := by
  refine enter (args := [_, _]) (Γ := [(0, _), (1, _)]) Try.func3 Try.ntmps3 rfl (of_decide_eq_true rfl) (.cons rfl (.cons rfl .nil)) ?_
  repeat' (first | (apply Wl.boxN; exact rfl; exact rfl; intro c hc ho) | (apply Wl.assign; exact rfl; exact rfl) | (apply Wl.nil) | (apply St.seq) | (apply St.region) | (apply Gt.next) | (apply Wl.splitP; exact rfl; exact rfl; all_goals (intros; try (exfalso; omega))) | (apply Wl.splitB; exact rfl; exact rfl; all_goals intros) | (apply St.condP; exact rfl; all_goals (intros; try (exfalso; omega))) | (apply St.condB; exact rfl; all_goals intros))
  rename_i c2 h2 o2
  generalize c = c3 at *
  apply Wl.callQ
  exact rfl
  (repeat (first | exact Evs.nil | apply Evs.cons rfl))
  · intro wq hq
    refine (fit04 wq).mono ?_
    rintro e wr ⟨rfl, hr⟩
    exact ⟨rfl, hq.keep hr⟩
  repeat' (first | (apply Wl.not; exact rfl; exact rfl) | (apply Wl.nil) | (apply St.seq) | (apply St.region) | (apply St.condF; exact rfl; (first | with_reducible rfl | with_reducible assumption | decide)) | (apply St.skip) | (apply Gt.next) | (apply Wl.splitP; exact rfl; exact rfl; all_goals (intros; try (exfalso; omega))) | (apply Wl.splitB; exact rfl; exact rfl; all_goals intros) | (apply St.condP; exact rfl; all_goals (intros; try (exfalso; omega))) | (apply St.condB; exact rfl; all_goals intros))
  apply Wl.callC
  · exact rfl
  · (repeat (first | exact Evs.nil | apply Evs.cons rfl))
  intro wq hq; refine (curNew wq).mono ?_; rintro e wr ⟨k, bm, rfl, hk, hbm, hV, hr⟩; refine ⟨_, _, rfl, hpRb (hq.keep hr), ?_⟩
  have hu1 : Upd (fun k => w.heap.size ≤ k) w wr := hpOn (hq.keep hr) (Upd.refl _ _) (by simp; omega)
  obtain ⟨hkl, hbl⟩ := hV.lt
  have hs1 := hq.upd.size
  have l2 := hq.own.lt (.tail _ (.head _))
  have l3 := hq.own.lt (.head _)
  simp only at l2 l3
  clear hq hr
  repeat' (first | (apply Wl.callQ (f := 10); exact rfl; (repeat (first | exact Evs.nil | apply Evs.cons rfl)); (intro wq hq; refine (ref4P wq).mono ?_; rintro e wr ⟨rfl, hr⟩; exact ⟨rfl, hq.keep hr⟩)) | (apply Wl.splitP; exact rfl; exact rfl; all_goals (intros; try (exfalso; omega))) | (apply Wl.splitB; exact rfl; exact rfl; all_goals intros) | (apply St.condP; exact rfl; all_goals (intros; try (exfalso; omega))) | (apply St.condB; exact rfl; all_goals intros))
  apply Wl.callC
  · exact rfl
  · (repeat (first | exact Evs.nil | apply Evs.cons rfl))
  intro wq2 hq
  refine (newFieldP wq2).mono ?_
  rintro e w2 ⟨b, rfl, hbn, hF, hr⟩
  have hV := hV.hp (hq.keep hr) ⟨by simp only; omega, by simp only; omega, trivial⟩ ⟨by simp only; omega, by simp only; omega, trivial⟩
  refine ⟨_, _, rfl, hpRb (hq.keep hr), ?_⟩
  have hu : Upd (fun k => w.heap.size ≤ k) w w2 := hpOn (hq.keep hr) hu1 (by simp; omega)
  have hbl2 := hF.blk
  obtain ⟨hkl, hbl⟩ := hV.lt
  have hs2 := hq.upd.size
  clear hq hr
  obtain ⟨G, hGe⟩ : ∃ G, G = some curG := ⟨_, rfl⟩
  obtain ⟨A, hAe⟩ : ∃ A, A = sm3 n (some curG) := ⟨_, rfl⟩
  obtain ⟨q, hqe⟩ : ∃ q, q = ptimes n (ptR (some curG)) := ⟨_, rfl⟩
  obtain ⟨C, hCe⟩ : ∃ C, C = add3 (sm3 n (some curG)) (sm3 m A) := ⟨_, rfl⟩
  obtain ⟨t, hte⟩ : ∃ t, t = ptimes m q := ⟨_, rfl⟩
  obtain ⟨s, hse⟩ : ∃ s, s = Ec.pplus q t := ⟨_, rfl⟩
  have oG : OnP (some curG) := onG
  have oA : OnP A := hAe ▸ on_sm onG n
  have pq : Ec.ppt q = A := by rw [hqe, ptimes_pt hn (by rw [ptR_pt]; exact onG), ptR_pt, hAe]
  have ps : Ec.ppt s = C := by rw [hse, Ec.pplus_pt, hte, ptimes_pt hm (by rw [pq]; exact oA), pq, hCe, hAe]
  have hne : ((!A.isNone) == A.isNone) = false := by cases A.isNone <;> rfl
  repeat' (first | (apply St.bagX 5 []; exact mixed; (decide +kernel); kernel_rfl) | (apply St.bagX 13 [12]; exact mixed; (decide +kernel); kernel_rfl) | (apply St.bagXc 17 [16]; exact mixed; (decide +kernel); (repeat (first | apply CleanX.nil | (apply CleanX.skip; exact rfl) | (apply CleanX.keep; exact rfl))); kernel_rfl) | (apply OpsX.nil) | (apply OpsX.b; exact rfl) | (apply OpsX.v; (intro X hX; change Wl [_] _ _ _ _ _ _ _; apply Wl.catX; (repeat (first | apply CatB.nil | apply CatB.cons)))) | (apply Gt.endX; exact rfl) | (apply EndX.new; intro c hc ho) | (apply EndX.on; exact rfl) | (apply EndX.off; exact rfl) | (apply EndX.nil'; apply Wl.catE; (repeat (first | apply CatB.nil | apply CatB.cons))) | (apply Wl.loadAH; exact rfl; exact rfl; (repeat (first | exact List.Mem.head _ | apply List.Mem.tail)); (first | exact ptC_x _ _ _ | exact ptC_y _ _ _ | exact ptC_z _ _ _ | exact poC_x _ _ _ | exact poC_y _ _ _ | exact poD_x _ | exact poD_y _ | exact LSub.whole (ptC_len _ _ _) | exact LSub.whole (poC_len _ _ _) | exact LSub.whole (poD_len _))) | (apply Wl.loadH; exact rfl; exact rfl; (repeat (first | exact List.Mem.head _ | apply List.Mem.tail)); (first | exact poC_n _ _ _ | exact poD_n _)) | (apply Wl.storeAll; exact rfl; exact rfl; (repeat (first | apply HSet.here | apply HSet.there)); (first | exact ptC_len _ _ _ | exact poC_len _ _ _ | exact poD_len _); (first | exact rfl | exact ptC_len _ _ _ | exact poC_len _ _ _ | exact poD_len _); (first | exact ptC_one _ _ _ | exact poC_one _ _ _ | exact poD_one _)) | (apply Wl.loadAH; exact rfl; exact rfl; (repeat (first | exact List.Mem.head _ | apply List.Mem.tail)); (first | exact rpC_x _ _ _ | exact rpC_y _ _ _ | exact rpC_z _ _ _ | exact LSub.whole (rpC_len _ _ _))) | (apply Wl.storeAll; exact rfl; exact rfl; (repeat (first | apply HSet.here | apply HSet.there)); (first | exact rpC_len _ _ _); (first | exact rfl | exact rpC_len _ _ _); (first | exact rpC_one _ _ _)) | (apply Wl.callQ (f := 12); exact rfl; (repeat (first | exact Evs.nil | apply Evs.cons rfl)); (intro wq hq; refine (curBase wq).mono ?_; rintro e wr ⟨rfl, hr⟩; exact ⟨rfl, hq.keep hr⟩)) | (apply Wl.callQ (f := 14); exact rfl; (repeat (first | exact Evs.nil | apply Evs.cons rfl)); (intro wq hq; refine (refOf _ wq).mono ?_; rintro e wr ⟨rfl, hr⟩; exact ⟨rfl, hq.keep hr⟩)) | (apply Wl.callQ (f := 15); exact rfl; (repeat (first | exact Evs.nil | apply Evs.cons rfl)); (intro wq hq; refine (ref4Base wq).mono ?_; rintro e wr ⟨rfl, hr⟩; exact ⟨rfl, hq.keep hr⟩)) | (apply Wl.callQ (f := 11); exact rfl; (repeat (first | exact Evs.nil | apply Evs.cons rfl)); (intro wq hq; refine (gMult (hV.hp hq (by (repeat (first | exact trivial | exact hX.off (by omega) | refine ⟨by first | assumption | omega | (simp only; omega), ?_⟩))) (by (repeat (first | exact trivial | exact hX.off (by omega) | refine ⟨by first | assumption | omega | (simp only; omega), ?_⟩)))) (by with_reducible assumption) (by with_reducible assumption) (by with_reducible assumption)).mono ?_; rintro e wr ⟨rfl, hr⟩; exact ⟨rfl, hq.keep hr⟩)) | (apply Wl.callQ (f := 18); exact rfl; (repeat (first | exact Evs.nil | apply Evs.cons rfl)); (intro wq hq; refine (gTwo (hV.hp hq (by (repeat (first | exact trivial | exact hX.off (by omega) | refine ⟨by first | assumption | omega | (simp only; omega), ?_⟩))) (by (repeat (first | exact trivial | exact hX.off (by omega) | refine ⟨by first | assumption | omega | (simp only; omega), ?_⟩)))) (by with_reducible assumption) (by with_reducible assumption) (by with_reducible assumption) (by with_reducible assumption) (by with_reducible assumption)).mono ?_; rintro e wr ⟨rfl, hr⟩; exact ⟨rfl, hq.keep hr⟩)) | (apply Wl.callQ (f := 17); exact rfl; (repeat (first | exact Evs.nil | apply Evs.cons rfl)); (intro wq hq; refine (curOnP _ _ _ wq (hV.hp hq (by (repeat (first | exact trivial | exact hX.off (by omega) | refine ⟨by first | assumption | omega | (simp only; omega), ?_⟩))) (by (repeat (first | exact trivial | exact hX.off (by omega) | refine ⟨by first | assumption | omega | (simp only; omega), ?_⟩)))) (by with_reducible assumption)).mono ?_; rintro e wr ⟨rfl, hr⟩; exact ⟨rfl, hq.keep hr⟩)) | (apply Wl.callQ (f := 13); exact rfl; (repeat (first | exact Evs.nil | apply Evs.cons rfl)); (intro wq hq; refine (gTimesR (hF.hp hq (by (repeat (first | exact trivial | exact hX.off (by omega) | refine ⟨by first | assumption | omega | (simp only; omega), ?_⟩)))) (by with_reducible assumption)).mono ?_; rintro e wr ⟨rfl, hr⟩; exact ⟨rfl, hq.keep hr⟩)) | (apply Wl.callQ (f := 19); exact rfl; (repeat (first | exact Evs.nil | apply Evs.cons rfl)); (intro wq hq; refine (gPlusR (hF.hp hq (by (repeat (first | exact trivial | exact hX.off (by omega) | refine ⟨by first | assumption | omega | (simp only; omega), ?_⟩)))) (by with_reducible assumption)).mono ?_; rintro e wr ⟨rfl, hr⟩; exact ⟨rfl, hq.keep hr⟩)) | (apply Wl.callQ (f := 16); exact rfl; (repeat (first | exact Evs.nil | apply Evs.cons rfl)); (intro wq hq; refine (likeP _ _ _ wq (hF.hp hq (by (repeat (first | exact trivial | exact hX.off (by omega) | refine ⟨by first | assumption | omega | (simp only; omega), ?_⟩)))) (by with_reducible assumption)).mono ?_; rintro e wr ⟨rfl, hr⟩; exact ⟨rfl, hq.keep hr⟩)) | (apply Wl.loadW; exact rfl; exact rfl; (repeat (first | exact List.Mem.head _ | apply List.Mem.tail)); exact rfl) | (apply Wl.move; exact rfl; exact rfl) | (apply Wl.assign; exact rfl; exact rfl) | (apply Wl.on; exact rfl; exact rfl; (first | with_reducible rfl | with_reducible assumption | decide)) | (apply Wl.pickF; exact rfl; exact rfl; (first | with_reducible rfl | with_reducible assumption | decide); exact rfl) | (apply Wl.not; exact rfl; exact rfl) | (apply Wl.fieldAddrZ; exact rfl; exact rfl) | (apply Wl.eqlB; exact rfl; exact rfl; exact rfl) | (apply Wl.alloc; exact rfl; intro c hc ho) | (apply Wl.nil) | (apply St.seq) | (apply St.region) | (apply St.condF; exact rfl; (first | with_reducible rfl | with_reducible assumption | decide)) | (apply St.ret) | (apply St.skip) | (apply Gt.next) | (apply Gt.out1; exact rfl; exact rfl; intro w' hp) | (apply Wl.splitP; exact rfl; exact rfl; all_goals (intros; try (exfalso; omega))) | (apply Wl.splitB; exact rfl; exact rfl; all_goals intros) | (apply St.condP; exact rfl; all_goals (intros; try (exfalso; omega))) | (apply St.condB; exact rfl; all_goals intros))
  exact ⟨rfl, hpFin hp hu (by simp; omega)⟩
end Go.Proofs.Ytfaobdakpbpkbaa
