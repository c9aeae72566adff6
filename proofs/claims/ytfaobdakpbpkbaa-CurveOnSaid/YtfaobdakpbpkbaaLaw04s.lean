/-
  CurveSums: its walk. Conditions: numbers are below 2^256.
-/
import Derived.Test.YtfaobdakpbpkbaaLaw04m
namespace Go.Proofs.Ytfaobdakpbpkbaa
open Go.RowKit Go.Pt
attribute [local irreducible] Prim.P256 Prim.N256
section
variable {md : Md} {N : Nat} {ops : Array Oper} {rest : List Oper} {Γ : Env} {C : World → Prop} {Q : Exit → Act → World → Prop} {d : Nat} {ty : TypeId} {pos : String} {af : Array Edge} {parts : Array (Nat × Operand)}
theorem Wl.buildPnone (hd : Nat.blt d N = true) (hp : Parts Γ parts.toList [(2, .bool true)]) (h : Wl rest Try.prog md ops N ((d, poV none) :: Γ) C Q) :
    Wl (⟨some d, .build 35 parts, ty, pos, af, none⟩ :: rest) Try.prog md ops N Γ C Q := by
  rw [poV, poD_none] at h
  exact Wl.buildPn hd hp h
end
set_option maxHeartbeats 8000000 in
theorem sums04 (n m : Nat) (w : World) (hn : n < W256) (hm : m < W256) : Calls Try.prog 4 #[numV n, numV m] w fun e w' => e = .returned (.bool true) ∧ Hp w [] w' := by
  refine enter (args := [_, _]) (Γ := [(0, _), (1, _)]) Try.func4 Try.ntmps4 rfl (of_decide_eq_true rfl) (.cons rfl (.cons rfl .nil)) ?_
  repeat' (first | (apply Wl.boxN; exact rfl; exact rfl; intro c hc ho) | (apply Wl.assign; exact rfl; exact rfl) | (apply Wl.nil) | (apply St.seq) | (apply St.region) | (apply Gt.next) | (apply Wl.splitP; exact rfl; exact rfl; all_goals (intros; try (exfalso; omega))) | (apply Wl.splitB; exact rfl; exact rfl; all_goals intros) | (apply St.condP; exact rfl; all_goals (intros; try (exfalso; omega))) | (apply St.condB; exact rfl; all_goals intros))
  rename_i c2 h2 o2
  generalize c = c3 at *
  apply Wl.callQ
  exact rfl
  (repeat (first | exact Evs.nil | apply Evs.cons rfl))
  · intro wq hq
    refine (fit04 wq).mono ?_
    rintro e wr ⟨rfl, hr⟩
    exact ⟨rfl, hq.keep hr⟩
  repeat' (first | (apply Wl.not; exact rfl; exact rfl) | (apply Wl.nil) | (apply St.seq) | (apply St.region) | (apply St.condF; exact rfl; (first | with_reducible rfl | with_reducible assumption | decide)) | (apply St.skip) | (apply Gt.next) | (apply Wl.splitP; exact rfl; exact rfl; all_goals (intros; try (exfalso; omega))) | (apply Wl.splitB; exact rfl; exact rfl; all_goals intros) | (apply St.condP; exact rfl; all_goals (intros; try (exfalso; omega))) | (apply St.condB; exact rfl; all_goals intros))
  apply Wl.callC
  · exact rfl
  · (repeat (first | exact Evs.nil | apply Evs.cons rfl))
  intro wq hq; refine (curNew wq).mono ?_; rintro e wr ⟨k, bm, rfl, hk, hbm, hV, hr⟩; refine ⟨_, _, rfl, hpRb (hq.keep hr), ?_⟩
  have hu1 : Upd (fun k => w.heap.size ≤ k) w wr := hpOn (hq.keep hr) (Upd.refl _ _) (by simp; omega)
  obtain ⟨hkl, hbl⟩ := hV.lt
  have hs1 := hq.upd.size
  have l2 := hq.own.lt (.tail _ (.head _))
  have l3 := hq.own.lt (.head _)
  simp only at l2 l3
  clear hq hr
  repeat' (first | (apply Wl.callQ (f := 10); exact rfl; (repeat (first | exact Evs.nil | apply Evs.cons rfl)); (intro wq hq; refine (ref4P wq).mono ?_; rintro e wr ⟨rfl, hr⟩; exact ⟨rfl, hq.keep hr⟩)) | (apply Wl.splitP; exact rfl; exact rfl; all_goals (intros; try (exfalso; omega))) | (apply Wl.splitB; exact rfl; exact rfl; all_goals intros) | (apply St.condP; exact rfl; all_goals (intros; try (exfalso; omega))) | (apply St.condB; exact rfl; all_goals intros))
  apply Wl.callC
  · exact rfl
  · (repeat (first | exact Evs.nil | apply Evs.cons rfl))
  intro wq2 hq
  refine (newFieldP wq2).mono ?_
  rintro e w2 ⟨b, rfl, hbn, hF, hr⟩
  have hV := hV.hp (hq.keep hr) ⟨by simp only; omega, by simp only; omega, trivial⟩ ⟨by simp only; omega, by simp only; omega, trivial⟩
  refine ⟨_, _, rfl, hpRb (hq.keep hr), ?_⟩
  have hu : Upd (fun k => w.heap.size ≤ k) w w2 := hpOn (hq.keep hr) hu1 (by simp; omega)
  have hbl2 := hF.blk
  obtain ⟨hkl, hbl⟩ := hV.lt
  have hs2 := hq.upd.size
  clear hq hr
  obtain ⟨G, hGe⟩ : ∃ G, G = some curG := ⟨_, rfl⟩
  obtain ⟨A, hAe⟩ : ∃ A, A = sm3 n (some curG) := ⟨_, rfl⟩
  obtain ⟨B, hBe⟩ : ∃ B, B = sm3 m (some curG) := ⟨_, rfl⟩
  obtain ⟨S, hSe⟩ : ∃ S, S = add3 A B := ⟨_, rfl⟩
  obtain ⟨D, hDe⟩ : ∃ D, D = add3 A A := ⟨_, rfl⟩
  obtain ⟨q, hqe⟩ : ∃ q, q = Ec.pplus (ptR A) (ptR B) := ⟨_, rfl⟩
  have oG : OnP (some curG) := onG
  have oA : OnP A := hAe ▸ on_sm onG n
  have pq : Ec.ppt q = S := by rw [hqe, Ec.pplus_pt, ptR_pt, ptR_pt, hSe]
  have hS2 : S = add3 B A := by rw [hSe]; exact Ec.padd_comm _ _
  have hD2 : D = sm3 2 A := by
    rw [hDe]
    have := Ec.sm_two disc3 oA 1
    rw [Ec.sm_one] at this
    exact this.symm
  have hA0 : A = add3 A none := (Ec.padd_zero _).symm
  have hB0 : B = add3 none B := rfl
  have h2W : 2 < W256 := by decide
  repeat' (first | (apply St.bagX 10 []; exact mixed; (decide +kernel); kernel_rfl) | (apply St.bagXc 51 [50]; exact mixed; (decide +kernel); (repeat (first | apply CleanX.nil | (apply CleanX.skip; exact rfl) | (apply CleanX.keep; exact rfl))); kernel_rfl) | (apply OpsX.nil) | (apply OpsX.b; exact rfl) | (apply OpsX.v; (intro X hX; change Wl [_] _ _ _ _ _ _ _; apply Wl.catX; (repeat (first | apply CatB.nil | apply CatB.cons)))) | (apply Gt.endX; exact rfl) | (apply EndX.new; intro c hc ho) | (apply EndX.on; exact rfl) | (apply EndX.off; exact rfl) | (apply EndX.nil'; apply Wl.catE; (repeat (first | apply CatB.nil | apply CatB.cons))) | (apply Wl.buildPnone; exact rfl; (focus ((repeat (first | exact Parts.nil | apply Parts.cons rfl)); done))) | (apply Wl.eqlSame; exact rfl; exact rfl; exact rfl; kernel_rfl; kernel_rfl; (first | exact formD _ | exact formPo _ _ _); (first | exact klD _ | exact klPo _ _ _)) | (apply Wl.loadAH; exact rfl; exact rfl; (repeat (first | exact List.Mem.head _ | apply List.Mem.tail)); (first | exact ptC_x _ _ _ | exact ptC_y _ _ _ | exact ptC_z _ _ _ | exact poC_x _ _ _ | exact poC_y _ _ _ | exact poD_x _ | exact poD_y _ | exact LSub.whole (ptC_len _ _ _) | exact LSub.whole (poC_len _ _ _) | exact LSub.whole (poD_len _))) | (apply Wl.storeAll; exact rfl; exact rfl; (repeat (first | apply HSet.here | apply HSet.there)); (first | exact ptC_len _ _ _ | exact poC_len _ _ _ | exact poD_len _); (first | exact rfl | exact ptC_len _ _ _ | exact poC_len _ _ _ | exact poD_len _); (first | exact ptC_one _ _ _ | exact poC_one _ _ _ | exact poD_one _)) | (apply Wl.callQ (f := 12); exact rfl; (repeat (first | exact Evs.nil | apply Evs.cons rfl)); (intro wq hq; refine (curBase wq).mono ?_; rintro e wr ⟨rfl, hr⟩; exact ⟨rfl, hq.keep hr⟩)) | (apply Wl.callQ (f := 11); exact rfl; (repeat (first | exact Evs.nil | apply Evs.cons rfl)); (intro wq hq; refine (gMult (hV.hp hq (by (repeat (first | exact trivial | exact hX.off (by omega) | refine ⟨by first | assumption | omega | (simp only; omega), ?_⟩))) (by (repeat (first | exact trivial | exact hX.off (by omega) | refine ⟨by first | assumption | omega | (simp only; omega), ?_⟩)))) (by with_reducible assumption) (by with_reducible assumption) (by with_reducible assumption)).mono ?_; rintro e wr ⟨rfl, hr⟩; exact ⟨rfl, hq.keep hr⟩)) | (apply Wl.callQ (f := 20); exact rfl; (repeat (first | exact Evs.nil | apply Evs.cons rfl)); (intro wq hq; refine (gAddP (hV.hp hq (by (repeat (first | exact trivial | exact hX.off (by omega) | refine ⟨by first | assumption | omega | (simp only; omega), ?_⟩))) (by (repeat (first | exact trivial | exact hX.off (by omega) | refine ⟨by first | assumption | omega | (simp only; omega), ?_⟩)))) (by with_reducible assumption)).mono ?_; rintro e wr ⟨rfl, hr⟩; exact ⟨rfl, hq.keep hr⟩)) | (apply Wl.callQ (f := 19); exact rfl; (repeat (first | exact Evs.nil | apply Evs.cons rfl)); (intro wq hq; refine (gPlusR (hF.hp hq (by (repeat (first | exact trivial | exact hX.off (by omega) | refine ⟨by first | assumption | omega | (simp only; omega), ?_⟩)))) (by with_reducible assumption)).mono ?_; rintro e wr ⟨rfl, hr⟩; exact ⟨rfl, hq.keep hr⟩)) | (apply Wl.callQ (f := 16); exact rfl; (repeat (first | exact Evs.nil | apply Evs.cons rfl)); (intro wq hq; refine (likeP _ _ _ wq (hF.hp hq (by (repeat (first | exact trivial | exact hX.off (by omega) | refine ⟨by first | assumption | omega | (simp only; omega), ?_⟩)))) (by with_reducible assumption)).mono ?_; rintro e wr ⟨rfl, hr⟩; exact ⟨rfl, hq.keep hr⟩)) | (apply Wl.callQ (f := 21); exact rfl; (repeat (first | exact Evs.nil | apply Evs.cons rfl)); (intro wq hq; refine (ptAny _ wq).mono ?_; rintro e wr ⟨rfl, hr⟩; exact ⟨rfl, hq.keep hr⟩)) | (apply Wl.loadW; exact rfl; exact rfl; (repeat (first | exact List.Mem.head _ | apply List.Mem.tail)); exact rfl) | (apply Wl.buildN; exact rfl; (repeat (first | exact Parts.nil | apply Parts.cons rfl)); (repeat (first | apply Fills.nil | (apply Fills.one; exact rfl; exact rfl; (repeat (first | apply LSet.z | apply LSet.s))) | (apply Fills.agg; exact rfl; exact rfl; (repeat (first | apply LPut.s | apply LPut.z | apply LOver.nil | apply LOver.cons))))); (first | exact one8 | exact zero8 | exact two8 | exact one16)) | (apply Wl.move; exact rfl; exact rfl) | (apply Wl.assign; exact rfl; exact rfl) | (apply Wl.on; exact rfl; exact rfl; (first | with_reducible rfl | with_reducible assumption | decide)) | (apply Wl.pickT; exact rfl; exact rfl; (first | with_reducible rfl | with_reducible assumption | decide); exact rfl) | (apply Wl.alloc; exact rfl; intro c hc ho) | (apply Wl.nil) | (apply St.seq) | (apply St.region) | (apply St.ret) | (apply Gt.next) | (apply Gt.out1; exact rfl; exact rfl; intro w' hp) | (apply Wl.splitP; exact rfl; exact rfl; all_goals (intros; try (exfalso; omega))) | (apply Wl.splitB; exact rfl; exact rfl; all_goals intros) | (apply St.condP; exact rfl; all_goals (intros; try (exfalso; omega))) | (apply St.condB; exact rfl; all_goals intros))
  exact ⟨rfl, hpFin hp hu (by simp; omega)⟩
end Go.Proofs.Ytfaobdakpbpkbaa
