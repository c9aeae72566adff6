/-
  CurveTwo: its walk. Conditions: numbers are below 2^256.
-/
import Derived.Test.YtfaobdakpbpkbaaLaw04s
namespace Go.Proofs.Ytfaobdakpbpkbaa
open Go.RowKit Go.Pt
attribute [local irreducible] Prim.P256 Prim.N256
theorem k18 (k : Nat) (hk : k < 4294967296) : [Value.int .u32 (k : Int), .int .u32 1, .int .u32 0, .int .u32 0, .int .u32 0, .int .u32 0, .int .u32 0, .int .u32 0] = cellsN .u32 8 (dg W32 (k + 4294967296)) := by
  have e : ∀ f : Nat → Nat, cellsN .u32 8 f = [.int .u32 (f 0 : Nat), .int .u32 (f 1 : Nat), .int .u32 (f 2 : Nat), .int .u32 (f 3 : Nat), .int .u32 (f 4 : Nat), .int .u32 (f 5 : Nat), .int .u32 (f 6 : Nat), .int .u32 (f 7 : Nat)] := fun f => by unfold cellsN; rfl
  have h0 : dg W32 (k + 4294967296) 0 = k := by unfold dg; show (k + 4294967296) / 1 % 4294967296 = k; omega
  have h1 : dg W32 (k + 4294967296) 1 = 1 := by unfold dg; show (k + 4294967296) / 4294967296 % 4294967296 = 1; omega
  have h2 : ∀ j, 2 ≤ j → dg W32 (k + 4294967296) j = 0 := fun j hj => by
    unfold dg hi
    have hp : W32 ^ 2 ≤ W32 ^ j := Nat.pow_le_pow_right (by decide) hj
    have hw : W32 ^ 2 = 18446744073709551616 := by decide
    rw [Nat.div_eq_of_lt (by omega)]
    rfl
  rw [e, h0, h1, h2 2 (by omega), h2 3 (by omega), h2 4 (by omega), h2 5 (by omega), h2 6 (by omega), h2 7 (by omega)]
  rfl
set_option maxHeartbeats 16000000 in
theorem two04 (n m k2 : Nat) (w : World) (hn : n < W256) (hm : m < W256) (hk2 : k2 < 4294967296) : Calls Try.prog 6 #[numV n, numV m, .int .u32 k2] w fun e w' => e = .returned (.bool true) ∧ Hp w [] w' := by
  refine enter (args := [_, _, _]) (Γ := [(0, _), (1, _), (2, _)]) Try.func6 Try.ntmps6 rfl (of_decide_eq_true rfl) (.cons rfl (.cons rfl (.cons rfl .nil))) ?_
  repeat' (first | (apply Wl.boxN; exact rfl; exact rfl; intro c hc ho) | (apply Wl.assign; exact rfl; exact rfl) | (apply Wl.nil) | (apply St.seq) | (apply St.region) | (apply Gt.next) | (apply Wl.splitP; exact rfl; exact rfl; all_goals (intros; try (exfalso; omega))) | (apply Wl.splitB; exact rfl; exact rfl; all_goals intros) | (apply St.condP; exact rfl; all_goals (intros; try (exfalso; omega))) | (apply St.condB; exact rfl; all_goals intros))
  rename_i c2 h2 o2
  generalize c = c3 at *
  apply Wl.callQ
  exact rfl
  (repeat (first | exact Evs.nil | apply Evs.cons rfl))
  · intro wq hq
    refine (fit04 wq).mono ?_
    rintro e wr ⟨rfl, hr⟩
    exact ⟨rfl, hq.keep hr⟩
  repeat' (first | (apply Wl.not; exact rfl; exact rfl) | (apply Wl.nil) | (apply St.seq) | (apply St.region) | (apply St.condF; exact rfl; (first | with_reducible rfl | with_reducible assumption | decide)) | (apply St.skip) | (apply Gt.next) | (apply Wl.splitP; exact rfl; exact rfl; all_goals (intros; try (exfalso; omega))) | (apply Wl.splitB; exact rfl; exact rfl; all_goals intros) | (apply St.condP; exact rfl; all_goals (intros; try (exfalso; omega))) | (apply St.condB; exact rfl; all_goals intros))
  apply Wl.callC
  · exact rfl
  · (repeat (first | exact Evs.nil | apply Evs.cons rfl))
  intro wq hq; refine (curNew wq).mono ?_; rintro e wr ⟨k, bm, rfl, hk, hbm, hV, hr⟩; refine ⟨_, _, rfl, hpRb (hq.keep hr), ?_⟩
  have hu : Upd (fun k => w.heap.size ≤ k) w wr := hpOn (hq.keep hr) (Upd.refl _ _) (by simp; omega)
  obtain ⟨hkl, hbl⟩ := hV.lt
  have hs1 := hq.upd.size
  have l2 := hq.own.lt (.tail _ (.head _))
  have l3 := hq.own.lt (.head _)
  simp only at l2 l3
  clear hq hr
  obtain ⟨K, hKe⟩ : ∃ K, K = k2 + 4294967296 := ⟨_, rfl⟩
  have hK : K < W256 := by rw [hKe]; exact Nat.lt_of_lt_of_le (show k2 + 4294967296 < 2 ^ 64 by omega) (by decide)
  have k18' := hKe ▸ k18 k2 hk2
  obtain ⟨G, hGe⟩ : ∃ G, G = some curG := ⟨_, rfl⟩
  obtain ⟨A, hAe⟩ : ∃ A, A = sm3 K (some curG) := ⟨_, rfl⟩
  obtain ⟨X, hXe⟩ : ∃ X, X = sm3 n (some curG) := ⟨_, rfl⟩
  obtain ⟨Y, hYe⟩ : ∃ Y, Y = sm3 m A := ⟨_, rfl⟩
  obtain ⟨S, hSe⟩ : ∃ S, S = add3 X Y := ⟨_, rfl⟩
  have oG : OnP (some curG) := onG
  have oA : OnP A := hAe ▸ on_sm onG K
  have hS1 : S = add3 (sm3 n (some curG)) (sm3 m A) := by rw [hSe, hXe, hYe]
  have hS2 : S = add3 (sm3 m A) (sm3 n (some curG)) := by rw [hS1]; exact Ec.padd_comm _ _
  have hO : none = sm3 Prim.N256 A := (ord_sm K hAe).symm
  have nW' := nW
  have hnt : (none : Ec.Pt).isNone = true := rfl
  repeat' (first | (apply St.bagX 7 []; exact mixed; (decide +kernel); kernel_rfl) | (apply St.bagXc 50 [49]; exact mixed; (decide +kernel); (repeat (first | apply CleanX.nil | (apply CleanX.skip; exact rfl) | (apply CleanX.keep; exact rfl))); kernel_rfl) | (apply OpsX.nil) | (apply OpsX.b; exact rfl) | (apply OpsX.v; (intro X hX; change Wl [_] _ _ _ _ _ _ _; apply Wl.catX; (repeat (first | apply CatB.nil | apply CatB.cons)))) | (apply Gt.endX; exact rfl) | (apply EndX.new; intro c hc ho) | (apply EndX.on; exact rfl) | (apply EndX.off; exact rfl) | (apply EndX.nil'; apply Wl.catE; (repeat (first | apply CatB.nil | apply CatB.cons))) | (apply Wl.buildN; exact rfl; (repeat (first | exact Parts.nil | apply Parts.cons rfl)); (repeat (first | apply Fills.nil | (apply Fills.one; exact rfl; exact rfl; (repeat (first | apply LSet.z | apply LSet.s))) | (apply Fills.agg; exact rfl; exact rfl; (repeat (first | apply LPut.s | apply LPut.z | apply LOver.nil | apply LOver.cons))))); exact k18') | (apply Wl.fieldVv; exact rfl; exact rfl; (first | exact poC_n _ _ _ | exact poD_n _)) | (apply Wl.eqlSame; exact rfl; exact rfl; exact rfl; kernel_rfl; kernel_rfl; (first | exact formD _ | exact formPo _ _ _); (first | exact klD _ | exact klPo _ _ _)) | (apply Wl.loadAH; exact rfl; exact rfl; (repeat (first | exact List.Mem.head _ | apply List.Mem.tail)); (first | exact ptC_x _ _ _ | exact ptC_y _ _ _ | exact ptC_z _ _ _ | exact poC_x _ _ _ | exact poC_y _ _ _ | exact poD_x _ | exact poD_y _ | exact LSub.whole (ptC_len _ _ _) | exact LSub.whole (poC_len _ _ _) | exact LSub.whole (poD_len _))) | (apply Wl.storeAll; exact rfl; exact rfl; (repeat (first | apply HSet.here | apply HSet.there)); (first | exact ptC_len _ _ _ | exact poC_len _ _ _ | exact poD_len _); (first | exact rfl | exact ptC_len _ _ _ | exact poC_len _ _ _ | exact poD_len _); (first | exact ptC_one _ _ _ | exact poC_one _ _ _ | exact poD_one _)) | (apply Wl.callQ (f := 11); exact rfl; (repeat (first | exact Evs.nil | apply Evs.cons rfl)); (intro wq hq; with_reducible refine (curNilMult _ _ wq).mono ?_; rintro e wr ⟨rfl, hr⟩; exact ⟨rfl, hq.keep hr⟩)) | (apply Wl.callQ (f := 17); exact rfl; (repeat (first | exact Evs.nil | apply Evs.cons rfl)); (intro wq hq; with_reducible refine (curNilOn _ wq).mono ?_; rintro e wr ⟨rfl, hr⟩; exact ⟨rfl, hq.keep hr⟩)) | (apply Wl.callQ (f := 20); exact rfl; (repeat (first | exact Evs.nil | apply Evs.cons rfl)); (intro wq hq; with_reducible refine (curNilAdd _ _ wq).mono ?_; rintro e wr ⟨rfl, hr⟩; exact ⟨rfl, hq.keep hr⟩)) | (apply Wl.callQ (f := 12); exact rfl; (repeat (first | exact Evs.nil | apply Evs.cons rfl)); (intro wq hq; refine (curBase wq).mono ?_; rintro e wr ⟨rfl, hr⟩; exact ⟨rfl, hq.keep hr⟩)) | (apply Wl.callQ (f := 27); exact rfl; (repeat (first | exact Evs.nil | apply Evs.cons rfl)); (intro wq hq; refine (curOrder wq).mono ?_; rintro e wr ⟨rfl, hr⟩; exact ⟨rfl, hq.keep hr⟩)) | (apply Wl.callQ (f := 11); exact rfl; (repeat (first | exact Evs.nil | apply Evs.cons rfl)); (intro wq hq; refine (gMult (hV.hp hq (by (repeat (first | exact trivial | exact hX.off (by omega) | refine ⟨by first | assumption | omega | (simp only; omega), ?_⟩))) (by (repeat (first | exact trivial | exact hX.off (by omega) | refine ⟨by first | assumption | omega | (simp only; omega), ?_⟩)))) (by with_reducible assumption) (by with_reducible assumption) (by with_reducible assumption)).mono ?_; rintro e wr ⟨rfl, hr⟩; exact ⟨rfl, hq.keep hr⟩)) | (apply Wl.callQ (f := 18); exact rfl; (repeat (first | exact Evs.nil | apply Evs.cons rfl)); (intro wq hq; refine (gTwo (hV.hp hq (by (repeat (first | exact trivial | exact hX.off (by omega) | refine ⟨by first | assumption | omega | (simp only; omega), ?_⟩))) (by (repeat (first | exact trivial | exact hX.off (by omega) | refine ⟨by first | assumption | omega | (simp only; omega), ?_⟩)))) (by with_reducible assumption) (by with_reducible assumption) (by with_reducible assumption) (by with_reducible assumption) (by with_reducible assumption)).mono ?_; rintro e wr ⟨rfl, hr⟩; exact ⟨rfl, hq.keep hr⟩)) | (apply Wl.callQ (f := 20); exact rfl; (repeat (first | exact Evs.nil | apply Evs.cons rfl)); (intro wq hq; refine (gAddP (hV.hp hq (by (repeat (first | exact trivial | exact hX.off (by omega) | refine ⟨by first | assumption | omega | (simp only; omega), ?_⟩))) (by (repeat (first | exact trivial | exact hX.off (by omega) | refine ⟨by first | assumption | omega | (simp only; omega), ?_⟩)))) (by with_reducible assumption)).mono ?_; rintro e wr ⟨rfl, hr⟩; exact ⟨rfl, hq.keep hr⟩)) | (apply Wl.loadW; exact rfl; exact rfl; (repeat (first | exact List.Mem.head _ | apply List.Mem.tail)); exact rfl) | (apply Wl.move; exact rfl; exact rfl) | (apply Wl.assign; exact rfl; exact rfl) | (apply Wl.on; exact rfl; exact rfl; (first | with_reducible rfl | with_reducible assumption | decide)) | (apply Wl.pickT; exact rfl; exact rfl; (first | with_reducible rfl | with_reducible assumption | decide); exact rfl) | (apply Wl.not; exact rfl; exact rfl) | (apply Wl.alloc; exact rfl; intro c hc ho) | (apply Wl.nil) | (apply St.seq) | (apply St.region) | (apply St.ret) | (apply Gt.next) | (apply Gt.out1; exact rfl; exact rfl; intro w' hp) | (apply Wl.splitP; exact rfl; exact rfl; all_goals (intros; try (exfalso; omega))) | (apply Wl.splitB; exact rfl; exact rfl; all_goals intros) | (apply St.condP; exact rfl; all_goals (intros; try (exfalso; omega))) | (apply St.condB; exact rfl; all_goals intros))
  exact ⟨rfl, hpFin hp hu (by simp; omega)⟩
end Go.Proofs.Ytfaobdakpbpkbaa
