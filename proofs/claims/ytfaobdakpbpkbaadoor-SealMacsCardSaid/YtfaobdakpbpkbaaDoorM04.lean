/-
  23 texts, one behind the other; each says what it proves. Conditions: as each text says.
-/
import Derived.Test.YtfaobdakpbpkbaaDoorM03
import Derived.Test.YtfaobdakpbpkbaaDoorM01
section
/-
  curve: New, Two, Mult. Conditions: points are of the curve, numbers are below 2^256.
-/
namespace Go.Proofs.YtfaobdakpbpkbaaDoor
open Go.RowKit Go.Pt
attribute [local irreducible] Prim.P256 jin
theorem asc {p q r : Ec.Pt} (hp : OnP p) (hq : OnP q) (hr : OnP r) : add3 (add3 p q) r = add3 p (add3 q r) := Ec.assoc disc3 hp hq hr
theorem on_sm {A : Ec.Pt} (hA : OnP A) (n : Nat) : OnP (sm3 n A) := Ec.sm_on hA n
section
variable {A B : Ec.Pt} (hA : OnP A) (hB : OnP B) (n m : Nat)
include hA hB
theorem two_dbl : add3 (add3 (sm3 n A) (sm3 m B)) (add3 (sm3 n A) (sm3 m B)) = add3 (sm3 (2 * n) A) (sm3 (2 * m) B) := by
  unfold add3 sm3
  rw [Ec.padd4 disc3 (on_sm hA n) (on_sm hB m) (on_sm hA n) (on_sm hB m), ← Ec.sm_two disc3 hA, ← Ec.sm_two disc3 hB]
theorem two_a : add3 (add3 (sm3 n A) (sm3 m B)) A = add3 (sm3 (n + 1) A) (sm3 m B) := by
  rw [asc (on_sm hA n) (on_sm hB m) hA, show add3 (sm3 m B) A = add3 A (sm3 m B) from Ec.padd_comm _ _, ← asc (on_sm hA n) hA (on_sm hB m)]; rfl
theorem two_b : add3 (add3 (sm3 n A) (sm3 m B)) B = add3 (sm3 n A) (sm3 (m + 1) B) := by
  rw [asc (on_sm hA n) (on_sm hB m) hB]; rfl
theorem two_ab : add3 (add3 (sm3 n A) (sm3 m B)) (add3 A B) = add3 (sm3 (n + 1) A) (sm3 (m + 1) B) := by
  unfold add3 sm3
  rw [Ec.padd4 disc3 (on_sm hA n) (on_sm hB m) hA hB]; rfl
end
theorem gBit {a i : Nat} {k : Int} (hi : i < 256) (e : a / 2 ^ i % 2 = k.toNat) (hk : 0 ≤ k) (w : World) : Calls Tryd.prog 67 #[numV a, .int .i64 i] w fun e w' => e = .returned (.int .u32 k) ∧ Hp w [] w' := by
  have := limbBit a i hi w
  rw [e, Int.toNat_of_nonneg hk] at this
  exact this
theorem step0 {n i N : Nat} (h : n / 2 ^ i % 2 = 0) : 2 * (n / 2 ^ (i + 1)) = n / 2 ^ i := by have := bit_step n i; omega
theorem step1 {n i N : Nat} (h : n / 2 ^ i % 2 = 1) : 2 * (n / 2 ^ (i + 1)) + 1 = n / 2 ^ i := by have := bit_step n i; omega
set_option maxHeartbeats 16000000 in
theorem curTwo (k bm : Nat) (A B : Ec.Pt) (n m : Nat) (w : World) (hV : CurV w k bm) (hA : OnP A) (hB : OnP B) (hn : n < W256) (hm : m < W256) : Calls Tryd.prog 29 #[mp k, numV n, poV A, numV m, poV B] w fun e w' => e = .returned (poV (add3 (sm3 n A) (sm3 m B))) ∧ Hp w [] w' := by
  obtain ⟨hc, hb⟩ := hV.lt
  have p256 : (2 : Nat) ^ 256 = W256 := by decide
  refine enter (args := [_, _, _, _, _]) (Γ := [(0, _), (1, _), (2, _), (3, _), (4, _)]) Tryd.func29 Tryd.ntmps29 rfl (of_decide_eq_true rfl) (.cons rfl (.cons rfl (.cons rfl (.cons rfl (.cons rfl .nil))))) ?_
  repeat' (first | (apply St.bagX 8 []; exact mixed; (decide +kernel); kernel_rfl) | (apply St.bagX 13 []; exact mixed; (decide +kernel); kernel_rfl) | (apply OpsX.nil) | (apply OpsX.b; exact rfl) | (apply OpsX.v; (intro X hX; change Wl [_] _ _ _ _ _ _ _; apply Wl.catX; (repeat (first | apply CatB.nil | apply CatB.cons)))) | (apply Gt.endX; exact rfl) | (apply EndX.new; intro c hc ho) | (apply EndX.on; exact rfl) | (apply EndX.off; exact rfl) | (apply EndX.nil'; apply Wl.catE; (repeat (first | apply CatB.nil | apply CatB.cons))) | (apply Wl.loadO; exact rfl; exact rfl; exact hV.mod; (repeat (first | exact trivial | exact hX.off (by omega) | refine ⟨by first | assumption | omega | (simp only; omega), ?_⟩))) | (apply Wl.loadAH; exact rfl; exact rfl; (repeat (first | exact List.Mem.head _ | apply List.Mem.tail)); (first | exact ptC_x _ _ _ | exact ptC_y _ _ _ | exact ptC_z _ _ _ | exact poC_x _ _ _ | exact poC_y _ _ _ | exact poD_x _ | exact poD_y _ | exact LSub.whole (ptC_len _ _ _) | exact LSub.whole (poC_len _ _ _) | exact LSub.whole (poD_len _))) | (apply Wl.storeAll; exact rfl; exact rfl; (repeat (first | apply HSet.here | apply HSet.there)); (first | exact ptC_len _ _ _ | exact poC_len _ _ _ | exact poD_len _); (first | exact rfl | exact ptC_len _ _ _ | exact poC_len _ _ _ | exact poD_len _); (first | exact ptC_one _ _ _ | exact poC_one _ _ _ | exact poD_one _)) | (apply Wl.buildPt; exact rfl; (focus ((repeat (first | exact Parts.nil | apply Parts.cons rfl)); done))) | (apply Wl.callQ (f := 65); exact rfl; (repeat (first | exact Evs.nil | apply Evs.cons rfl)); (intro wq hq; refine (fOne (hV.val.hp hq (by (repeat (first | exact trivial | exact hX.off (by omega) | refine ⟨by first | assumption | omega | (simp only; omega), ?_⟩))))).mono ?_; rintro e wr ⟨rfl, hr⟩; exact ⟨rfl, hq.keep hr⟩)) | (apply Wl.callQ (f := 64); exact rfl; (repeat (first | exact Evs.nil | apply Evs.cons rfl)); (intro wq hq; refine (curAdd _ _ _ _ wq (hV.hp hq (by (repeat (first | exact trivial | exact hX.off (by omega) | refine ⟨by first | assumption | omega | (simp only; omega), ?_⟩))) (by (repeat (first | exact trivial | exact hX.off (by omega) | refine ⟨by first | assumption | omega | (simp only; omega), ?_⟩))))).mono ?_; rintro e wr ⟨rfl, hr⟩; exact ⟨rfl, hq.keep hr⟩)) | (apply Wl.callQ (f := 63); exact rfl; (repeat (first | exact Evs.nil | apply Evs.cons rfl)); (intro wq hq; refine (curIn _ _ _ wq (hV.hp hq (by (repeat (first | exact trivial | exact hX.off (by omega) | refine ⟨by first | assumption | omega | (simp only; omega), ?_⟩))) (by (repeat (first | exact trivial | exact hX.off (by omega) | refine ⟨by first | assumption | omega | (simp only; omega), ?_⟩))))).mono ?_; rintro e wr ⟨rfl, hr⟩; exact ⟨rfl, hq.keep hr⟩)) | (apply Wl.boxN; exact rfl; exact rfl; intro c hc ho) | (apply Wl.buildN; exact rfl; (repeat (first | exact Parts.nil | apply Parts.cons rfl)); (repeat (first | apply Fills.nil | (apply Fills.one; exact rfl; exact rfl; (repeat (first | apply LSet.z | apply LSet.s))) | (apply Fills.agg; exact rfl; exact rfl; (repeat (first | apply LPut.s | apply LPut.z | apply LOver.nil | apply LOver.cons))))); (first | exact one8 | exact zero8 | exact two8 | exact one16)) | (apply Wl.move; exact rfl; exact rfl) | (apply Wl.assign; exact rfl; exact rfl) | (apply Wl.nilCheck; exact rfl; exact rfl) | (apply Wl.fieldAddr0; exact rfl; exact rfl) | (apply Wl.eqlPN; exact rfl; exact rfl; exact rfl) | (apply Wl.boxA; exact rfl; exact rfl; intro c hc ho) | (apply Wl.alloc; exact rfl; intro c hc ho) | (apply Wl.nil) | (apply St.seq) | (apply St.block) | (apply St.region) | (apply St.condF; exact rfl; (first | with_reducible rfl | with_reducible assumption | decide)) | (apply St.skip) | (apply Gt.next) | (apply Wl.splitP; exact rfl; exact rfl; all_goals (intros; try (exfalso; omega))) | (apply Wl.splitB; exact rfl; exact rfl; all_goals intros) | (apply St.condP; exact rfl; all_goals (intros; try (exfalso; omega))) | (apply St.condB; exact rfl; all_goals intros))
  rename_i c6 h6 o6 c7 h7 o7 c8 h8 o8 c9 h9 o9 c10 h10 o10 c11 h11 o11 c12 h12 o12 c13 h13 o13
  generalize c = c14 at *
  refine St.loop (σ := Nat × (Ec.F × Ec.F × Ec.F)) (fun τ => τ.1 ≤ 256 ∧ Ec.jpt τ.2 = add3 (sm3 (n / 2 ^ τ.1) A) (sm3 (m / 2 ^ τ.1) B))
    (fun τ => [(0, mp k), (6, mp c6), (8, mp c8), (10, mp c10), (11, mp c11), (12, mp c12), (13, mp c13), (14, mp c14), (15, .int .i64 ((τ.1 : Int) - 1))])
    (fun τ => Hp w [⟨c14, ptF τ.2, 108⟩, ⟨c13, ptF (Ec.jadd (jin A) (jin B)), 108⟩, ⟨c12, ptF (jin B), 108⟩, ⟨c11, ptF (jin A), 108⟩, ⟨c10, [Value.int .u32 0, .int .u32 0, .int .u32 0, .int .u32 0, .int .u32 0, .int .u32 0, .int .u32 0, .int .u32 0, .int .u32 0, .int .u32 0, .int .u32 0, .int .u32 0, .int .u32 0, .int .u32 0, .int .u32 0, .int .u32 0, .bool false], 32⟩, ⟨c9, poD B, 32⟩, ⟨c8, cellsN .u32 8 (dg W32 m), 30⟩, ⟨c7, poD A, 32⟩, ⟨c6, cellsN .u32 8 (dg W32 n), 30⟩])
    (fun τ => τ.1) (256, (1, 1, 0)) ⟨by simp, by
      show _ = add3 (sm3 (n / 2 ^ 256) A) (sm3 (m / 2 ^ 256) B)
      rw [p256, Nat.div_eq_of_lt hn, Nat.div_eq_of_lt hm]
      exact Ec.jac_zero _ _⟩ (by (repeat (first | exact Sub.nil | apply Sub.cons rfl))) (fun _ h => by
      have h' := h
      rw [← ptC0] at h'
      exact h') ?_
  rintro ⟨i, r⟩ ⟨hi256, hr⟩
  simp only at hi256 hr ⊢
  cases i with
  | zero =>
    rw [Nat.pow_zero, Nat.div_one, Nat.div_one] at hr
    repeat' (first | (apply Wl.loadAH; exact rfl; exact rfl; (repeat (first | exact List.Mem.head _ | apply List.Mem.tail)); (first | exact ptC_x _ _ _ | exact ptC_y _ _ _ | exact ptC_z _ _ _ | exact poC_x _ _ _ | exact poC_y _ _ _ | exact poD_x _ | exact poD_y _ | exact LSub.whole (ptC_len _ _ _) | exact LSub.whole (poC_len _ _ _) | exact LSub.whole (poD_len _))) | (apply Wl.storeAll; exact rfl; exact rfl; (repeat (first | apply HSet.here | apply HSet.there)); (first | exact ptC_len _ _ _ | exact poC_len _ _ _ | exact poD_len _); (first | exact rfl | exact ptC_len _ _ _ | exact poC_len _ _ _ | exact poD_len _); (first | exact ptC_one _ _ _ | exact poC_one _ _ _ | exact poD_one _)) | (apply Wl.callQ (f := 68); exact rfl; (repeat (first | exact Evs.nil | apply Evs.cons rfl)); (intro wq hq; refine (curOut _ _ _ wq (hV.hp hq (by (repeat (first | exact trivial | exact hX.off (by omega) | refine ⟨by first | assumption | omega | (simp only; omega), ?_⟩))) (by (repeat (first | exact trivial | exact hX.off (by omega) | refine ⟨by first | assumption | omega | (simp only; omega), ?_⟩))))).mono ?_; rintro e wr ⟨rfl, hr⟩; exact ⟨rfl, hq.keep hr⟩)) | (apply Gt.outC'; exact rfl; infer_instance; exact rfl; (repeat (first | exact List.Mem.head _ | apply List.Mem.tail)); (first | exact LSub.whole (ptC_len _ _ _) | exact LSub.whole (poC_len _ _ _) | exact LSub.whole (poD_len _)); intro w' hp) | (apply Wl.move; exact rfl; exact rfl) | (apply Wl.geq; exact rfl; exact rfl; exact rfl) | (apply Wl.nil) | (apply St.seq) | (apply St.region) | (apply St.condF; exact rfl; (first | with_reducible rfl | with_reducible assumption | decide)) | (apply St.ret) | (apply St.exit) | (apply Gt.next) | (apply Gt.thenExit) | (apply Gt.inExit) | (apply Wl.splitP; exact rfl; exact rfl; all_goals (intros; try (exfalso; omega))) | (apply Wl.splitB; exact rfl; exact rfl; all_goals intros) | (apply St.condP; exact rfl; all_goals (intros; try (exfalso; omega))) | (apply St.condB; exact rfl; all_goals intros))
    rw [hr] at hp ⊢
    exact ⟨rfl, hp.drop (by simp; omega)⟩
  | succ i =>
    have ei : (((i + 1 : Nat) : Int) - 1) = (i : Int) := by omega
    rw [ei]
    have hd : Ec.jpt (Ec.jdbl r) = add3 (sm3 (2 * (n / 2 ^ (i + 1))) A) (sm3 (2 * (m / 2 ^ (i + 1))) B) := by
      rw [Ec.jdbl_pt, hr]
      exact two_dbl hA hB _ _
    have cases2 : ∀ x : Nat, x % 2 = 0 ∨ x % 2 = 1 := fun x => by omega
    have jB : Ec.jpt (Ec.jadd (jin A) (jin B)) = add3 A B := by rw [Ec.jadd_pt, jin_pt, jin_pt]
    rcases cases2 (n / 2 ^ i) with bn | bn
    · rcases cases2 (m / 2 ^ i) with bm' | bm'
      · have en : n / 2 ^ i % 2 = Int.toNat 0 := bn
        have em : m / 2 ^ i % 2 = Int.toNat 0 := bm'
        have hs : Ec.jpt (Ec.jdbl r) = add3 (sm3 (n / 2 ^ i) A) (sm3 (m / 2 ^ i) B) := by
          rw [← step0 (N := 0) bn, ← step0 (N := 0) bm']
          exact (hd)
        repeat' (first | (apply St.bagX 8 [7]; exact mixed; (decide +kernel); kernel_rfl) | (apply OpsX.nil) | (apply OpsX.v; (intro X hX; change Wl [_] _ _ _ _ _ _ _; apply Wl.catX; (repeat (first | apply CatB.nil | apply CatB.cons)))) | (apply Gt.endX; exact rfl) | (apply EndX.on; exact rfl) | (apply EndX.off; exact rfl) | (apply EndX.nil'; apply Wl.catE; (repeat (first | apply CatB.nil | apply CatB.cons))) | (apply Wl.loadAH; exact rfl; exact rfl; (repeat (first | exact List.Mem.head _ | apply List.Mem.tail)); (first | exact ptC_x _ _ _ | exact ptC_y _ _ _ | exact ptC_z _ _ _ | exact poC_x _ _ _ | exact poC_y _ _ _ | exact poD_x _ | exact poD_y _ | exact LSub.whole (ptC_len _ _ _) | exact LSub.whole (poC_len _ _ _) | exact LSub.whole (poD_len _))) | (apply Wl.storeAll; exact rfl; exact rfl; (repeat (first | apply HSet.here | apply HSet.there)); (first | exact ptC_len _ _ _ | exact poC_len _ _ _ | exact poD_len _); (first | exact rfl | exact ptC_len _ _ _ | exact poC_len _ _ _ | exact poD_len _); (first | exact ptC_one _ _ _ | exact poC_one _ _ _ | exact poD_one _)) | (apply Wl.callQ (f := 67); exact rfl; (repeat (first | exact Evs.nil | apply Evs.cons rfl)); (intro wq hq; refine (gBit (show i < 256 by omega) (by with_reducible assumption) (by decide) wq).mono ?_; rintro e wr ⟨rfl, hr⟩; exact ⟨rfl, hq.keep hr⟩)) | (apply Wl.callQ (f := 66); exact rfl; (repeat (first | exact Evs.nil | apply Evs.cons rfl)); (intro wq hq; refine (curDbl _ _ _ wq (hV.hp hq (by (repeat (first | exact trivial | exact hX.off (by omega) | refine ⟨by first | assumption | omega | (simp only; omega), ?_⟩))) (by (repeat (first | exact trivial | exact hX.off (by omega) | refine ⟨by first | assumption | omega | (simp only; omega), ?_⟩))))).mono ?_; rintro e wr ⟨rfl, hr⟩; exact ⟨rfl, hq.keep hr⟩)) | (apply Wl.loadW; exact rfl; exact rfl; (repeat (first | exact List.Mem.head _ | apply List.Mem.tail)); exact rfl) | (apply Wl.mulN32; exact rfl; exact rfl; exact rfl) | (apply Wl.addN32; exact rfl; exact rfl; exact rfl) | (apply Wl.move; exact rfl; exact rfl) | (apply Wl.assign; exact rfl; exact rfl) | (apply Wl.eql; exact rfl; exact rfl; exact rfl) | (apply Wl.geq; exact rfl; exact rfl; exact rfl) | (apply Wl.subI; exact rfl; exact rfl; exact rfl; (constructor <;> omega)) | (apply Wl.nil) | (apply St.seq) | (apply St.block) | (apply St.region) | (apply St.condF; exact rfl; (first | with_reducible rfl | with_reducible assumption | decide)) | (apply St.skip) | (apply Gt.next) | (apply Gt.inNormal) | (apply Wl.splitP; exact rfl; exact rfl; all_goals (intros; try (exfalso; omega))) | (apply Wl.splitB; exact rfl; exact rfl; all_goals intros) | (apply St.condP; exact rfl; all_goals (intros; try (exfalso; omega))) | (apply St.condB; exact rfl; all_goals intros))
        apply Gt.round (i, Ec.jdbl r)
        rotate_left
        · simp only; omega
        · (repeat (first | exact Sub.nil | apply Sub.cons rfl))
        · exact fun _ h => h
        · exact ⟨by simp only; omega, hs⟩
      · have en : n / 2 ^ i % 2 = Int.toNat 0 := bn
        have em : m / 2 ^ i % 2 = Int.toNat 1 := bm'
        have hs : Ec.jpt (Ec.jadd (Ec.jdbl r) (jin B)) = add3 (sm3 (n / 2 ^ i) A) (sm3 (m / 2 ^ i) B) := by
          rw [← step0 (N := 0) bn, ← step1 (N := 0) bm']
          exact (by rw [Ec.jadd_pt, hd, jin_pt]; exact two_b hA hB _ _)
        repeat' (first | (apply St.bagX 8 [7]; exact mixed; (decide +kernel); kernel_rfl) | (apply OpsX.nil) | (apply OpsX.v; (intro X hX; change Wl [_] _ _ _ _ _ _ _; apply Wl.catX; (repeat (first | apply CatB.nil | apply CatB.cons)))) | (apply Gt.endX; exact rfl) | (apply EndX.on; exact rfl) | (apply EndX.off; exact rfl) | (apply EndX.nil'; apply Wl.catE; (repeat (first | apply CatB.nil | apply CatB.cons))) | (apply Wl.loadAH; exact rfl; exact rfl; (repeat (first | exact List.Mem.head _ | apply List.Mem.tail)); (first | exact ptC_x _ _ _ | exact ptC_y _ _ _ | exact ptC_z _ _ _ | exact poC_x _ _ _ | exact poC_y _ _ _ | exact poD_x _ | exact poD_y _ | exact LSub.whole (ptC_len _ _ _) | exact LSub.whole (poC_len _ _ _) | exact LSub.whole (poD_len _))) | (apply Wl.storeAll; exact rfl; exact rfl; (repeat (first | apply HSet.here | apply HSet.there)); (first | exact ptC_len _ _ _ | exact poC_len _ _ _ | exact poD_len _); (first | exact rfl | exact ptC_len _ _ _ | exact poC_len _ _ _ | exact poD_len _); (first | exact ptC_one _ _ _ | exact poC_one _ _ _ | exact poD_one _)) | (apply Wl.callQ (f := 67); exact rfl; (repeat (first | exact Evs.nil | apply Evs.cons rfl)); (intro wq hq; refine (gBit (show i < 256 by omega) (by with_reducible assumption) (by decide) wq).mono ?_; rintro e wr ⟨rfl, hr⟩; exact ⟨rfl, hq.keep hr⟩)) | (apply Wl.callQ (f := 66); exact rfl; (repeat (first | exact Evs.nil | apply Evs.cons rfl)); (intro wq hq; refine (curDbl _ _ _ wq (hV.hp hq (by (repeat (first | exact trivial | exact hX.off (by omega) | refine ⟨by first | assumption | omega | (simp only; omega), ?_⟩))) (by (repeat (first | exact trivial | exact hX.off (by omega) | refine ⟨by first | assumption | omega | (simp only; omega), ?_⟩))))).mono ?_; rintro e wr ⟨rfl, hr⟩; exact ⟨rfl, hq.keep hr⟩)) | (apply Wl.callQ (f := 64); exact rfl; (repeat (first | exact Evs.nil | apply Evs.cons rfl)); (intro wq hq; refine (curAdd _ _ _ _ wq (hV.hp hq (by (repeat (first | exact trivial | exact hX.off (by omega) | refine ⟨by first | assumption | omega | (simp only; omega), ?_⟩))) (by (repeat (first | exact trivial | exact hX.off (by omega) | refine ⟨by first | assumption | omega | (simp only; omega), ?_⟩))))).mono ?_; rintro e wr ⟨rfl, hr⟩; exact ⟨rfl, hq.keep hr⟩)) | (apply Wl.loadW; exact rfl; exact rfl; (repeat (first | exact List.Mem.head _ | apply List.Mem.tail)); exact rfl) | (apply Wl.mulN32; exact rfl; exact rfl; exact rfl) | (apply Wl.addN32; exact rfl; exact rfl; exact rfl) | (apply Wl.move; exact rfl; exact rfl) | (apply Wl.assign; exact rfl; exact rfl) | (apply Wl.eql; exact rfl; exact rfl; exact rfl) | (apply Wl.geq; exact rfl; exact rfl; exact rfl) | (apply Wl.subI; exact rfl; exact rfl; exact rfl; (constructor <;> omega)) | (apply Wl.nil) | (apply St.seq) | (apply St.block) | (apply St.region) | (apply St.condT; exact rfl; (first | with_reducible rfl | with_reducible assumption | decide)) | (apply St.condF; exact rfl; (first | with_reducible rfl | with_reducible assumption | decide)) | (apply St.skip) | (apply Gt.next) | (apply Gt.inNormal) | (apply Wl.splitP; exact rfl; exact rfl; all_goals (intros; try (exfalso; omega))) | (apply Wl.splitB; exact rfl; exact rfl; all_goals intros) | (apply St.condP; exact rfl; all_goals (intros; try (exfalso; omega))) | (apply St.condB; exact rfl; all_goals intros))
        apply Gt.round (i, Ec.jadd (Ec.jdbl r) (jin B))
        rotate_left
        · simp only; omega
        · (repeat (first | exact Sub.nil | apply Sub.cons rfl))
        · exact fun _ h => h
        · exact ⟨by simp only; omega, hs⟩
    · rcases cases2 (m / 2 ^ i) with bm' | bm'
      · have en : n / 2 ^ i % 2 = Int.toNat 1 := bn
        have em : m / 2 ^ i % 2 = Int.toNat 0 := bm'
        have hs : Ec.jpt (Ec.jadd (Ec.jdbl r) (jin A)) = add3 (sm3 (n / 2 ^ i) A) (sm3 (m / 2 ^ i) B) := by
          rw [← step1 (N := 0) bn, ← step0 (N := 0) bm']
          exact (by rw [Ec.jadd_pt, hd, jin_pt]; exact two_a hA hB _ _)
        repeat' (first | (apply St.bagX 8 [7]; exact mixed; (decide +kernel); kernel_rfl) | (apply OpsX.nil) | (apply OpsX.v; (intro X hX; change Wl [_] _ _ _ _ _ _ _; apply Wl.catX; (repeat (first | apply CatB.nil | apply CatB.cons)))) | (apply Gt.endX; exact rfl) | (apply EndX.on; exact rfl) | (apply EndX.off; exact rfl) | (apply EndX.nil'; apply Wl.catE; (repeat (first | apply CatB.nil | apply CatB.cons))) | (apply Wl.loadAH; exact rfl; exact rfl; (repeat (first | exact List.Mem.head _ | apply List.Mem.tail)); (first | exact ptC_x _ _ _ | exact ptC_y _ _ _ | exact ptC_z _ _ _ | exact poC_x _ _ _ | exact poC_y _ _ _ | exact poD_x _ | exact poD_y _ | exact LSub.whole (ptC_len _ _ _) | exact LSub.whole (poC_len _ _ _) | exact LSub.whole (poD_len _))) | (apply Wl.storeAll; exact rfl; exact rfl; (repeat (first | apply HSet.here | apply HSet.there)); (first | exact ptC_len _ _ _ | exact poC_len _ _ _ | exact poD_len _); (first | exact rfl | exact ptC_len _ _ _ | exact poC_len _ _ _ | exact poD_len _); (first | exact ptC_one _ _ _ | exact poC_one _ _ _ | exact poD_one _)) | (apply Wl.callQ (f := 67); exact rfl; (repeat (first | exact Evs.nil | apply Evs.cons rfl)); (intro wq hq; refine (gBit (show i < 256 by omega) (by with_reducible assumption) (by decide) wq).mono ?_; rintro e wr ⟨rfl, hr⟩; exact ⟨rfl, hq.keep hr⟩)) | (apply Wl.callQ (f := 66); exact rfl; (repeat (first | exact Evs.nil | apply Evs.cons rfl)); (intro wq hq; refine (curDbl _ _ _ wq (hV.hp hq (by (repeat (first | exact trivial | exact hX.off (by omega) | refine ⟨by first | assumption | omega | (simp only; omega), ?_⟩))) (by (repeat (first | exact trivial | exact hX.off (by omega) | refine ⟨by first | assumption | omega | (simp only; omega), ?_⟩))))).mono ?_; rintro e wr ⟨rfl, hr⟩; exact ⟨rfl, hq.keep hr⟩)) | (apply Wl.callQ (f := 64); exact rfl; (repeat (first | exact Evs.nil | apply Evs.cons rfl)); (intro wq hq; refine (curAdd _ _ _ _ wq (hV.hp hq (by (repeat (first | exact trivial | exact hX.off (by omega) | refine ⟨by first | assumption | omega | (simp only; omega), ?_⟩))) (by (repeat (first | exact trivial | exact hX.off (by omega) | refine ⟨by first | assumption | omega | (simp only; omega), ?_⟩))))).mono ?_; rintro e wr ⟨rfl, hr⟩; exact ⟨rfl, hq.keep hr⟩)) | (apply Wl.loadW; exact rfl; exact rfl; (repeat (first | exact List.Mem.head _ | apply List.Mem.tail)); exact rfl) | (apply Wl.mulN32; exact rfl; exact rfl; exact rfl) | (apply Wl.addN32; exact rfl; exact rfl; exact rfl) | (apply Wl.move; exact rfl; exact rfl) | (apply Wl.assign; exact rfl; exact rfl) | (apply Wl.eql; exact rfl; exact rfl; exact rfl) | (apply Wl.geq; exact rfl; exact rfl; exact rfl) | (apply Wl.subI; exact rfl; exact rfl; exact rfl; (constructor <;> omega)) | (apply Wl.nil) | (apply St.seq) | (apply St.block) | (apply St.region) | (apply St.condT; exact rfl; (first | with_reducible rfl | with_reducible assumption | decide)) | (apply St.skip) | (apply Gt.next) | (apply Gt.inNormal) | (apply Wl.splitP; exact rfl; exact rfl; all_goals (intros; try (exfalso; omega))) | (apply Wl.splitB; exact rfl; exact rfl; all_goals intros) | (apply St.condP; exact rfl; all_goals (intros; try (exfalso; omega))) | (apply St.condB; exact rfl; all_goals intros))
        apply Gt.round (i, Ec.jadd (Ec.jdbl r) (jin A))
        rotate_left
        · simp only; omega
        · (repeat (first | exact Sub.nil | apply Sub.cons rfl))
        · exact fun _ h => h
        · exact ⟨by simp only; omega, hs⟩
      · have en : n / 2 ^ i % 2 = Int.toNat 1 := bn
        have em : m / 2 ^ i % 2 = Int.toNat 1 := bm'
        have hs : Ec.jpt (Ec.jadd (Ec.jdbl r) (Ec.jadd (jin A) (jin B))) = add3 (sm3 (n / 2 ^ i) A) (sm3 (m / 2 ^ i) B) := by
          rw [← step1 (N := 0) bn, ← step1 (N := 0) bm']
          exact (by rw [Ec.jadd_pt, hd, jB]; exact two_ab hA hB _ _)
        repeat' (first | (apply St.bagX 8 [7]; exact mixed; (decide +kernel); kernel_rfl) | (apply OpsX.nil) | (apply OpsX.v; (intro X hX; change Wl [_] _ _ _ _ _ _ _; apply Wl.catX; (repeat (first | apply CatB.nil | apply CatB.cons)))) | (apply Gt.endX; exact rfl) | (apply EndX.on; exact rfl) | (apply EndX.off; exact rfl) | (apply EndX.nil'; apply Wl.catE; (repeat (first | apply CatB.nil | apply CatB.cons))) | (apply Wl.loadAH; exact rfl; exact rfl; (repeat (first | exact List.Mem.head _ | apply List.Mem.tail)); (first | exact ptC_x _ _ _ | exact ptC_y _ _ _ | exact ptC_z _ _ _ | exact poC_x _ _ _ | exact poC_y _ _ _ | exact poD_x _ | exact poD_y _ | exact LSub.whole (ptC_len _ _ _) | exact LSub.whole (poC_len _ _ _) | exact LSub.whole (poD_len _))) | (apply Wl.storeAll; exact rfl; exact rfl; (repeat (first | apply HSet.here | apply HSet.there)); (first | exact ptC_len _ _ _ | exact poC_len _ _ _ | exact poD_len _); (first | exact rfl | exact ptC_len _ _ _ | exact poC_len _ _ _ | exact poD_len _); (first | exact ptC_one _ _ _ | exact poC_one _ _ _ | exact poD_one _)) | (apply Wl.callQ (f := 67); exact rfl; (repeat (first | exact Evs.nil | apply Evs.cons rfl)); (intro wq hq; refine (gBit (show i < 256 by omega) (by with_reducible assumption) (by decide) wq).mono ?_; rintro e wr ⟨rfl, hr⟩; exact ⟨rfl, hq.keep hr⟩)) | (apply Wl.callQ (f := 66); exact rfl; (repeat (first | exact Evs.nil | apply Evs.cons rfl)); (intro wq hq; refine (curDbl _ _ _ wq (hV.hp hq (by (repeat (first | exact trivial | exact hX.off (by omega) | refine ⟨by first | assumption | omega | (simp only; omega), ?_⟩))) (by (repeat (first | exact trivial | exact hX.off (by omega) | refine ⟨by first | assumption | omega | (simp only; omega), ?_⟩))))).mono ?_; rintro e wr ⟨rfl, hr⟩; exact ⟨rfl, hq.keep hr⟩)) | (apply Wl.callQ (f := 64); exact rfl; (repeat (first | exact Evs.nil | apply Evs.cons rfl)); (intro wq hq; refine (curAdd _ _ _ _ wq (hV.hp hq (by (repeat (first | exact trivial | exact hX.off (by omega) | refine ⟨by first | assumption | omega | (simp only; omega), ?_⟩))) (by (repeat (first | exact trivial | exact hX.off (by omega) | refine ⟨by first | assumption | omega | (simp only; omega), ?_⟩))))).mono ?_; rintro e wr ⟨rfl, hr⟩; exact ⟨rfl, hq.keep hr⟩)) | (apply Wl.loadW; exact rfl; exact rfl; (repeat (first | exact List.Mem.head _ | apply List.Mem.tail)); exact rfl) | (apply Wl.mulN32; exact rfl; exact rfl; exact rfl) | (apply Wl.addN32; exact rfl; exact rfl; exact rfl) | (apply Wl.move; exact rfl; exact rfl) | (apply Wl.assign; exact rfl; exact rfl) | (apply Wl.eql; exact rfl; exact rfl; exact rfl) | (apply Wl.geq; exact rfl; exact rfl; exact rfl) | (apply Wl.subI; exact rfl; exact rfl; exact rfl; (constructor <;> omega)) | (apply Wl.nil) | (apply St.seq) | (apply St.block) | (apply St.region) | (apply St.condT; exact rfl; (first | with_reducible rfl | with_reducible assumption | decide)) | (apply St.condF; exact rfl; (first | with_reducible rfl | with_reducible assumption | decide)) | (apply St.skip) | (apply Gt.next) | (apply Gt.inNormal) | (apply Wl.splitP; exact rfl; exact rfl; all_goals (intros; try (exfalso; omega))) | (apply Wl.splitB; exact rfl; exact rfl; all_goals intros) | (apply St.condP; exact rfl; all_goals (intros; try (exfalso; omega))) | (apply St.condB; exact rfl; all_goals intros))
        apply Gt.round (i, Ec.jadd (Ec.jdbl r) (Ec.jadd (jin A) (jin B)))
        rotate_left
        · simp only; omega
        · (repeat (first | exact Sub.nil | apply Sub.cons rfl))
        · exact fun _ h => h
        · exact ⟨by simp only; omega, hs⟩
end Go.Proofs.YtfaobdakpbpkbaaDoor
end
section
/-
  curve: New, Mult, On; Mult, On and Add of a nil curve. Conditions: points are of the curve, numbers are below 2^256.
-/
namespace Go.Proofs.YtfaobdakpbpkbaaDoor
open Go.RowKit Go.Pt
attribute [local irreducible] Prim.P256 jin
theorem p8P : [Value.int .u32 4294967295, .int .u32 4294967295, .int .u32 4294967295, .int .u32 0, .int .u32 0, .int .u32 0, .int .u32 1, .int .u32 4294967295] = cellsN .u32 8 (dg W32 Prim.P256) := p8
theorem b8N : [Value.int .u32 668098635, .int .u32 1003371582, .int .u32 3428036854, .int .u32 1696401072, .int .u32 1989707452, .int .u32 3018571093, .int .u32 2855965671, .int .u32 1522939352] = cellsN .u32 8 (dg W32 curB.val) := b8
section
variable {md : Md} {N : Nat} {ops : Array Oper} {rest : List Oper} {Γ : Env} {C : World → Prop} {Q : Exit → Act → World → Prop} {d : Nat} {ty : TypeId} {pos : String} {af : Array Edge} {parts : Array (Nat × Operand)}
theorem Wl.buildCv {b x : Nat} (hd : Nat.blt d N = true) (hp : Parts Γ parts.toList [(0, mp b), (1, numV x)]) (h : Wl rest Tryd.prog md ops N ((d, .agg (mp b :: cellsN .u32 8 (dg W32 x)).toArray) :: Γ) C Q) :
    Wl (⟨some d, .build 106 parts, ty, pos, af, none⟩ :: rest) Tryd.prog md ops N Γ C Q := by
  refine Wl.build hd hp (fun _ => run_build_struct ?_) h
  have h2 : LPut (mp b :: cellsN .u32 8 (dg W32 0)) 1 (cellsN .u32 8 (dg W32 x)) (mp b :: cellsN .u32 8 (dg W32 x)) := by
    have := LPut.app (p := [mp b]) (l := cellsN .u32 8 (dg W32 0)) (xs := cellsN .u32 8 (dg W32 x)) (r := []) (n := 1) rfl (by rw [cellsN_len, cellsN_len])
    simpa using this
  rw [← zero8] at h2
  exact .one rfl rfl .z (.agg rfl (by rw [cellsN_len]; rfl) h2 .nil)
end
/-- a new curve -/
def NewC (w : World) (e : Ending) (w' : World) : Prop := ∃ c bm, e = .returned (mp c) ∧ w.heap.size ≤ c ∧ w.heap.size ≤ bm ∧ CurV w' c bm ∧ Hp w [] w'
set_option maxHeartbeats 4000000 in
theorem curNew (w : World) : Calls Tryd.prog 28 #[] w (NewC w) := by
  refine enter (args := []) (Γ := []) Tryd.func28 Tryd.ntmps28 rfl (of_decide_eq_true rfl) .nil ?_
  repeat' (first | (apply Wl.buildN; exact rfl; (repeat (first | exact Parts.nil | apply Parts.cons rfl)); (repeat (first | apply Fills.nil | (apply Fills.one; exact rfl; exact rfl; (repeat (first | apply LSet.z | apply LSet.s))) | (apply Fills.agg; exact rfl; exact rfl; (repeat (first | apply LPut.s | apply LPut.z | apply LOver.nil | apply LOver.cons))))); (first | exact p8P | exact b8N)) | (apply Wl.assign; exact rfl; exact rfl) | (apply Wl.nil) | (apply St.seq) | (apply St.region) | (apply Gt.next) | (apply Wl.splitP; exact rfl; exact rfl; all_goals (intros; try (exfalso; omega))) | (apply Wl.splitB; exact rfl; exact rfl; all_goals intros) | (apply St.condP; exact rfl; all_goals (intros; try (exfalso; omega))) | (apply St.condB; exact rfl; all_goals intros))
  apply Wl.callC
  · exact rfl
  · (repeat (first | exact Evs.nil | apply Evs.cons rfl))
  intro wq hq
  refine (modNew Prim.P256 pW wq).mono ?_
  rintro e wr (⟨_, _, bm, rfl, hb, hM, hr⟩ | ⟨hno, rfl, hr⟩)
  · refine ⟨_, _, rfl, hpRb (hq.keep hr), ?_⟩
    have hu : Upd (fun k => w.heap.size ≤ k) w wr := hpOn (hq.keep hr) (Upd.refl _ _) (by simp)
    have hsz := hq.upd.size
    clear hq hr
    have hlt := hM.blk
    repeat' (first | (apply Wl.buildN; exact rfl; (repeat (first | exact Parts.nil | apply Parts.cons rfl)); (repeat (first | apply Fills.nil | (apply Fills.one; exact rfl; exact rfl; (repeat (first | apply LSet.z | apply LSet.s))) | (apply Fills.agg; exact rfl; exact rfl; (repeat (first | apply LPut.s | apply LPut.z | apply LOver.nil | apply LOver.cons))))); (first | exact p8P | exact b8N)) | (apply Wl.buildCv; exact rfl; (focus ((repeat (first | exact Parts.nil | apply Parts.cons rfl)); done))) | (apply Wl.callQ (f := 25); exact rfl; (repeat (first | exact Evs.nil | apply Evs.cons rfl)); (intro wq hq; refine (fInF (hM.hp hq (by (repeat (first | exact trivial | exact hX.off (by omega) | refine ⟨by first | assumption | omega | (simp only; omega), ?_⟩)))) _).mono ?_; rintro e wr ⟨rfl, hr⟩; exact ⟨rfl, hq.keep hr⟩)) | (apply Wl.move; exact rfl; exact rfl) | (apply Wl.assign; exact rfl; exact rfl) | (apply Wl.extract; exact rfl; exact rfl; exact rfl) | (apply Wl.boxA; exact rfl; exact rfl; intro c hc ho) | (apply Wl.nil) | (apply St.seq) | (apply St.region) | (apply St.ret) | (apply Gt.next) | (apply Gt.out1; exact rfl; exact rfl; intro w' hp) | (apply Wl.splitP; exact rfl; exact rfl; all_goals (intros; try (exfalso; omega))) | (apply Wl.splitB; exact rfl; exact rfl; all_goals intros) | (apply St.condP; exact rfl; all_goals (intros; try (exfalso; omega))) | (apply St.condB; exact rfl; all_goals intros))
    have hm : (⟨c, mp bm :: cellsN .u32 8 (dg W32 (mg curB)), 106⟩ : Blk) ∈ [⟨c, mp bm :: cellsN .u32 8 (dg W32 (mg curB)), 106⟩] := .head _
    refine ⟨c, bm, rfl, by have := hu.size; omega, by omega, ⟨hp.cell hm rfl, fun j hj => ?_, hM.hp hp ⟨by simp only; omega, trivial⟩⟩, hpFin hp hu (by simp; have := hu.size; omega)⟩
    refine hp.cell hm ?_
    rw [Nat.add_comm, List.getElem?_cons_succ, cellsN_get hj]
  · exact absurd ⟨pOdd, by have := p3; omega⟩ hno
set_option maxHeartbeats 4000000 in
theorem curMult (k bm : Nat) (A : Ec.Pt) (n : Nat) (w : World) (hV : CurV w k bm) (hA : OnP A) (hn : n < W256) : Calls Tryd.prog 80 #[mp k, numV n, poV A] w fun e w' => e = .returned (poV (sm3 n A)) ∧ Hp w [] w' := by
  obtain ⟨hc, hb⟩ := hV.lt
  have hT := fun wq h => curTwo k bm A none n 0 wq h hA (by trivial) hn (by decide)
  rw [show sm3 0 none = none from rfl, show add3 (sm3 n A) none = sm3 n A from Ec.padd_zero _] at hT
  simp only [poV, poD_none] at hT
  refine enter (args := [_, _, _]) (Γ := [(0, _), (1, _), (2, _)]) Tryd.func80 Tryd.ntmps80 rfl (of_decide_eq_true rfl) (.cons rfl (.cons rfl (.cons rfl .nil))) ?_
  repeat' (first | (apply Wl.loadAH; exact rfl; exact rfl; (repeat (first | exact List.Mem.head _ | apply List.Mem.tail)); (first | exact ptC_x _ _ _ | exact ptC_y _ _ _ | exact ptC_z _ _ _ | exact poC_x _ _ _ | exact poC_y _ _ _ | exact poD_x _ | exact poD_y _ | exact LSub.whole (ptC_len _ _ _) | exact LSub.whole (poC_len _ _ _) | exact LSub.whole (poD_len _))) | (apply Wl.storeAll; exact rfl; exact rfl; (repeat (first | apply HSet.here | apply HSet.there)); (first | exact ptC_len _ _ _ | exact poC_len _ _ _ | exact poD_len _); (first | exact rfl | exact ptC_len _ _ _ | exact poC_len _ _ _ | exact poD_len _); (first | exact ptC_one _ _ _ | exact poC_one _ _ _ | exact poD_one _)) | (apply Wl.buildPn; exact rfl; (focus ((repeat (first | exact Parts.nil | apply Parts.cons rfl)); done))) | (apply Wl.callQ (f := 29); exact rfl; (repeat (first | exact Evs.nil | apply Evs.cons rfl)); (intro wq hq; refine (hT wq (hV.hp hq (by (repeat (first | exact trivial | exact hX.off (by omega) | refine ⟨by first | assumption | omega | (simp only; omega), ?_⟩))) (by (repeat (first | exact trivial | exact hX.off (by omega) | refine ⟨by first | assumption | omega | (simp only; omega), ?_⟩))))).mono ?_; rintro e wr ⟨rfl, hr⟩; exact ⟨rfl, hq.keep hr⟩)) | (apply Gt.outC'; exact rfl; infer_instance; exact rfl; (repeat (first | exact List.Mem.head _ | apply List.Mem.tail)); (first | exact LSub.whole (ptC_len _ _ _) | exact LSub.whole (poC_len _ _ _) | exact LSub.whole (poD_len _)); intro w' hp) | (apply Wl.loadW; exact rfl; exact rfl; (repeat (first | exact List.Mem.head _ | apply List.Mem.tail)); exact rfl) | (apply Wl.boxN; exact rfl; exact rfl; intro c hc ho) | (apply Wl.buildN; exact rfl; (repeat (first | exact Parts.nil | apply Parts.cons rfl)); (repeat (first | apply Fills.nil | (apply Fills.one; exact rfl; exact rfl; (repeat (first | apply LSet.z | apply LSet.s))) | (apply Fills.agg; exact rfl; exact rfl; (repeat (first | apply LPut.s | apply LPut.z | apply LOver.nil | apply LOver.cons))))); (first | exact one8 | exact zero8 | exact two8 | exact one16)) | (apply Wl.move; exact rfl; exact rfl) | (apply Wl.boxA; exact rfl; exact rfl; intro c hc ho) | (apply Wl.alloc; exact rfl; intro c hc ho) | (apply Wl.nil) | (apply St.seq) | (apply St.region) | (apply St.ret) | (apply Gt.next) | (apply Wl.splitP; exact rfl; exact rfl; all_goals (intros; try (exfalso; omega))) | (apply Wl.splitB; exact rfl; exact rfl; all_goals intros) | (apply St.condP; exact rfl; all_goals (intros; try (exfalso; omega))) | (apply St.condB; exact rfl; all_goals intros))
  exact ⟨rfl, hp.drop (by simp; omega)⟩
end Go.Proofs.YtfaobdakpbpkbaaDoor
end
section
/-
  porticoref04: P, b, NewField, Field.Inv. Conditions: the modulus is odd-like (its lowest digit is at least 2), numbers are below it.
-/
namespace Go.Pt
end Go.Pt
namespace Go.Proofs.YtfaobdakpbpkbaaDoor
open Go.RowKit Go.Pt
attribute [local irreducible] Prim.P256
section
variable {md : Md} {N : Nat} {ops : Array Oper} {rest : List Oper} {Γ : Env} {C : World → Prop} {Q : Exit → Act → World → Prop} {d : Nat} {ty : TypeId} {pos : String} {af : Array Edge} {parts : Array (Nat × Operand)}
end
end Go.Proofs.YtfaobdakpbpkbaaDoor
end
section
/-
  porticoref04.Field.Inv; the document's field told over the field of the group law; its points as values. Conditions: numbers are below the modulus.
-/
namespace Go.Proofs.YtfaobdakpbpkbaaDoor
open Go.RowKit Go.Pt
attribute [local irreducible] Prim.P256
def pwm (m x k : Nat) : Nat := x ^ k % m
attribute [irreducible] pwm
end Go.Proofs.YtfaobdakpbpkbaaDoor
end
section
/-
  The document's field told over the field of the group law; its points as values: On, Double, Plus. Conditions: numbers are below the prime.
-/
namespace Go.Proofs.YtfaobdakpbpkbaaDoor
open Go.RowKit Go.Pt
attribute [local irreducible] Prim.P256
section
variable {b : Nat} {w : World} {x y r : Ec.F}
end
theorem d16_inj {a b : Nat} (ha : a < W256) (hb : b < W256) : decide (a = b) = true ↔ ∀ j, j < 16 → dg D16 a j = dg D16 b j := by
  rw [decide_eq_true_iff]
  exact ⟨fun h j _ => by rw [h], fun h => dg_ext (B := D16) (k := 16) (by rw [← W256_eq16]; exact ha) (by rw [← W256_eq16]; exact hb) h⟩

section
variable {md : Md} {N : Nat} {ops : Array Oper} {rest : List Oper} {Γ : Env} {C : World → Prop} {Q : Exit → Act → World → Prop} {d : Nat} {ty : TypeId} {pos : String} {af : Array Edge} {parts : Array (Nat × Operand)}
end
end Go.Proofs.YtfaobdakpbpkbaaDoor
end
section
/-
  porticoref01: roots. Conditions: none.
-/
namespace Go.Proofs.YtfaobdakpbpkbaaDoor
open Go.RowKit Go.Pt
def u64s (l : List Nat) : List Value := l.map fun (x : Nat) => Value.int .u64 (x : Int)
theorem u64s_app (l m : List Nat) : u64s (l ++ m) = u64s l ++ u64s m := by unfold u64s; rw [List.map_append]
theorem pl2 : Sha.pl 2 = [] := by decide +kernel
set_option maxHeartbeats 8000000 in
theorem refRoots (n k E : Nat) (w : World) (hk : k = 2 ∨ k = 3) (hE : E ≤ 312) (h2 : 2 ≤ E) (hn : n < 1000) (hc : ∀ p, p < E → (Sha.pl p).length < n) (hl : (Sha.pl E).length = n) :
    Calls Tryd.prog 51 #[.int .i64 n, .int .i64 k] w fun e w' => ∃ v, e = .returned v ∧ w'.ownsRow w.heap.size 35 1 v n (u64s (Sha.rl E k)) ∧ Upd (fun k => w.heap.size ≤ k) w w' := by
  refine enter (args := [_, _]) (Γ := [(0, _), (1, _)]) Tryd.func51 Tryd.ntmps51 rfl (of_decide_eq_true rfl) (.cons rfl (.cons rfl .nil)) ?_
  repeat' (first | (apply Wl.assign; exact rfl; exact rfl) | (apply Wl.nil) | (apply St.seq) | (apply St.block) | (apply St.region) | (apply Gt.next) | (apply Wl.splitP; exact rfl; exact rfl; all_goals (intros; try (exfalso; omega))) | (apply Wl.splitB; exact rfl; exact rfl; all_goals intros) | (apply St.condP; exact rfl; all_goals (intros; try (exfalso; omega))) | (apply St.condB; exact rfl; all_goals intros))
  refine St.loop (σ := Nat × World × Value) (fun τ => 2 ≤ τ.1 ∧ τ.1 ≤ E ∧ Upd (fun k => w.heap.size ≤ k) w τ.2.1 ∧ τ.2.1.ownsRow w.heap.size 35 1 τ.2.2 (Sha.pl τ.1).length (u64s (Sha.rl τ.1 k)))
    (fun τ => [(0, .int .i64 n), (1, .int .i64 k), (5, τ.2.2), (6, .int .u64 τ.1)]) (fun τ => Hp τ.2.1 []) (fun τ => E - τ.1) (2, w, .slice none 0 0) ⟨by simp, h2, Upd.refl _ _, by unfold Sha.rl; simp only [pl2]; exact World.ownsRow_nil _ _ _ _⟩ (by (repeat (first | exact Sub.nil | apply Sub.cons rfl))) (fun _ h => h) ?_
  rintro ⟨p, w0, v⟩ ⟨hp2, hpE, hu, hol⟩
  simp only at hp2 hpE hu hol ⊢
  obtain ⟨a, cap, rfl⟩ : ∃ a cap, v = .slice a (Sha.pl p).length cap := by
    rcases hol.2 with ⟨rfl, h0⟩ | ⟨g, cap, cur, rfl, _⟩
    · exact ⟨none, 0, by rw [h0]⟩
    · exact ⟨_, _, rfl⟩
  generalize hL : (Sha.pl p).length = L at *
  by_cases hlt : p < E
  · have hcp := hc p hlt
    rw [hL] at hcp
    have hd : decide ((L : Int) < (n : Int)) = true := decide_eq_true (by omega)
    repeat' (first | (apply Wl.move; exact rfl; exact rfl) | (apply Wl.assign; exact rfl; exact rfl) | (apply Wl.lss; exact rfl; exact rfl; exact rfl) | (apply Wl.len; exact rfl; exact rfl) | (apply Wl.nil) | (apply St.seq) | (apply St.block) | (apply St.region) | (apply St.condT; exact rfl; (first | with_reducible rfl | with_reducible assumption | decide)) | (apply St.skip) | (apply Gt.next) | (apply Wl.splitP; exact rfl; exact rfl; all_goals (intros; try (exfalso; omega))) | (apply Wl.splitB; exact rfl; exact rfl; all_goals intros) | (apply St.condP; exact rfl; all_goals (intros; try (exfalso; omega))) | (apply St.condB; exact rfl; all_goals intros))
    refine St.loop (σ := Nat) (fun d => 2 ≤ d ∧ d ≤ 18 ∧ (d = 2 ∨ (d - 1) * (d - 1) ≤ p)) (fun d => [(0, .int .i64 n), (1, .int .i64 k), (5, .slice a L cap), (6, .int .u64 p), (7, .bool (Sha.allB p d)), (8, .int .u64 d)])
      (fun _ => Hp w0 []) (fun d => 18 - d) 2 ⟨by omega, by omega, .inl rfl⟩ (by rw [Sha.allB_2]; (repeat (first | exact Sub.nil | apply Sub.cons rfl))) (fun _ h => h) ?_
    rintro d ⟨hd2, hd18, hdp⟩
    by_cases hlq : d * d ≤ p
    · have hdd : d * d < 18446744073709551616 := by omega
      have hd17 : d ≤ 17 := by
        rcases Nat.lt_or_ge 17 d with h | h
        · have := Nat.mul_le_mul h h
          omega
        · exact h
      have hds : decide (((d * d : Nat) : Int) ≤ (p : Int)) = true := decide_eq_true (by omega)
      have hsu := Sha.allB_succ p d hd2
      have hnx : (d + 1) - 1 = d := by omega
      have hdn : ((d : Int)) ≠ 0 := by omega
      have hp313 : (p % d) < 18446744073709551616 := by have := Nat.mod_lt p (show 0 < d by omega); omega
      cases hA : Sha.allB p d with
      | false =>
        rw [hA, Bool.false_and] at hsu
        repeat' (first | (apply Wl.mulNU; exact rfl; exact rfl; exact rfl; exact hdd) | (apply Wl.move; exact rfl; exact rfl) | (apply Wl.assign; exact rfl; exact rfl) | (apply Wl.off; exact rfl; exact rfl; exact rfl; (first | with_reducible rfl | (show _ = false; with_reducible assumption) | (show _ = true; with_reducible assumption) | decide)) | (apply Wl.pickF; exact rfl; exact rfl; (first | with_reducible rfl | with_reducible assumption | decide); exact rfl) | (apply Wl.leq; exact rfl; exact rfl; exact rfl) | (apply Wl.addU; exact rfl; exact rfl; exact rfl; (constructor <;> omega)) | (apply Wl.nil) | (apply St.seq) | (apply St.block) | (apply St.region) | (apply St.condT; exact rfl; (first | with_reducible rfl | with_reducible assumption | decide)) | (apply St.skip) | (apply Gt.next) | (apply Gt.inNormal) | (apply Wl.splitP; exact rfl; exact rfl; all_goals (intros; try (exfalso; omega))) | (apply Wl.splitB; exact rfl; exact rfl; all_goals intros) | (apply St.condP; exact rfl; all_goals (intros; try (exfalso; omega))) | (apply St.condB; exact rfl; all_goals intros))
        apply Gt.round (d + 1)
        rotate_left
        · omega
        · rw [hsu]; (repeat (first | exact Sub.nil | apply Sub.cons rfl))
        · exact fun _ h => h
        · exact ⟨by omega, by omega, .inr (by rw [hnx]; exact hlq)⟩
      | true =>
        rw [hA, Bool.true_and] at hsu
        have hgt : decide (((p % d : Nat) : Int) > 0) = decide (0 < p % d) := decide_eq_decide.2 (by omega)
        repeat' (first | (apply Wl.mulNU; exact rfl; exact rfl; exact rfl; exact hdd) | (apply Wl.remN; exact rfl; exact rfl; exact rfl; (omega)) | (apply Wl.move; exact rfl; exact rfl) | (apply Wl.assign; exact rfl; exact rfl) | (apply Wl.on; exact rfl; exact rfl; (first | with_reducible rfl | with_reducible assumption | decide)) | (apply Wl.pickT; exact rfl; exact rfl; (first | with_reducible rfl | with_reducible assumption | decide); exact rfl) | (apply Wl.leq; exact rfl; exact rfl; exact rfl) | (apply Wl.gtr; exact rfl; exact rfl; exact rfl) | (apply Wl.addU; exact rfl; exact rfl; exact rfl; (constructor <;> omega)) | (apply Wl.nil) | (apply St.seq) | (apply St.block) | (apply St.region) | (apply St.condT; exact rfl; (first | with_reducible rfl | with_reducible assumption | decide)) | (apply St.skip) | (apply Gt.next) | (apply Gt.inNormal) | (apply Wl.splitP; exact rfl; exact rfl; all_goals (intros; try (exfalso; omega))) | (apply Wl.splitB; exact rfl; exact rfl; all_goals intros) | (apply St.condP; exact rfl; all_goals (intros; try (exfalso; omega))) | (apply St.condB; exact rfl; all_goals intros))
        rw [hgt, ← hsu]
        apply Gt.round (d + 1)
        rotate_left
        · omega
        · (repeat (first | exact Sub.nil | apply Sub.cons rfl))
        · exact fun _ h => h
        · exact ⟨by omega, by omega, .inr (by rw [hnx]; exact hlq)⟩
    have hfin := Sha.allB_end p (by omega) hp2 d (by omega) hd2 hdp (by omega)
    have hds : decide (((d * d : Nat) : Int) ≤ (p : Int)) = false := decide_eq_false (by omega)
    have hdd : d * d < 18446744073709551616 := by
      have := Nat.mul_le_mul hd18 hd18
      omega
    have hsu := Sha.pl_succ p
    rw [hfin]
    cases hP : Sha.isP p with
    | false =>
      rw [hP] at hsu
      repeat' (first | (apply Wl.mulNU; exact rfl; exact rfl; exact rfl; exact hdd) | (apply Wl.addW; exact rfl; exact rfl; exact rfl) | (apply Wl.move; exact rfl; exact rfl) | (apply Wl.assign; exact rfl; exact rfl) | (apply Wl.leq; exact rfl; exact rfl; exact rfl) | (apply Wl.nil) | (apply St.seq) | (apply St.region) | (apply St.condF; exact rfl; (first | with_reducible rfl | with_reducible assumption | decide)) | (apply St.skip) | (apply St.exit) | (apply Gt.next) | (apply Gt.thenExit) | (apply Gt.inNormal) | (apply Gt.inExit) | (apply Wl.splitP; exact rfl; exact rfl; all_goals (intros; try (exfalso; omega))) | (apply Wl.splitB; exact rfl; exact rfl; all_goals intros) | (apply St.condP; exact rfl; all_goals (intros; try (exfalso; omega))) | (apply St.condB; exact rfl; all_goals intros))
      have hp64 : (p + 1) % 18446744073709551616 = p + 1 := Nat.mod_eq_of_lt (by omega)
      try rw [hp64]
      apply Gt.round (p + 1, w0, .slice a L cap)
      rotate_left
      · simp only; omega
      · (repeat (first | exact Sub.nil | apply Sub.cons rfl))
      · exact fun _ h => h
      · refine ⟨by simp only; omega, by simp only; omega, hu, ?_⟩
        simp only
        unfold Sha.rl
        rw [hsu, if_neg (by decide), hL]
        exact hol
    | true =>
      rw [hP, if_pos rfl] at hsu
      repeat' (first | (apply Wl.mulNU; exact rfl; exact rfl; exact rfl; exact hdd) | (apply Wl.move; exact rfl; exact rfl) | (apply Wl.leq; exact rfl; exact rfl; exact rfl) | (apply Wl.nil) | (apply St.seq) | (apply St.region) | (apply St.condT; exact rfl; (first | with_reducible rfl | with_reducible assumption | decide)) | (apply St.condF; exact rfl; (first | with_reducible rfl | with_reducible assumption | decide)) | (apply St.exit) | (apply Gt.next) | (apply Gt.thenExit) | (apply Gt.inExit) | (apply Wl.splitP; exact rfl; exact rfl; all_goals (intros; try (exfalso; omega))) | (apply Wl.splitB; exact rfl; exact rfl; all_goals intros) | (apply St.condP; exact rfl; all_goals (intros; try (exfalso; omega))) | (apply St.condB; exact rfl; all_goals intros))
      apply Wl.callQ
      exact rfl
      (repeat (first | exact Evs.nil | apply Evs.cons rfl))
      · intro wq hq
        refine (refRoot p k wq hk).mono ?_
        rintro e wr ⟨rfl, hr⟩
        exact ⟨rfl, hq.keep hr⟩
      repeat' (first | (apply Wl.lit; exact rfl; (repeat (first | exact Parts.nil | apply Parts.cons rfl)); exact rfl; exact rfl; (repeat (first | apply CatP.nil | (apply CatP.one; exact rfl; exact rfl) | (apply CatP.agg; exact rfl) | apply LApp.nil | apply LApp.cons)); intro c hc ho) | (apply Wl.splitP; exact rfl; exact rfl; all_goals (intros; try (exfalso; omega))) | (apply Wl.splitB; exact rfl; exact rfl; all_goals intros) | (apply St.condP; exact rfl; all_goals (intros; try (exfalso; omega))) | (apply St.condB; exact rfl; all_goals intros))
      apply Wl.appendT
      · exact rfl
      · exact rfl
      · exact rfl
      · exact hc
      · exact rfl
      · exact hol
      · exact fun k hk => trivial
      · exact rfl
      · exact rfl
      · decide
      · unfold maxLen; omega
      · omega
      · exact hu.size
      intro v' w1 ho1 u1 _ hoff1
      have hu1 : Upd (fun k => w.heap.size ≤ k) w w1 := hu.comp u1 fun k hk hs => hs.elim id fun hs => hs.elim (fun e => (hol.lt k e).1) fun y => (y trivial).elim
      repeat' (first | (apply Wl.addW; exact rfl; exact rfl; exact rfl) | (apply Wl.move; exact rfl; exact rfl) | (apply Wl.assign; exact rfl; exact rfl) | (apply Wl.nil) | (apply St.region) | (apply Gt.next) | (apply Gt.inNormal) | (apply Wl.splitP; exact rfl; exact rfl; all_goals (intros; try (exfalso; omega))) | (apply Wl.splitB; exact rfl; exact rfl; all_goals intros) | (apply St.condP; exact rfl; all_goals (intros; try (exfalso; omega))) | (apply St.condB; exact rfl; all_goals intros))
      have hp64 : (p + 1) % 18446744073709551616 = p + 1 := Nat.mod_eq_of_lt (by omega)
      try rw [hp64]
      apply Gt.round (p + 1, w1, v')
      rotate_left
      · simp only; omega
      · (repeat (first | exact Sub.nil | apply Sub.cons rfl))
      · exact fun _ h => h
      · refine ⟨by simp only; omega, by simp only; omega, hu1, ?_⟩
        simp only
        have e1 : u64s (Sha.rl (p + 1) k) = u64s (Sha.rl p k) ++ [Value.int .u64 (Sha.root p k : Nat)] := by
          unfold Sha.rl
          rw [hsu, List.map_append, u64s_app]
          rfl
        rw [e1, hsu, List.length_append, hL]
        exact ho1
  have hpe : p = E := by omega
  subst hpe
  have hLn : L = n := by omega
  subst hLn
  have hd : decide ((L : Int) < (L : Int)) = false := decide_eq_false (by omega)
  repeat' (first | (apply Wl.move; exact rfl; exact rfl) | (apply Wl.assign; exact rfl; exact rfl) | (apply Wl.lss; exact rfl; exact rfl; exact rfl) | (apply Wl.len; exact rfl; exact rfl) | (apply Wl.nil) | (apply St.seq) | (apply St.region) | (apply St.condF; exact rfl; (first | with_reducible rfl | with_reducible assumption | decide)) | (apply St.ret) | (apply St.exit) | (apply Gt.next) | (apply Gt.thenExit) | (apply Gt.inExit) | (apply Gt.out1; exact rfl; exact rfl; intro w' hp) | (apply Wl.splitP; exact rfl; exact rfl; all_goals (intros; try (exfalso; omega))) | (apply Wl.splitB; exact rfl; exact rfl; all_goals intros) | (apply St.condP; exact rfl; all_goals (intros; try (exfalso; omega))) | (apply St.condB; exact rfl; all_goals intros))
  exact ⟨_, rfl, ownsRow_upd hol hp.upd (fun k _ y => y trivial), hu.comp hp.upd fun k _ hs => hs.elim id fun y => (y trivial).elim⟩
end Go.Proofs.YtfaobdakpbpkbaaDoor
end
section
/-
  Numbers of 32 bytes, the highest first: limbs.Read, limbs.Bytes; porticoref05.Num, below. Conditions: none.
-/
namespace Sha
open Go.Pt
/-- the number of 32 bytes, the highest first -/
def rdN (p : Nat → Nat) : Nat := ((((((word p 0 * 4294967296 + word p 1) * 4294967296 + word p 2) * 4294967296 + word p 3) * 4294967296 + word p 4) * 4294967296 + word p 5) * 4294967296 + word p 6) * 4294967296 + word p 7
end Sha
namespace Go.Proofs.YtfaobdakpbpkbaaDoor
open Go.RowKit Go.Pt
open Sha (rdN word word_lt byteAt byteAt_lt)
theorem rdN_lt {p : Nat → Nat} (hp : ∀ j, p j < 256) : rdN p < W256 := by
  have w0 := word_lt hp 0
  have w1 := word_lt hp 1
  have w2 := word_lt hp 2
  have w3 := word_lt hp 3
  have w4 := word_lt hp 4
  have w5 := word_lt hp 5
  have w6 := word_lt hp 6
  have w7 := word_lt hp 7
  unfold rdN
  show _ < 115792089237316195423570985008687907853269984665640564039457584007913129639936
  omega
theorem dg_rd {p : Nat → Nat} (hp : ∀ j, p j < 256) : ∀ j, j < 8 → dg W32 (rdN p) j = word p (7 - j) := by
  have w0 := word_lt hp 0
  have w1 := word_lt hp 1
  have w2 := word_lt hp 2
  have w3 := word_lt hp 3
  have w4 := word_lt hp 4
  have w5 := word_lt hp 5
  have w6 := word_lt hp 6
  have w7 := word_lt hp 7
  intro j hj
  unfold dg hi rdN
  match j, hj with
  | 0, _ => show _ / 1 % 4294967296 = word p 7; omega
  | 1, _ => show _ / 4294967296 % 4294967296 = word p 6; omega
  | 2, _ => show _ / 18446744073709551616 % 4294967296 = word p 5; omega
  | 3, _ => show _ / 79228162514264337593543950336 % 4294967296 = word p 4; omega
  | 4, _ => show _ / 340282366920938463463374607431768211456 % 4294967296 = word p 3; omega
  | 5, _ => show _ / 1461501637330902918203684832716283019655932542976 % 4294967296 = word p 2; omega
  | 6, _ => show _ / 6277101735386680763835789423207666416102355444464034512896 % 4294967296 = word p 1; omega
  | 7, _ => show _ / 26959946667150639794667015087019630673637144422540572481103610249216 % 4294967296 = word p 0; omega
theorem dg16_32 (N j : Nat) : dg D16 N (2 * j) = dg W32 N j % 65536 ∧ dg D16 N (2 * j + 1) = dg W32 N j / 65536 := by
  unfold dg hi
  have e : (D16 : Nat) ^ (2 * j) = W32 ^ j := by rw [Nat.pow_mul]; rfl
  have e2 : (D16 : Nat) ^ (2 * j + 1) = W32 ^ j * 65536 := by rw [Nat.pow_succ, e]
  rw [e, e2, ← Nat.div_div_eq_div_mul]
  show _ % 65536 = _ % 4294967296 % 65536 ∧ _ / 65536 % 65536 = _ % 4294967296 / 65536
  omega
theorem dg_rd16 {p : Nat → Nat} (hp : ∀ j, p j < 256) {j : Nat} (hj : j < 16) : dg D16 (rdN p) j = p (30 - 2 * j) * 256 + p (31 - 2 * j) := by
  obtain ⟨q, hq⟩ : ∃ q, j = 2 * q ∨ j = 2 * q + 1 := ⟨j / 2, by omega⟩
  obtain ⟨h0, h1⟩ := dg16_32 (rdN p) q
  have hw := dg_rd hp q (by omega)
  have a0 := hp (4 * (7 - q))
  have a1 := hp (4 * (7 - q) + 1)
  have a2 := hp (4 * (7 - q) + 2)
  have a3 := hp (4 * (7 - q) + 3)
  have ew : word p (7 - q) = ((p (4 * (7 - q)) * 256 + p (4 * (7 - q) + 1)) * 256 + p (4 * (7 - q) + 2)) * 256 + p (4 * (7 - q) + 3) := rfl
  rw [ew] at hw
  rcases hq with rfl | rfl
  · rw [h0, hw, show 30 - 2 * (2 * q) = 4 * (7 - q) + 2 by omega, show 31 - 2 * (2 * q) = 4 * (7 - q) + 3 by omega]
    omega
  · rw [h1, hw, show 30 - 2 * (2 * q + 1) = 4 * (7 - q) by omega, show 31 - 2 * (2 * q + 1) = 4 * (7 - q) + 1 by omega]
    omega
abbrev rdL (l : List UInt8) : Nat := rdN (byteAt l)
theorem rdL_lt (l : List UInt8) : rdL l < W256 := rdN_lt (byteAt_lt l)
set_option maxHeartbeats 4000000 in
theorem limbRead (v : Value) (l : List UInt8) (w : World) (hv : Bs w v l) (hl : l.length = 32) : Calls Tryd.prog 19 #[v] w fun e w' => e = .returned (.tuple #[numV (rdL l), .int .i64 0]) ∧ Hp w [] w' := by
  obtain ⟨a, cap, rfl, hlc, hm⟩ := hv.shape
  unfold maxLen at hm
  obtain ⟨ab, off, rfl, hcell⟩ := hv.cells (fun e => by subst e; simp at hl)
  rw [hl]
  refine enter (args := [_]) (Γ := [(0, _)]) Tryd.func19 Tryd.ntmps19 rfl (of_decide_eq_true rfl) (.cons rfl .nil) ?_
  repeat' (first | (apply Wl.allocN; exact rfl; (first | exact z8 | exact z16 | exact z17 | exact z33 | exact z10); intro c hc ho) | (apply Wl.move; exact rfl; exact rfl) | (apply Wl.assign; exact rfl; exact rfl) | (apply Wl.neq; exact rfl; exact rfl; exact rfl) | (apply Wl.len; exact rfl; exact rfl) | (apply Wl.nil) | (apply St.seq) | (apply St.block) | (apply St.region) | (apply St.condF; exact rfl; (first | with_reducible rfl | with_reducible assumption | decide)) | (apply St.skip) | (apply Gt.next) | (apply Wl.splitP; exact rfl; exact rfl; all_goals (intros; try (exfalso; omega))) | (apply Wl.splitB; exact rfl; exact rfl; all_goals intros) | (apply St.condP; exact rfl; all_goals (intros; try (exfalso; omega))) | (apply St.condB; exact rfl; all_goals intros))
  have hp := byteAt_lt l
  rename_i cr hcr hor
  refine St.loop (σ := Nat) (fun i => i ≤ 32) (fun i => [(2, mp cr), (3, .int .i64 0), (4, mp c), (11, .slice (some ⟨ab, off, none⟩) 32 cap), (12, .int .i64 32), (13, .int .i64 i)])
    (fun i => Hp w [⟨c, cellsN .u32 8 (fun j => Sha.ldw (byteAt l) i (7 - j)), 30⟩, ⟨cr, cellsN .u32 8 fun _ => 0, 30⟩]) (fun i => 32 - i) 0 (by omega) (by (repeat (first | exact Sub.nil | apply Sub.cons rfl))) (fun _ h => h) ?_
  intro i hi
  by_cases hlt : i < 32
  · have hci : w.cell? ⟨ab, off + (i : Int).toNat, none⟩ = some (.int .u8 ((byteAt l i : Nat) : Int)) := by
      rw [Int.toNat_natCast, Sha.byteAt_get (by omega)]; exact hcell i (by omega)
    have hal := World.block_lt_of_cell? w _ hci
    simp only at hal
    have n1 : c ≠ ab := by omega
    have n2 : cr ≠ ab := by omega
    have hb := hp i
    have hb2 : (byteAt l i : Int) ≤ 255 := by omega
    have hi7 : 7 - i / 4 < 8 := by omega
    have hnx : ∀ j, j < 8 → updN (fun j => Sha.ldw (byteAt l) i (7 - j)) (7 - i / 4) (Sha.O (Sha.ldw (byteAt l) i (7 - (7 - i / 4)) * 2 ^ 8 % 4294967296) (byteAt l i)) j = Sha.ldw (byteAt l) (i + 1) (7 - j) := fun j hj => by
      show _ = updN (Sha.ldw (byteAt l) i) (i / 4) _ (7 - j)
      unfold updN
      rw [show 7 - (7 - i / 4) = i / 4 by omega]
      by_cases h : j = 7 - i / 4
      · rw [if_pos h, if_pos (by omega)]
      · rw [if_neg h, if_neg (by omega)]
    repeat' (first | (apply Wl.indexAddr1; exact rfl; exact rfl; exact rfl; (constructor <;> omega)) | (apply Wl.quoN (n := 4); exact rfl; exact rfl; exact rfl; (decide); exact IntWalk.i64_in _ (by omega)) | (apply Wl.subR 7; exact rfl; exact rfl; exact rfl; exact rfl; (omega); (omega)) | (apply Wl.shlP 8; exact rfl; exact rfl; exact rfl; exact rfl; (decide)) | (apply Wl.orN32; exact rfl; exact rfl; exact rfl) | (apply Wl.indexA; exact rfl; exact rfl; exact rfl; (omega)) | (apply Wl.loadN; exact rfl; exact rfl; (repeat (first | exact List.Mem.head _ | apply List.Mem.tail)); (omega)) | (apply Wl.storeN; exact rfl; exact rfl; (repeat (first | apply HSet.here | apply HSet.there)); (omega)) | (apply Wl.move; exact rfl; exact rfl) | (apply Wl.assign; exact rfl; exact rfl) | (apply Wl.loadO; exact rfl; exact rfl; (assumption); (repeat (first | exact trivial | refine ⟨by first | assumption | omega, ?_⟩))) | (apply Wl.lss; exact rfl; exact rfl; exact rfl) | (apply Wl.addI; exact rfl; exact rfl; exact rfl; (constructor <;> omega)) | (apply Wl.convU32; exact rfl; exact rfl; (constructor <;> omega)) | (apply Wl.nil) | (apply St.seq) | (apply St.block) | (apply St.region) | (apply St.skip) | (apply Gt.next) | (apply Gt.inNormal) | (apply Wl.splitP; exact rfl; exact rfl; all_goals (intros; try (exfalso; omega))) | (apply Wl.splitB; exact rfl; exact rfl; all_goals intros) | (apply St.condP; exact rfl; all_goals (intros; try (exfalso; omega))) | (apply St.condB; exact rfl; all_goals intros))
    apply Gt.round (i + 1)
    rotate_left
    · omega
    · (repeat (first | exact Sub.nil | apply Sub.cons rfl))
    · exact fun _ h => by rw [cellsN_congr hnx] at h; exact h
    · omega
  have hi32 : i = 32 := by omega
  subst hi32
  have hfin : cellsN .u32 8 (fun j => Sha.ldw (byteAt l) 32 (7 - j)) = cellsN .u32 8 (dg W32 (rdL l)) := cellsN_congr fun j hj => by
    rw [Sha.ldw_eq hp, if_pos (by omega), dg_rd hp j hj]
  rw [hfin]
  repeat' (first | (apply Wl.loadW; exact rfl; exact rfl; (repeat (first | exact List.Mem.head _ | apply List.Mem.tail)); exact rfl) | (apply Wl.storeW; exact rfl; exact rfl; (repeat (first | apply HSet.here | apply HSet.there)); exact rfl; (first | exact cellsN_len _ _ _ | exact rfl)) | (apply Wl.assign; exact rfl; exact rfl) | (apply Wl.lss; exact rfl; exact rfl; exact rfl) | (apply Wl.nil) | (apply St.seq) | (apply St.region) | (apply St.condF; exact rfl; (first | with_reducible rfl | with_reducible assumption | decide)) | (apply St.ret) | (apply St.exit) | (apply Gt.next) | (apply Gt.thenExit) | (apply Gt.inExit) | (apply Wl.splitP; exact rfl; exact rfl; all_goals (intros; try (exfalso; omega))) | (apply Wl.splitB; exact rfl; exact rfl; all_goals intros) | (apply St.condP; exact rfl; all_goals (intros; try (exfalso; omega))) | (apply St.condB; exact rfl; all_goals intros))
  apply Gt.outCT
  · exact rfl
  · infer_instance
  · exact rfl
  · exact rfl
  · (repeat (first | exact List.Mem.head _ | apply List.Mem.tail))
  · exact LSub.whole (cellsN_len _ _ _)
  intro w' hp
  exact ⟨rfl, hp.drop (by simp; omega)⟩
end Go.Proofs.YtfaobdakpbpkbaaDoor
end
section
/-
  The contracts of package bytes' cursor: what each method returns and what becomes of the cursor.
-/
namespace Go.Proofs.YtfaobdakpbpkbaaDoor
open Go.RowKit Go.Pt
end Go.Proofs.YtfaobdakpbpkbaaDoor
end
section
/-
  The contracts of the reference's cursor, and of the ranges of addresses in both texts.
-/
namespace Go.Proofs.YtfaobdakpbpkbaaDoor
open Go.RowKit Go.Pt
end Go.Proofs.YtfaobdakpbpkbaaDoor
end
section
/-
  The contracts of the functions that append bytes: P16, P32, Put, Join.
-/
namespace Go.Proofs.YtfaobdakpbpkbaaDoor
open Go.RowKit Go.Pt

/-- v is a buffer of the call's own (its block from base on) that holds the bytes l -/
def Bo (w : World) (base : Nat) (v : Value) (l : List UInt8) : Prop := w.ownsRow base 5 1 v l.length (byteCells l)
theorem Bo.nil (w : World) (base : Nat) : Bo w base (.slice none 0 0) [] := World.ownsRow_nil w base 5 1
theorem Bo.bs {w : World} {base : Nat} {v : Value} {l : List UInt8} (h : Bo w base v l) : Bs w v l := Sv.ofOwn h
theorem Bo.shape {w : World} {base : Nat} {v : Value} {l : List UInt8} (h : Bo w base v l) : ∃ a cap, v = .slice a l.length cap ∧ l.length ≤ cap ∧ cap ≤ maxLen := h.bs.shape
theorem Bo.base {w : World} {base : Nat} {v : Value} {l : List UInt8} (h : Bo w base v l) {k : Nat} (hk : v.ownBlock = some k) : base ≤ k := (h.lt k hk).1
theorem Bo.upd {S : Nat → Prop} {w w' : World} {base : Nat} {v : Value} {l : List UInt8} (h : Bo w base v l) (u : Upd S w w') (hs : ∀ k, v.ownBlock = some k → ¬ S k) : Bo w' base v l := ownsRow_upd h u hs
theorem Bo.of {w : World} {base : Nat} {v : Value} {l m : List UInt8} {n : Nat} {cs : List Value} (h : w.ownsRow base 5 1 v n (byteCells l ++ cs)) (hn : n = l.length + m.length) (hc : cs = byteCells m) : Bo w base v (l ++ m) := by
  unfold Bo
  subst hc
  rw [List.length_append, ← hn]
  simpa [byteCells] using h
theorem byteCells_all (l : List UInt8) : (byteCells l).all Value.oneCell' = true := by
  rw [List.all_eq_true]
  intro x hx
  simp only [byteCells, List.mem_map] at hx
  obtain ⟨c, _, rfl⟩ := hx
  rfl
/-- integers of a kind, as a slice of them reads -/
def Is (k : IntKind) (w : World) (v : Value) (l : List Int) : Prop := Sv w 1 l.length v (l.map (Value.int k))
end Go.Proofs.YtfaobdakpbpkbaaDoor
end
section
/-
  porticoref05.Bytes. Conditions: numbers are below 2^256.
-/
namespace Go.Proofs.YtfaobdakpbpkbaaDoor
open Go.RowKit Go.Pt
open Sha (rdN word byteAt byteAt_lt)
/-- byte i of a number, the highest first -/
def beAt (n i : Nat) : Nat := dg D16 n ((31 - i) / 2) / 2 ^ (8 * ((31 - i) % 2)) % 256
def beL (n : Nat) : List UInt8 := (List.range 32).map fun i => UInt8.ofNat (beAt n i)
theorem beL_len (n : Nat) : (beL n).length = 32 := by simp [beL]
theorem beL_at (n : Nat) {i : Nat} (h : i < 32) : byteAt (beL n) i = beAt n i := by
  rw [Sha.byteAt_get (by rw [beL_len]; exact h)]
  simp [beL, beAt]
theorem rd_beL {n : Nat} (hn : n < W256) : rdL (beL n) = n := by
  have h : ∀ j, j < 16 → dg D16 (rdL (beL n)) j = dg D16 n j := fun j hj => by
    rw [dg_rd16 (byteAt_lt _) hj, beL_at n (by omega), beL_at n (by omega)]
    unfold beAt
    rw [show (31 - (30 - 2 * j)) / 2 = j by omega, show (31 - (31 - 2 * j)) / 2 = j by omega, show (31 - (30 - 2 * j)) % 2 = 1 by omega, show (31 - (31 - 2 * j)) % 2 = 0 by omega]
    have := dlt16 n j
    omega
  have := (d16_inj (rdL_lt (beL n)) hn).2 h
  exact of_decide_eq_true this
end Go.Proofs.YtfaobdakpbpkbaaDoor
end
section
/-
  Multiples of a point of P-256, computed by the kernel: a ladder over naturals whose steps force their values. Conditions: none.
-/
namespace Go.Proofs.YtfaobdakpbpkbaaDoor
attribute [local irreducible] Prim.P256 jin
/-- a value is reckoned before it is used -/
def fr {β : Type} (n : Nat) (k : Nat → β) : β := match n with
  | 0 => k 0
  | m + 1 => k (m + 1)
theorem fr_eq {β : Type} (n : Nat) (k : Nat → β) : fr n k = k n := by cases n <;> rfl
theorem nF_add (a b : Nat) : nF (a + b) = nF a + nF b := Fin.ext (by rw [nF_val, Fin.val_add, nF_val, nF_val, ← Nat.add_mod])
theorem nF_mul (a b : Nat) : nF (a * b) = nF a * nF b := Fin.ext (by rw [nF_val, Fin.val_mul, nF_val, nF_val, ← Nat.mul_mod])
theorem nF_mod (a : Nat) : nF (a % Prim.P256) = nF a := Fin.ext (by rw [nF_val, nF_val, Nat.mod_mod])
theorem nF_p : nF Prim.P256 = 0 := Fin.ext (by rw [nF_val, Nat.mod_self, val_zero])
theorem nF_sub {a b : Nat} (h : b ≤ a) : nF (a - b) = nF a - nF b := by
  have := nF_add (a - b) b
  rw [Nat.sub_add_cancel h] at this
  rw [this]
  generalize nF b = y
  generalize nF (a - b) = x
  grobner
theorem to_val {e : Nat} {x : Ec.F} (h : nF e = x) : e % Prim.P256 = x.val := by rw [← h, nF_val]
section
variable {β : Type}
def dblN (p x y z : Nat) (k : Nat → Nat → Nat → β) : β := bif Nat.beq z 0 then k x y z else
  fr (y * y % p) fun yy => fr (x * yy * 4 % p) fun s => fr (z * z % p) fun zz => fr ((x + (p - zz)) * (x + zz) * 3 % p) fun m => fr ((m * m + (p - (s + s) % p)) % p) fun x' =>
  fr (yy * yy * 8 % p) fun e => fr ((m * (s + (p - x')) + (p - e)) % p) fun y' => fr (2 * (y * z) % p) fun z' => k x' y' z'
def addN (p x y z xa ya : Nat) (k : Nat → Nat → Nat → β) : β := bif Nat.beq z 0 then k xa ya 1 else
  fr (z * z % p) fun az => fr ((xa * az + (p - x)) % p) fun h => fr ((ya * (az * z) + (p - y)) % p) fun r =>
  bif Nat.beq h 0 then (bif Nat.beq r 0 then dblN p x y z k else k 1 1 0) else
  fr (h * h % p) fun hh => fr (hh * h % p) fun hhh => fr (x * hh % p) fun w => fr ((r * r + (p - hhh) + (p - (w + w) % p)) % p) fun x' =>
  fr ((r * (w + (p - x')) + (p - y * hhh % p)) % p) fun y' => fr (h * z % p) fun z' => k x' y' z'
def lad (p n xa ya : Nat) : Nat → Nat → Nat → Nat → (Nat → Nat → Nat → β) → β
  | 0, x, y, z, k => k x y z
  | i + 1, x, y, z, k => dblN p x y z fun x y z => bif Nat.beq (n / 2 ^ i % 2) 1 then addN p x y z xa ya fun x y z => lad p n xa ya i x y z k else lad p n xa ya i x y z k
abbrev app3 (k : Nat → Nat → Nat → β) (r : Ec.F × Ec.F × Ec.F) : β := k r.1.val r.2.1.val r.2.2.val
theorem beqZ (z : Ec.F) : Nat.beq z.val 0 = decide (z = 0) := by
  by_cases h : z = 0
  · rw [decide_eq_true h, h, val_zero]; rfl
  · rw [decide_eq_false h]
    cases e : Nat.beq z.val 0
    · rfl
    · exact absurd (Fin.ext (by rw [val_zero]; exact Nat.eq_of_beq_eq_true e)) h
theorem dblN_eq (x y z : Ec.F) (k : Nat → Nat → Nat → β) : dblN Prim.P256 x.val y.val z.val k = app3 k (Ec.jdbl (x, y, z)) := by
  unfold dblN
  rw [beqZ]
  by_cases hz : z = 0
  · rw [decide_eq_true hz, jdbl_zero hz]; rfl
  · rw [decide_eq_false hz, jdbl_nz hz]
    simp only [cond_false, fr_eq]
    have l : ∀ u : Ec.F, u.val ≤ Prim.P256 := fun u => Nat.le_of_lt u.isLt
    have l2 : ∀ e, e % Prim.P256 ≤ Prim.P256 := fun e => Nat.le_of_lt (Nat.mod_lt _ (by have := p3; omega))
    have h1 := to_val (e := y.val * y.val) (x := y * y) (by rw [nF_mul, nF_of])
    rw [h1]
    have h2 := to_val (e := x.val * (y * y).val * 4) (x := x * (y * y) + x * (y * y) + (x * (y * y) + x * (y * y))) (by rw [nF_mul, nF_mul, nF_of, nF_of, show nF 4 = 4 from rfl]; grobner)
    rw [h2]
    generalize x * (y * y) + x * (y * y) + (x * (y * y) + x * (y * y)) = s
    have h3 := to_val (e := z.val * z.val) (x := z * z) (by rw [nF_mul, nF_of])
    rw [h3]
    have h4 := to_val (e := (x.val + (Prim.P256 - (z * z).val)) * (x.val + (z * z).val) * 3) (x := (x - z * z) * (x + z * z) + (x - z * z) * (x + z * z) + (x - z * z) * (x + z * z)) (by rw [nF_mul, nF_mul, nF_add, nF_add, nF_sub (l _), nF_of, nF_of, nF_p, show nF 3 = 3 from rfl]; grobner)
    rw [h4]
    generalize (x - z * z) * (x + z * z) + (x - z * z) * (x + z * z) + (x - z * z) * (x + z * z) = m
    have h5 := to_val (e := m.val * m.val + (Prim.P256 - (s.val + s.val) % Prim.P256)) (x := m * m - (s + s)) (by rw [nF_add, nF_mul, nF_sub (l2 _), nF_mod, nF_add, nF_of, nF_of, nF_p]; grobner)
    rw [h5]
    generalize m * m - (s + s) = x'
    have h6 := to_val (e := (y * y).val * (y * y).val * 8) (x := y * y * (y * y) + y * y * (y * y) + (y * y * (y * y) + y * y * (y * y)) + (y * y * (y * y) + y * y * (y * y) + (y * y * (y * y) + y * y * (y * y)))) (by rw [nF_mul, nF_mul, nF_of, show nF 8 = 8 from rfl]; grobner)
    rw [h6]
    generalize y * y * (y * y) + y * y * (y * y) + (y * y * (y * y) + y * y * (y * y)) + (y * y * (y * y) + y * y * (y * y) + (y * y * (y * y) + y * y * (y * y))) = e
    have h7 := to_val (e := m.val * (s.val + (Prim.P256 - x'.val)) + (Prim.P256 - e.val)) (x := m * (s - x') - e) (by rw [nF_add, nF_mul, nF_add, nF_sub (l _), nF_sub (l _), nF_of, nF_of, nF_of, nF_of, nF_p]; grobner)
    rw [h7]
    have h8 := to_val (e := 2 * (y.val * z.val)) (x := y * z + y * z) (by rw [nF_mul, nF_mul, nF_of, nF_of, show nF 2 = 2 from rfl]; grobner)
    rw [h8]
theorem addN_eq (x y z xa ya : Ec.F) (k : Nat → Nat → Nat → β) : addN Prim.P256 x.val y.val z.val xa.val ya.val k = app3 k (Ec.jadd (x, y, z) (xa, ya, 1)) := by
  have h10 : ¬ (1 : Ec.F) = 0 := fun e => Ec.two_ne (by grobner)
  unfold addN
  rw [beqZ]
  by_cases hz : z = 0
  · rw [decide_eq_true hz]
    unfold Ec.jadd
    rw [if_pos hz]
    show k _ _ _ = k _ _ _
    rw [val_one]
  · rw [decide_eq_false hz]
    unfold Ec.jadd
    rw [if_neg hz, if_neg h10]
    simp only [cond_false, fr_eq]
    have l : ∀ u : Ec.F, u.val ≤ Prim.P256 := fun u => Nat.le_of_lt u.isLt
    have l2 : ∀ e, e % Prim.P256 ≤ Prim.P256 := fun e => Nat.le_of_lt (Nat.mod_lt _ (by have := p3; omega))
    have h1 := to_val (e := z.val * z.val) (x := z * z) (by rw [nF_mul, nF_of])
    rw [h1]
    have h2 := to_val (e := xa.val * (z * z).val + (Prim.P256 - x.val)) (x := xa * (z * z) - x * (1 * 1)) (by rw [nF_add, nF_mul, nF_sub (l _), nF_of, nF_of, nF_of, nF_p]; grobner)
    rw [h2]
    have h3 := to_val (e := ya.val * ((z * z).val * z.val) + (Prim.P256 - y.val)) (x := ya * (z * z * z) - y * (1 * 1 * 1)) (by rw [nF_add, nF_mul, nF_mul, nF_sub (l _), nF_of, nF_of, nF_of, nF_of, nF_p]; grobner)
    rw [h3]
    generalize xa * (z * z) - x * (1 * 1) = h
    generalize ya * (z * z * z) - y * (1 * 1 * 1) = r
    rw [beqZ, beqZ]
    by_cases hh : h = 0
    · rw [decide_eq_true hh, if_pos hh]
      simp only [cond_true]
      by_cases hr : r = 0
      · rw [decide_eq_true hr, if_pos hr]
        exact dblN_eq x y z k
      · rw [decide_eq_false hr, if_neg hr]
        show k _ _ _ = k _ _ _
        rw [val_one, val_zero]
    · rw [decide_eq_false hh, if_neg hh]
      simp only [cond_false]
      have h4 := to_val (e := h.val * h.val) (x := h * h) (by rw [nF_mul, nF_of])
      rw [h4]
      have h5 := to_val (e := (h * h).val * h.val) (x := h * h * h) (by rw [nF_mul, nF_of, nF_of])
      rw [h5]
      have h6 := to_val (e := x.val * (h * h).val) (x := x * (1 * 1) * (h * h)) (by rw [nF_mul, nF_of, nF_of]; grobner)
      rw [h6]
      generalize x * (1 * 1) * (h * h) = w
      have h7 := to_val (e := r.val * r.val + (Prim.P256 - (h * h * h).val) + (Prim.P256 - (w.val + w.val) % Prim.P256)) (x := r * r - h * h * h - (w + w)) (by rw [nF_add, nF_add, nF_mul, nF_sub (l _), nF_sub (l2 _), nF_mod, nF_add, nF_of, nF_of, nF_of, nF_p]; grobner)
      rw [h7]
      generalize r * r - h * h * h - (w + w) = x'
      have h8 := to_val (e := r.val * (w.val + (Prim.P256 - x'.val)) + (Prim.P256 - y.val * (h * h * h).val % Prim.P256)) (x := r * (w - x') - y * (1 * 1 * 1) * (h * h * h)) (by rw [nF_add, nF_mul, nF_add, nF_sub (l _), nF_sub (l2 _), nF_mod, nF_mul, nF_of, nF_of, nF_of, nF_of, nF_of, nF_p]; grobner)
      rw [h8]
      have h9 := to_val (e := h.val * z.val) (x := h * (z * 1)) (by rw [nF_mul, nF_of, nF_of]; grobner)
      rw [h9]
def ladF (n : Nat) (xa ya : Ec.F) : Nat → Ec.F × Ec.F × Ec.F → Ec.F × Ec.F × Ec.F
  | 0, r => r
  | i + 1, r => ladF n xa ya i (if n / 2 ^ i % 2 = 1 then Ec.jadd (Ec.jdbl r) (xa, ya, 1) else Ec.jdbl r)
theorem lad_eq (n : Nat) (xa ya : Ec.F) (k : Nat → Nat → Nat → β) : ∀ (i : Nat) (r : Ec.F × Ec.F × Ec.F), lad Prim.P256 n xa.val ya.val i r.1.val r.2.1.val r.2.2.val k = app3 k (ladF n xa ya i r)
  | 0, r => rfl
  | i + 1, (x, y, z) => by
    rw [lad, dblN_eq, ladF]
    generalize Ec.jdbl (x, y, z) = d
    obtain ⟨x', y', z'⟩ := d
    simp only [app3]
    by_cases hb : n / 2 ^ i % 2 = 1
    · rw [if_pos hb, hb]
      simp only [Nat.beq_refl, cond_true]
      rw [addN_eq]
      exact lad_eq n xa ya k i _
    · have : Nat.beq (n / 2 ^ i % 2) 1 = false := by
        cases e : Nat.beq (n / 2 ^ i % 2) 1
        · rfl
        · exact absurd (Nat.eq_of_beq_eq_true e) hb
      rw [if_neg hb, this]
      simp only [cond_false]
      exact lad_eq n xa ya k i (x', y', z')
end
theorem ladF_pt {n : Nat} {xa ya : Ec.F} (hA : OnP (some (xa, ya))) : ∀ (i : Nat) (r : Ec.F × Ec.F × Ec.F), Ec.jpt r = sm3 (n / 2 ^ i) (some (xa, ya)) → Ec.jpt (ladF n xa ya i r) = sm3 n (some (xa, ya))
  | 0, r, h => by rw [ladF, h, Nat.pow_zero, Nat.div_one]
  | i + 1, r, h => by
    rw [ladF]
    have hd : Ec.jpt (Ec.jdbl r) = sm3 (2 * (n / 2 ^ (i + 1))) (some (xa, ya)) := by
      rw [Ec.jdbl_pt, h]
      exact (Ec.sm_two disc3 hA _).symm
    by_cases hb : n / 2 ^ i % 2 = 1
    · rw [if_pos hb]
      refine ladF_pt hA i _ ?_
      rw [Ec.jadd_pt, hd, show Ec.jpt (xa, ya, 1) = some (xa, ya) from jin_pt (some (xa, ya)) ▸ (by rw [show jin (some (xa, ya)) = (xa, ya, 1) from by unfold jin; rfl]), ← step1 (N := 0) hb]
      rfl
    · rw [if_neg hb]
      refine ladF_pt hA i _ ?_
      rw [hd, step0 (N := 0) (by omega)]
theorem lad_pt {n : Nat} {xa ya : Ec.F} (hn : n < W256) (hA : OnP (some (xa, ya))) : Ec.jpt (ladF n xa ya 256 (1, 1, 0)) = sm3 n (some (xa, ya)) := by
  refine ladF_pt hA 256 _ ?_
  rw [Nat.div_eq_of_lt (by rw [show (2 : Nat) ^ 256 = W256 by decide]; exact hn)]
  exact Ec.jac_zero _ _
/-- a multiple is nothing -/
theorem sm_none_of {n : Nat} {xa ya : Ec.F} (hn : n < W256) (hA : OnP (some (xa, ya))) (h : lad Prim.P256 n xa.val ya.val 256 1 1 0 (fun _ _ z => Nat.beq z 0) = true) : sm3 n (some (xa, ya)) = none := by
  have := lad_eq n xa ya (fun _ _ z => Nat.beq z 0) 256 (1, 1, 0)
  simp only [val_one, val_zero] at this
  rw [this] at h
  rw [← lad_pt hn hA]
  generalize ladF n xa ya 256 (1, 1, 0) = r at *
  obtain ⟨x, y, z⟩ := r
  simp only [app3, beqZ, decide_eq_true_eq] at h
  subst h
  exact Ec.jac_zero _ _
/-- a multiple is this point -/
theorem sm_some_of {n X Y : Nat} {xa ya : Ec.F} (hn : n < W256) (hA : OnP (some (xa, ya))) (h : lad Prim.P256 n xa.val ya.val 256 1 1 0 (fun x y z => !(Nat.beq z 0) && (Nat.beq (X * (z * z) % Prim.P256) x && Nat.beq (Y * (z * z * z) % Prim.P256) y)) = true) : sm3 n (some (xa, ya)) = some (nF X, nF Y) := by
  have := lad_eq n xa ya (fun x y z => !(Nat.beq z 0) && (Nat.beq (X * (z * z) % Prim.P256) x && Nat.beq (Y * (z * z * z) % Prim.P256) y)) 256 (1, 1, 0)
  simp only [val_one, val_zero] at this
  rw [this] at h
  rw [← lad_pt hn hA]
  generalize ladF n xa ya 256 (1, 1, 0) = r at *
  obtain ⟨x, y, z⟩ := r
  simp only [app3, beqZ, Bool.and_eq_true, Bool.not_eq_true', decide_eq_false_iff_not] at h
  obtain ⟨hz, hx, hy⟩ := h
  have ex : x = nF X * (z * z) := Fin.ext (by rw [← Nat.eq_of_beq_eq_true hx]; exact to_val (by rw [nF_mul, nF_mul, nF_of]))
  have ey : y = nF Y * (z * z * z) := Fin.ext (by rw [← Nat.eq_of_beq_eq_true hy]; exact to_val (by rw [nF_mul, nF_mul, nF_mul, nF_of]))
  subst ex ey
  exact Ec.jac_of hz
end Go.Proofs.YtfaobdakpbpkbaaDoor
end
section
/-
  The order times the base of P-256 is nothing (computed by the kernel); what follows from it for multiples. Conditions: none.
-/
namespace Go.Proofs.YtfaobdakpbpkbaaDoor
theorem nW : Prim.N256 < W256 := by decide +kernel
theorem lad_N : lad Prim.P256 Prim.N256 curG.1.val curG.2.val 256 1 1 0 (fun _ _ z => Nat.beq z 0) = true := by decide +kernel
theorem ordG : sm3 Prim.N256 (some curG) = none := sm_none_of nW onG lad_N
theorem n_odd : Prim.N256 % 2 = 1 := by decide +kernel
end Go.Proofs.YtfaobdakpbpkbaaDoor
end
section
/-
  The document's Base, Times, Plain; porticolaw04.pt, like. Conditions: points are of the curve, numbers are below 2^256.
-/
namespace Go.Pt
open Go.RowKit
end Go.Pt
namespace Go.Proofs.YtfaobdakpbpkbaaDoor
open Go.RowKit Go.Pt
attribute [local irreducible] Prim.P256
end Go.Proofs.YtfaobdakpbpkbaaDoor
end
section
/-
  curve.Curve.On; porticolaw04.pt, like. Conditions: numbers are below 2^256.
-/
namespace Go.Proofs.YtfaobdakpbpkbaaDoor
open Go.RowKit Go.Pt
attribute [local irreducible] Prim.P256
theorem gCmp {a b : Nat} {k : Int} (ha : a < W256) (hb : b < W256) (e : cmpN a b = k) (w : World) : Calls Tryd.prog 56 #[numV a, numV b] w fun e w' => e = .returned (.int .i64 k) ∧ Hp w [] w' := e ▸ limbCompare a b ha hb w
theorem cmp_lt {a b : Nat} (h : a < b) : cmpN a b = -1 := if_pos h
theorem cmp_ge {a b : Nat} (h : ¬ a < b) : 0 ≤ cmpN a b := by unfold cmpN; rw [if_neg h]; split <;> decide
theorem eq8F (x y : Ec.F) : decide (x = y) = true ↔ ∀ j, j < 8 → dg W32 (mg x) j = dg W32 (mg y) j := by
  rw [← d8_inj (mg_W x) (mg_W y), decide_eq_true_iff, decide_eq_true_iff]
  exact ⟨fun h => by rw [h], fun h => mg_inj h⟩
/-- a point of the curve, by its numbers -/
def onB (X Y : Nat) : Bool := decide (X < Prim.P256) && (decide (Y < Prim.P256) && decide (nF Y * nF Y = nF X * nF X * nF X - (nF X + nF X + nF X) + curB))
theorem gIn {b : Nat} {w : World} (h : ModV w b Prim.P256) {a : Nat} {r : Ec.F} (ha : a < W256) (e : r = nF a) : Calls Tryd.prog 25 #[mp b, numV a] w fun e w' => e = .returned (numV (mg r)) ∧ Hp w [] w' := e ▸ fIn h ha
set_option maxHeartbeats 16000000 in
theorem curOnC (k bm X Y : Nat) (n : Bool) (w : World) (hV : CurV w k bm) (hX : X < W256) (hY : Y < W256) : Calls Tryd.prog 44 #[mp k, .agg (poC X Y n).toArray] w fun e w' => e = .returned (.bool (!n && onB X Y)) ∧ Hp w [] w' := by
  obtain ⟨hc, hb⟩ := hV.lt
  have hM := fun wq h => modModulus bm Prim.P256 wq h
  refine enter (args := [_, _]) (Γ := [(0, _), (1, _)]) Tryd.func44 Tryd.ntmps44 rfl (of_decide_eq_true rfl) (.cons rfl (.cons rfl .nil)) ?_
  unfold onB
  cases n with
  | true =>
    repeat' (first | (apply St.bagX 28 [27]; exact mixed; (decide +kernel); kernel_rfl) | (apply OpsX.nil) | (apply OpsX.v; (intro X hX; change Wl [_] _ _ _ _ _ _ _; apply Wl.catX; (repeat (first | apply CatB.nil | apply CatB.cons)))) | (apply Gt.endX; exact rfl) | (apply EndX.on; exact rfl) | (apply EndX.off; exact rfl) | (apply EndX.nil'; apply Wl.catE; (repeat (first | apply CatB.nil | apply CatB.cons))) | (apply Wl.loadH; exact rfl; exact rfl; (repeat (first | exact List.Mem.head _ | apply List.Mem.tail)); (first | exact poC_n _ _ _ | exact poD_n _)) | (apply Wl.move; exact rfl; exact rfl) | (apply Wl.assign; exact rfl; exact rfl) | (apply Wl.on; exact rfl; exact rfl; (first | with_reducible rfl | with_reducible assumption | decide)) | (apply Wl.off; exact rfl; exact rfl; exact rfl; (first | with_reducible rfl | (show _ = false; with_reducible assumption) | (show _ = true; with_reducible assumption) | decide)) | (apply Wl.pickT; exact rfl; exact rfl; (first | with_reducible rfl | with_reducible assumption | decide); exact rfl) | (apply Wl.pickF; exact rfl; exact rfl; (first | with_reducible rfl | with_reducible assumption | decide); exact rfl) | (apply Wl.fieldAddrZ; exact rfl; exact rfl) | (apply Wl.eqlPN; exact rfl; exact rfl; exact rfl) | (apply Wl.boxA; exact rfl; exact rfl; intro c hc ho) | (apply Wl.nil) | (apply St.seq) | (apply St.region) | (apply St.condT; exact rfl; (first | with_reducible rfl | with_reducible assumption | decide)) | (apply St.ret) | (apply Gt.next) | (apply Gt.thenRet) | (apply Gt.out1; exact rfl; exact rfl; intro w' hp) | (apply Wl.splitP; exact rfl; exact rfl; all_goals (intros; try (exfalso; omega))) | (apply Wl.splitB; exact rfl; exact rfl; all_goals intros) | (apply St.condP; exact rfl; all_goals (intros; try (exfalso; omega))) | (apply St.condB; exact rfl; all_goals intros))
    exact ⟨rfl, hp.drop (by simp; omega)⟩
  | false =>
    by_cases hx : X < Prim.P256
    · have cx := cmp_lt hx
      have dx : decide (X < Prim.P256) = true := decide_eq_true hx
      rw [dx]
      by_cases hy : Y < Prim.P256
      · have cy := cmp_lt hy
        have dy : decide (Y < Prim.P256) = true := decide_eq_true hy
        rw [dy]
        obtain ⟨x, h_x⟩ : ∃ q_ : Ec.F, q_ = nF X := ⟨_, rfl⟩
        obtain ⟨y, h_y⟩ : ∃ q_ : Ec.F, q_ = nF Y := ⟨_, rfl⟩
        obtain ⟨x2, h_x2⟩ : ∃ q_ : Ec.F, q_ = x + x := ⟨_, rfl⟩
        obtain ⟨x3, h_x3⟩ : ∃ q_ : Ec.F, q_ = x2 + x := ⟨_, rfl⟩
        obtain ⟨xx, h_xx⟩ : ∃ q_ : Ec.F, q_ = x * x := ⟨_, rfl⟩
        obtain ⟨xxx, h_xxx⟩ : ∃ q_ : Ec.F, q_ = xx * x := ⟨_, rfl⟩
        obtain ⟨df, h_df⟩ : ∃ q_ : Ec.F, q_ = xxx - x3 := ⟨_, rfl⟩
        obtain ⟨rr, h_rr⟩ : ∃ q_ : Ec.F, q_ = df + curB := ⟨_, rfl⟩
        obtain ⟨yy, h_yy⟩ : ∃ q_ : Ec.F, q_ = y * y := ⟨_, rfl⟩
        rw [← h_x, ← h_y, ← h_x2, ← h_x3, ← h_xx, ← h_xxx, ← h_df, ← h_rr, ← h_yy]
        repeat' (first | (apply St.bagX 28 [27]; exact mixed; (decide +kernel); kernel_rfl) | (apply St.bagX 16 []; exact mixed; (decide +kernel); kernel_rfl) | (apply St.bagX 14 []; exact mixed; (decide +kernel); kernel_rfl) | (apply St.bagX 29 []; exact mixed; (decide +kernel); kernel_rfl) | (apply St.bagXc 10 [9]; exact mixed; (decide +kernel); (repeat (first | apply CleanX.nil | (apply CleanX.skip; exact rfl) | (apply CleanX.keep; exact rfl))); kernel_rfl) | (apply OpsX.nil) | (apply OpsX.b; exact rfl) | (apply OpsX.v; (intro X hX; change Wl [_] _ _ _ _ _ _ _; apply Wl.catX; (repeat (first | apply CatB.nil | apply CatB.cons)))) | (apply Gt.endX; exact rfl) | (apply EndX.new; intro c hc ho) | (apply EndX.on; exact rfl) | (apply EndX.off; exact rfl) | (apply EndX.nil'; apply Wl.catE; (repeat (first | apply CatB.nil | apply CatB.cons))) | (apply Wl.loadM; exact rfl; exact rfl; exact hV.b; (repeat (first | exact trivial | exact hX.off (by omega) | refine ⟨by first | assumption | omega | (simp only; omega), ?_⟩)); exact rfl) | (apply Wl.loadO; exact rfl; exact rfl; exact hV.mod; (repeat (first | exact trivial | exact hX.off (by omega) | refine ⟨by first | assumption | omega | (simp only; omega), ?_⟩))) | (apply Wl.loadAH; exact rfl; exact rfl; (repeat (first | exact List.Mem.head _ | apply List.Mem.tail)); (first | exact ptC_x _ _ _ | exact ptC_y _ _ _ | exact ptC_z _ _ _ | exact poC_x _ _ _ | exact poC_y _ _ _ | exact poD_x _ | exact poD_y _ | exact LSub.whole (ptC_len _ _ _) | exact LSub.whole (poC_len _ _ _) | exact LSub.whole (poD_len _))) | (apply Wl.loadH; exact rfl; exact rfl; (repeat (first | exact List.Mem.head _ | apply List.Mem.tail)); (first | exact poC_n _ _ _ | exact poD_n _)) | (apply Wl.callQ (f := 59); exact rfl; (repeat (first | exact Evs.nil | apply Evs.cons rfl)); (intro wq hq; refine (hM wq (hV.val.hp hq (by (repeat (first | exact trivial | exact hX.off (by omega) | refine ⟨by first | assumption | omega | (simp only; omega), ?_⟩))))).mono ?_; rintro e wr ⟨rfl, hr⟩; exact ⟨rfl, hq.keep hr⟩)) | (apply Wl.callQ (f := 56); exact rfl; (repeat (first | exact Evs.nil | apply Evs.cons rfl)); (intro wq hq; refine (gCmp (by assumption) pW (by with_reducible assumption) wq).mono ?_; rintro e wr ⟨rfl, hr⟩; exact ⟨rfl, hq.keep hr⟩)) | (apply Wl.callQ (f := 25); exact rfl; (repeat (first | exact Evs.nil | apply Evs.cons rfl)); (intro wq hq; refine (gIn (hV.val.hp hq (by (repeat (first | exact trivial | exact hX.off (by omega) | refine ⟨by first | assumption | omega | (simp only; omega), ?_⟩)))) (by assumption) (by with_reducible assumption)).mono ?_; rintro e wr ⟨rfl, hr⟩; exact ⟨rfl, hq.keep hr⟩)) | (apply Wl.callQ (f := 27); exact rfl; (repeat (first | exact Evs.nil | apply Evs.cons rfl)); (intro wq hq; refine (gTimes (hV.val.hp hq (by (repeat (first | exact trivial | exact hX.off (by omega) | refine ⟨by first | assumption | omega | (simp only; omega), ?_⟩)))) (by with_reducible assumption)).mono ?_; rintro e wr ⟨rfl, hr⟩; exact ⟨rfl, hq.keep hr⟩)) | (apply Wl.callQ (f := 57); exact rfl; (repeat (first | exact Evs.nil | apply Evs.cons rfl)); (intro wq hq; refine (gAdd (hV.val.hp hq (by (repeat (first | exact trivial | exact hX.off (by omega) | refine ⟨by first | assumption | omega | (simp only; omega), ?_⟩)))) (by with_reducible assumption)).mono ?_; rintro e wr ⟨rfl, hr⟩; exact ⟨rfl, hq.keep hr⟩)) | (apply Wl.callQ (f := 77); exact rfl; (repeat (first | exact Evs.nil | apply Evs.cons rfl)); (intro wq hq; refine (gSub (hV.val.hp hq (by (repeat (first | exact trivial | exact hX.off (by omega) | refine ⟨by first | assumption | omega | (simp only; omega), ?_⟩)))) (by with_reducible assumption)).mono ?_; rintro e wr ⟨rfl, hr⟩; exact ⟨rfl, hq.keep hr⟩)) | (apply Wl.eqlA; exact rfl; exact rfl; exact rfl; kernel_rfl; kernel_rfl; kernel_rfl; kernel_rfl; exact cell32 _ (dlt _); exact cell32 _ (dlt _); exact eq8F _ _) | (apply Wl.loadW; exact rfl; exact rfl; (repeat (first | exact List.Mem.head _ | apply List.Mem.tail)); exact rfl) | (apply Wl.storeW; exact rfl; exact rfl; (repeat (first | apply HSet.here | apply HSet.there)); exact rfl; (first | exact cellsN_len _ _ _ | exact rfl)) | (apply Wl.move; exact rfl; exact rfl) | (apply Wl.assign; exact rfl; exact rfl) | (apply Wl.on; exact rfl; exact rfl; (first | with_reducible rfl | with_reducible assumption | decide)) | (apply Wl.nilCheck; exact rfl; exact rfl) | (apply Wl.pickF; exact rfl; exact rfl; (first | with_reducible rfl | with_reducible assumption | decide); exact rfl) | (apply Wl.fieldAddr0; exact rfl; exact rfl) | (apply Wl.fieldAddrZ; exact rfl; exact rfl) | (apply Wl.eqlPN; exact rfl; exact rfl; exact rfl) | (apply Wl.geq; exact rfl; exact rfl; exact rfl) | (apply Wl.boxA; exact rfl; exact rfl; intro c hc ho) | (apply Wl.nil) | (apply St.seq) | (apply St.region) | (apply St.condF; exact rfl; (first | with_reducible rfl | with_reducible assumption | decide)) | (apply St.ret) | (apply St.skip) | (apply Gt.next) | (apply Gt.out1; exact rfl; exact rfl; intro w' hp) | (apply Wl.splitP; exact rfl; exact rfl; all_goals (intros; try (exfalso; omega))) | (apply Wl.splitB; exact rfl; exact rfl; all_goals intros) | (apply St.condP; exact rfl; all_goals (intros; try (exfalso; omega))) | (apply St.condB; exact rfl; all_goals intros))
        exact ⟨rfl, hp.drop (by simp; omega)⟩
      · have dy : decide (Y < Prim.P256) = false := decide_eq_false hy
        rw [dy]
        obtain ⟨q, cy⟩ : ∃ q, cmpN Y Prim.P256 = q := ⟨_, rfl⟩
        have hq0 : 0 ≤ q := cy ▸ cmp_ge hy
        have dq : decide (0 ≤ q) = true := decide_eq_true hq0
        repeat' (first | (apply St.bagX 28 [27]; exact mixed; (decide +kernel); kernel_rfl) | (apply OpsX.nil) | (apply OpsX.v; (intro X hX; change Wl [_] _ _ _ _ _ _ _; apply Wl.catX; (repeat (first | apply CatB.nil | apply CatB.cons)))) | (apply Gt.endX; exact rfl) | (apply EndX.on; exact rfl) | (apply EndX.off; exact rfl) | (apply EndX.nil'; apply Wl.catE; (repeat (first | apply CatB.nil | apply CatB.cons))) | (apply Wl.loadO; exact rfl; exact rfl; exact hV.mod; (repeat (first | exact trivial | exact hX.off (by omega) | refine ⟨by first | assumption | omega | (simp only; omega), ?_⟩))) | (apply Wl.loadAH; exact rfl; exact rfl; (repeat (first | exact List.Mem.head _ | apply List.Mem.tail)); (first | exact ptC_x _ _ _ | exact ptC_y _ _ _ | exact ptC_z _ _ _ | exact poC_x _ _ _ | exact poC_y _ _ _ | exact poD_x _ | exact poD_y _ | exact LSub.whole (ptC_len _ _ _) | exact LSub.whole (poC_len _ _ _) | exact LSub.whole (poD_len _))) | (apply Wl.loadH; exact rfl; exact rfl; (repeat (first | exact List.Mem.head _ | apply List.Mem.tail)); (first | exact poC_n _ _ _ | exact poD_n _)) | (apply Wl.callQ (f := 59); exact rfl; (repeat (first | exact Evs.nil | apply Evs.cons rfl)); (intro wq hq; refine (hM wq (hV.val.hp hq (by (repeat (first | exact trivial | exact hX.off (by omega) | refine ⟨by first | assumption | omega | (simp only; omega), ?_⟩))))).mono ?_; rintro e wr ⟨rfl, hr⟩; exact ⟨rfl, hq.keep hr⟩)) | (apply Wl.callQ (f := 56); exact rfl; (repeat (first | exact Evs.nil | apply Evs.cons rfl)); (intro wq hq; refine (gCmp (by assumption) pW (by with_reducible assumption) wq).mono ?_; rintro e wr ⟨rfl, hr⟩; exact ⟨rfl, hq.keep hr⟩)) | (apply Wl.move; exact rfl; exact rfl) | (apply Wl.assign; exact rfl; exact rfl) | (apply Wl.on; exact rfl; exact rfl; (first | with_reducible rfl | with_reducible assumption | decide)) | (apply Wl.nilCheck; exact rfl; exact rfl) | (apply Wl.pickF; exact rfl; exact rfl; (first | with_reducible rfl | with_reducible assumption | decide); exact rfl) | (apply Wl.fieldAddr0; exact rfl; exact rfl) | (apply Wl.fieldAddrZ; exact rfl; exact rfl) | (apply Wl.eqlPN; exact rfl; exact rfl; exact rfl) | (apply Wl.geq; exact rfl; exact rfl; exact rfl) | (apply Wl.boxA; exact rfl; exact rfl; intro c hc ho) | (apply Wl.nil) | (apply St.seq) | (apply St.region) | (apply St.condT; exact rfl; (first | with_reducible rfl | with_reducible assumption | decide)) | (apply St.ret) | (apply Gt.next) | (apply Gt.thenRet) | (apply Gt.out1; exact rfl; exact rfl; intro w' hp) | (apply Wl.splitP; exact rfl; exact rfl; all_goals (intros; try (exfalso; omega))) | (apply Wl.splitB; exact rfl; exact rfl; all_goals intros) | (apply St.condP; exact rfl; all_goals (intros; try (exfalso; omega))) | (apply St.condB; exact rfl; all_goals intros))
        exact ⟨rfl, hp.drop (by simp; omega)⟩
    · have dx : decide (X < Prim.P256) = false := decide_eq_false hx
      rw [dx]
      obtain ⟨q, cx⟩ : ∃ q, cmpN X Prim.P256 = q := ⟨_, rfl⟩
      have hq0 : 0 ≤ q := cx ▸ cmp_ge hx
      have dq : decide (0 ≤ q) = true := decide_eq_true hq0
      repeat' (first | (apply St.bagX 28 [27]; exact mixed; (decide +kernel); kernel_rfl) | (apply OpsX.nil) | (apply OpsX.v; (intro X hX; change Wl [_] _ _ _ _ _ _ _; apply Wl.catX; (repeat (first | apply CatB.nil | apply CatB.cons)))) | (apply Gt.endX; exact rfl) | (apply EndX.on; exact rfl) | (apply EndX.off; exact rfl) | (apply EndX.nil'; apply Wl.catE; (repeat (first | apply CatB.nil | apply CatB.cons))) | (apply Wl.loadO; exact rfl; exact rfl; exact hV.mod; (repeat (first | exact trivial | exact hX.off (by omega) | refine ⟨by first | assumption | omega | (simp only; omega), ?_⟩))) | (apply Wl.loadAH; exact rfl; exact rfl; (repeat (first | exact List.Mem.head _ | apply List.Mem.tail)); (first | exact ptC_x _ _ _ | exact ptC_y _ _ _ | exact ptC_z _ _ _ | exact poC_x _ _ _ | exact poC_y _ _ _ | exact poD_x _ | exact poD_y _ | exact LSub.whole (ptC_len _ _ _) | exact LSub.whole (poC_len _ _ _) | exact LSub.whole (poD_len _))) | (apply Wl.loadH; exact rfl; exact rfl; (repeat (first | exact List.Mem.head _ | apply List.Mem.tail)); (first | exact poC_n _ _ _ | exact poD_n _)) | (apply Wl.callQ (f := 59); exact rfl; (repeat (first | exact Evs.nil | apply Evs.cons rfl)); (intro wq hq; refine (hM wq (hV.val.hp hq (by (repeat (first | exact trivial | exact hX.off (by omega) | refine ⟨by first | assumption | omega | (simp only; omega), ?_⟩))))).mono ?_; rintro e wr ⟨rfl, hr⟩; exact ⟨rfl, hq.keep hr⟩)) | (apply Wl.callQ (f := 56); exact rfl; (repeat (first | exact Evs.nil | apply Evs.cons rfl)); (intro wq hq; refine (gCmp (by assumption) pW (by with_reducible assumption) wq).mono ?_; rintro e wr ⟨rfl, hr⟩; exact ⟨rfl, hq.keep hr⟩)) | (apply Wl.move; exact rfl; exact rfl) | (apply Wl.assign; exact rfl; exact rfl) | (apply Wl.on; exact rfl; exact rfl; (first | with_reducible rfl | with_reducible assumption | decide)) | (apply Wl.off; exact rfl; exact rfl; exact rfl; (first | with_reducible rfl | (show _ = false; with_reducible assumption) | (show _ = true; with_reducible assumption) | decide)) | (apply Wl.nilCheck; exact rfl; exact rfl) | (apply Wl.pickT; exact rfl; exact rfl; (first | with_reducible rfl | with_reducible assumption | decide); exact rfl) | (apply Wl.pickF; exact rfl; exact rfl; (first | with_reducible rfl | with_reducible assumption | decide); exact rfl) | (apply Wl.fieldAddr0; exact rfl; exact rfl) | (apply Wl.fieldAddrZ; exact rfl; exact rfl) | (apply Wl.eqlPN; exact rfl; exact rfl; exact rfl) | (apply Wl.geq; exact rfl; exact rfl; exact rfl) | (apply Wl.boxA; exact rfl; exact rfl; intro c hc ho) | (apply Wl.nil) | (apply St.seq) | (apply St.region) | (apply St.condT; exact rfl; (first | with_reducible rfl | with_reducible assumption | decide)) | (apply St.ret) | (apply Gt.next) | (apply Gt.thenRet) | (apply Gt.out1; exact rfl; exact rfl; intro w' hp) | (apply Wl.splitP; exact rfl; exact rfl; all_goals (intros; try (exfalso; omega))) | (apply Wl.splitB; exact rfl; exact rfl; all_goals intros) | (apply St.condP; exact rfl; all_goals (intros; try (exfalso; omega))) | (apply St.condB; exact rfl; all_goals intros))
      exact ⟨rfl, hp.drop (by simp; omega)⟩
end Go.Proofs.YtfaobdakpbpkbaaDoor
end
section
/-
  Points compared; porticolaw04.pt, like. Conditions: points are of the curve.
-/
namespace Go.Pt
open Go.RowKit
section
variable {P : Program} {md : Md} {N : Nat} {ops : Array Oper} {rest : List Oper} {Γ : Env} {C : World → Prop} {Q : Exit → Act → World → Prop} {d : Nat} {ty : TypeId} {pos : String} {af : Array Edge} {t u : TypeId} {x y : Operand}
end
end Go.Pt
namespace Go.Proofs.YtfaobdakpbpkbaaDoor
open Go.RowKit Go.Pt
attribute [local irreducible] Prim.P256
end Go.Proofs.YtfaobdakpbpkbaaDoor
end
section
/-
  sign.Key, porticoref05.Key. Conditions: none.
-/
namespace Go.Pt
open Go.RowKit
theorem hpTr {w0 w1 w2 : World} {H : List Blk} (h1 : Hp w0 H w1) (h2 : Hp w1 H w2) : Hp w0 H w2 := ⟨h1.upd.trans h2.upd, h2.own, h2.apart⟩
theorem bsNew {w wq : World} {v : Value} {l : List UInt8} {H : List Blk} (h : Bs w v l) (hq : Hp w H wq) (hH : ∀ x ∈ H, w.heap.size ≤ x.b) : Bs wq v l :=
  h.upd hq.upd fun k _ hlt _ hS => hS (Off.of fun x hx e => by have := hH x hx; omega)
section
variable {P : Program} {md : Md} {N : Nat} {ops : Array Oper} {rest : List Oper} {Γ : Env} {C : World → Prop} {Q : Exit → Act → World → Prop} {d : Nat} {ty : TypeId} {pos : String} {af : Array Edge}
/-- a piece of a slice from its beginning on, named -/
theorem Wl.sliceTo {t e by_ : TypeId} [ht : TyD P t (.slice e)] [TyS P e 1 by_] {x hi : Operand} {a0 : Option Addr} {n c : Nat} {k : IntKind} {j : Int} {S : Value} (h' : Nat) (hd : Nat.blt d N = true) (hx : ev Γ x = some (.slice a0 n c)) (hhi : ev Γ hi = some (.int k j)) (hj : j = (h' : Int)) (h2 : h' ≤ c) (e : S = .slice a0 h' c)
    (h : Wl rest P md ops N ((d, S) :: Γ) C Q) : Wl (⟨some d, .slice t x none (some hi) none, ty, pos, af, none⟩ :: rest) P md ops N Γ C Q := by
  subst e hj
  exact Wl.slice0 hd hx (.yes hhi (by omega)) .no (fun h => nomatch h) (by omega) (Nat.le_refl _) (by rw [Int.toNat_natCast]; exact h)
/-- a piece of a slice up to its end, named -/
theorem Wl.sliceFrom {t e by_ : TypeId} [ht : TyD P t (.slice e)] [TyS P e 1 by_] {x lo : Operand} {b off n c : Nat} {k : IntKind} {j : Int} {S : Value} (l : Nat) (hd : Nat.blt d N = true) (hx : ev Γ x = some (.slice (some ⟨b, off, none⟩) n c)) (hlo : ev Γ lo = some (.int k j)) (hj : j = (l : Int)) (h1 : l < n) (h2 : n ≤ c) (e : S = .slice (some ⟨b, off + l, none⟩) (n - l) (c - l))
    (h : Wl rest P md ops N ((d, S) :: Γ) C Q) : Wl (⟨some d, .slice t x (some lo) none none, ty, pos, af, none⟩ :: rest) P md ops N Γ C Q := by
  subst e hj
  exact Wl.sliceFull (l := ((l : Int)).toNat) hd hx (.yes hlo (by omega)) .no .no (fun h => nomatch h) (by omega) h2 (Nat.le_refl _) (by
    rw [Int.toNat_natCast, if_neg (by omega), Nat.mul_one]
    simp only [Option.map_some, addLit]
    exact h)
end
end Go.Pt
namespace Go.Proofs.YtfaobdakpbpkbaaDoor
open Go.RowKit Go.Pt
attribute [local irreducible] Prim.P256 Prim.N256
theorem zPo : (Value.agg #[.int .u32 0, .int .u32 0, .int .u32 0, .int .u32 0, .int .u32 0, .int .u32 0, .int .u32 0, .int .u32 0, .int .u32 0, .int .u32 0, .int .u32 0, .int .u32 0, .int .u32 0, .int .u32 0, .int .u32 0, .int .u32 0, .bool false]).cells.toList = poC 0 0 false := by rw [← po_zero]; rfl
section
variable {md : Md} {N : Nat} {ops : Array Oper} {rest : List Oper} {Γ : Env} {C : World → Prop} {Q : Exit → Act → World → Prop} {d : Nat} {ty : TypeId} {pos : String} {af : Array Edge} {parts : Array (Nat × Operand)}
theorem Wl.buildPz (hd : Nat.blt d N = true) (hp : Parts Γ parts.toList []) (h : Wl rest Tryd.prog md ops N ((d, .agg (poC 0 0 false).toArray) :: Γ) C Q) :
    Wl (⟨some d, .build 32 parts, ty, pos, af, none⟩ :: rest) Tryd.prog md ops N Γ C Q := by
  refine Wl.build hd hp (fun _ => run_build_struct ?_) h
  rw [← po_zero]
  exact .nil
end
theorem bsHalves {w : World} {ab off cap : Nat} {l : List UInt8} (hv : Bs w (.slice (some ⟨ab, off, none⟩) 64 cap) l) (hl : l.length = 64) :
    Bs w (.slice (some ⟨ab, off, none⟩) 32 cap) (l.take 32) ∧ Bs w (.slice (some ⟨ab, off + 32, none⟩) 32 (cap - 32)) (l.drop 32) := by
  obtain ⟨h1, h2, h3⟩ := hv.len
  refine ⟨?_, ?_⟩
  · have := hv.sub (lo := 0) (hi := 32) (mx := cap) (by omega) (by omega) (by omega) (by omega)
    simpa [Addr.add, show ¬ cap = 0 by omega] using this
  · have := hv.sub (lo := 32) (hi := 64) (mx := cap) (by omega) (by omega) (by omega) (by omega)
    simpa [Addr.add, show ¬ cap = 32 by omega, List.take_of_length_le (show l.length ≤ 64 by omega)] using this
theorem gOnK {k bm X Y : Nat} {w : World} (hV : CurV w k bm) (hX : X < W256) (hY : Y < W256) {r : Bool} (e : r = onB X Y) : Calls Tryd.prog 44 #[mp k, .agg (poC X Y false).toArray] w fun e w' => e = .returned (.bool r) ∧ Hp w [] w' := by
  have := curOnC k bm X Y false w hV hX hY
  rw [Bool.not_false, Bool.true_and, ← e] at this
  exact this
/-- the second half, as the walk spells it -/
theorem bsHalf2 {w : World} {ab off cap : Nat} {l : List UInt8} (hv : Bs w (.slice (some ⟨ab, off, none⟩) 64 cap) l) (hl : l.length = 64) :
    Bs w (.slice (if cap = Int.toNat 32 then some ⟨ab, off, none⟩ else Option.map (fun x : Addr => x.add (Int.toNat 32 * 1)) (some ⟨ab, off, none⟩)) (64 - Int.toNat 32) (cap - Int.toNat 32)) (l.drop 32) := by
  obtain ⟨h1, h2, h3⟩ := hv.len
  have := hv.sub (lo := 32) (hi := 64) (mx := cap) (by omega) (by omega) (by omega) (by omega)
  rw [List.take_of_length_le (show l.length ≤ 64 by omega)] at this
  exact this
set_option maxHeartbeats 16000000 in
theorem signKey (v : Value) (l : List UInt8) (w : World) (hv : Bs w v l) (hvl : ∀ k, v.ownBlock = some k → k < w.heap.size) (hl : l.length = 64) : Calls Tryd.prog 10 #[v] w fun e w' =>
    e = .returned (if onB (rdL (l.take 32)) (rdL (l.drop 32)) then .tuple #[.agg (poC (rdL (l.take 32)) (rdL (l.drop 32)) false).toArray, .int .i64 0] else .tuple #[.agg (poC 0 0 false).toArray, .int .i64 3]) ∧ Hp w [] w' := by
  obtain ⟨a, cap, rfl, hlc, hm⟩ := hv.shape
  unfold maxLen at hm
  obtain ⟨ab, off, rfl, hcell⟩ := hv.cells (fun e => by subst e; simp at hl)
  rw [hl] at hv ⊢
  have hal : ab < w.heap.size := hvl ab rfl
  obtain ⟨hs1, _⟩ := bsHalves hv hl
  have hs2 := bsHalf2 hv hl
  refine enter (args := [_]) (Γ := [(0, _)]) Tryd.func10 Tryd.ntmps10 rfl (of_decide_eq_true rfl) (.cons rfl .nil) ?_
  repeat' (first | (apply Wl.allocC (t := 32); exact rfl; exact zPo; intro c hc ho) | (apply Wl.move; exact rfl; exact rfl) | (apply Wl.assign; exact rfl; exact rfl) | (apply Wl.neq; exact rfl; exact rfl; exact rfl) | (apply Wl.len; exact rfl; exact rfl) | (apply Wl.slice0; exact rfl; exact rfl; (first | exact BoundIs.no | exact BoundIs.yes rfl (by omega)); (first | exact BoundIs.no | exact BoundIs.yes rfl (by omega)); (first | exact fun _ => rfl | exact fun h => nomatch h); (omega); (omega)) | (apply Wl.nil) | (apply St.seq) | (apply St.region) | (apply St.condF; exact rfl; (first | with_reducible rfl | with_reducible assumption | decide)) | (apply St.skip) | (apply Gt.next) | (apply Wl.splitP; exact rfl; exact rfl; all_goals (intros; try (exfalso; omega))) | (apply Wl.splitB; exact rfl; exact rfl; all_goals intros) | (apply St.condP; exact rfl; all_goals (intros; try (exfalso; omega))) | (apply St.condB; exact rfl; all_goals intros))
  apply Wl.callQ
  exact rfl
  (repeat (first | exact Evs.nil | apply Evs.cons rfl))
  · intro wq hq
    refine (limbRead _ (l.take 32) wq (bsNew hs1 hq (by simp; omega)) (by rw [List.length_take]; omega)).mono ?_
    rintro e wr ⟨rfl, hr⟩
    exact ⟨rfl, hq.keep hr⟩
  repeat' (first | (apply Wl.storeW; exact rfl; exact rfl; (repeat (first | apply HSet.here | apply HSet.there)); exact rfl; (first | exact cellsN_len _ _ _ | exact rfl)) | (apply Wl.allocN; exact rfl; (first | exact z8 | exact z16 | exact z17 | exact z33 | exact z10); intro c hc ho) | (apply Wl.move; exact rfl; exact rfl) | (apply Wl.assign; exact rfl; exact rfl) | (apply Wl.extract; exact rfl; exact rfl; exact rfl) | (apply Wl.sliceFull; exact rfl; exact rfl; (first | exact BoundIs.no | exact BoundIs.yes rfl (by omega)); (first | exact BoundIs.no | exact BoundIs.yes rfl (by omega)); (first | exact BoundIs.no | exact BoundIs.yes rfl (by omega)); (first | exact fun _ => rfl | exact fun h => nomatch h); (omega); (omega); (omega)) | (apply Wl.nil) | (apply St.seq) | (apply St.region) | (apply Gt.next) | (apply Wl.splitP; exact rfl; exact rfl; all_goals (intros; try (exfalso; omega))) | (apply Wl.splitB; exact rfl; exact rfl; all_goals intros) | (apply St.condP; exact rfl; all_goals (intros; try (exfalso; omega))) | (apply St.condB; exact rfl; all_goals intros))
  apply Wl.callQ
  exact rfl
  (repeat (first | exact Evs.nil | apply Evs.cons rfl))
  · intro wq hq
    refine (limbRead _ (l.drop 32) wq (bsNew hs2 hq (by simp; omega)) (by rw [List.length_drop]; omega)).mono ?_
    rintro e wr ⟨rfl, hr⟩
    exact ⟨rfl, hq.keep hr⟩
  repeat' (first | (apply Wl.allocC (t := 32); exact rfl; exact zPo; intro c hc ho) | (apply Wl.buildPo; exact rfl; (focus ((repeat (first | exact Parts.nil | apply Parts.cons rfl)); done))) | (apply Wl.storeAll; exact rfl; exact rfl; (repeat (first | apply HSet.here | apply HSet.there)); (first | exact ptC_len _ _ _ | exact poC_len _ _ _ | exact poD_len _); (first | exact rfl | exact ptC_len _ _ _ | exact poC_len _ _ _ | exact poD_len _); (first | exact ptC_one _ _ _ | exact poC_one _ _ _ | exact poD_one _)) | (apply Wl.loadW; exact rfl; exact rfl; (repeat (first | exact List.Mem.head _ | apply List.Mem.tail)); exact rfl) | (apply Wl.storeW; exact rfl; exact rfl; (repeat (first | apply HSet.here | apply HSet.there)); exact rfl; (first | exact cellsN_len _ _ _ | exact rfl)) | (apply Wl.allocN; exact rfl; (first | exact z8 | exact z16 | exact z17 | exact z33 | exact z10); intro c hc ho) | (apply Wl.move; exact rfl; exact rfl) | (apply Wl.assign; exact rfl; exact rfl) | (apply Wl.extract; exact rfl; exact rfl; exact rfl) | (apply Wl.nil) | (apply St.seq) | (apply St.region) | (apply Gt.next) | (apply Wl.splitP; exact rfl; exact rfl; all_goals (intros; try (exfalso; omega))) | (apply Wl.splitB; exact rfl; exact rfl; all_goals intros) | (apply St.condP; exact rfl; all_goals (intros; try (exfalso; omega))) | (apply St.condB; exact rfl; all_goals intros))
  generalize hX : rdL (l.take 32) = X at *
  generalize hY : rdL (l.drop 32) = Y at *
  have hXW : X < W256 := hX ▸ rdL_lt _
  have hYW : Y < W256 := hY ▸ rdL_lt _
  obtain ⟨r, hr0⟩ : ∃ r, r = onB X Y := ⟨_, rfl⟩
  rw [← hr0]
  rename_i c1 h1 o1 c2 h2 o2 c3 h3 o3
  refine St.tree (Hp w [⟨c, poC X Y false, 32⟩, ⟨c3, cellsN .u32 8 (dg W32 Y), 30⟩, ⟨c2, cellsN .u32 8 (dg W32 X), 30⟩, ⟨c1, poC 0 0 false, 32⟩]) mixed (fun _ h => ⟨Hp.drew h, Hp.drew h⟩) ?_
  refine Mt.pure 1 (by decide +kernel) (by exact rfl) (by exact rfl) (by decide +kernel) (by decide +kernel) ?_
  repeat' (first | (apply Wl.loadAH; exact rfl; exact rfl; (repeat (first | exact List.Mem.head _ | apply List.Mem.tail)); (first | exact ptC_x _ _ _ | exact ptC_y _ _ _ | exact ptC_z _ _ _ | exact poC_x _ _ _ | exact poC_y _ _ _ | exact poD_x _ | exact poD_y _ | exact LSub.whole (ptC_len _ _ _) | exact LSub.whole (poC_len _ _ _) | exact LSub.whole (poD_len _))) | (apply Wl.nilM) | (apply Wl.splitP; exact rfl; exact rfl; all_goals (intros; try (exfalso; omega))) | (apply Wl.splitB; exact rfl; exact rfl; all_goals intros) | (apply St.condP; exact rfl; all_goals (intros; try (exfalso; omega))) | (apply St.condB; exact rfl; all_goals intros))
  apply Mt.back
  refine Mt.eff1 (i := 0) (by decide +kernel) (by exact rfl) ?_
  apply Wl.callC
  · exact rfl
  · (repeat (first | exact Evs.nil | apply Evs.cons rfl))
  intro wq hq
  refine (curNew wq).mono ?_
  rintro e wr ⟨k, bm, rfl, hk, hbm, hV, hr⟩
  have hqr := hq.keep hr
  refine ⟨_, _, rfl, hpRb hqr, ?_⟩
  have hszq := hq.upd.size
  have l0 := hq.own.lt (.head _)
  have l1 := hq.own.lt (.tail _ (.head _))
  have l2 := hq.own.lt (.tail _ (.tail _ (.head _)))
  have l3 := hq.own.lt (.tail _ (.tail _ (.tail _ (.head _))))
  simp only at l0 l1 l2 l3
  have hu : Upd (fun k => w.heap.size ≤ k) w wr := hpOn hqr (Upd.refl _ _) (by simp; omega)
  obtain ⟨hkl, hbl⟩ := hV.lt
  clear hq hr
  repeat' (first | (apply Wl.nil) | (apply Wl.splitP; exact rfl; exact rfl; all_goals (intros; try (exfalso; omega))) | (apply Wl.splitB; exact rfl; exact rfl; all_goals intros) | (apply St.condP; exact rfl; all_goals (intros; try (exfalso; omega))) | (apply St.condB; exact rfl; all_goals intros))
  refine Mt.backE (fun u h => hpTr hqr h) ?_
  refine Mt.eff1 (i := 2) (by decide +kernel) (by exact rfl) ?_
  repeat' (first | (apply Wl.callQ (f := 44); exact rfl; (repeat (first | exact Evs.nil | apply Evs.cons rfl)); (intro wq hq; refine (gOnK (hV.hp hq (by (repeat (first | exact trivial | exact hX.off (by omega) | refine ⟨by first | assumption | omega | (simp only; omega), ?_⟩))) (by (repeat (first | exact trivial | exact hX.off (by omega) | refine ⟨by first | assumption | omega | (simp only; omega), ?_⟩)))) hXW hYW hr0).mono ?_; rintro e wr ⟨rfl, hr⟩; exact ⟨rfl, hq.keep hr⟩)) | (apply Wl.nil) | (apply Wl.splitP; exact rfl; exact rfl; all_goals (intros; try (exfalso; omega))) | (apply Wl.splitB; exact rfl; exact rfl; all_goals intros) | (apply St.condP; exact rfl; all_goals (intros; try (exfalso; omega))) | (apply St.condB; exact rfl; all_goals intros))
  refine Mt.backE (fun u h => hpTr hqr h) ?_
  refine Mt.pure 3 (by decide +kernel) (by exact rfl) (by exact rfl) (by decide +kernel) (by decide +kernel) ?_
  repeat' (first | (apply Wl.not; exact rfl; exact rfl) | (apply Wl.nilM) | (apply Wl.splitP; exact rfl; exact rfl; all_goals (intros; try (exfalso; omega))) | (apply Wl.splitB; exact rfl; exact rfl; all_goals intros) | (apply St.condP; exact rfl; all_goals (intros; try (exfalso; omega))) | (apply St.condB; exact rfl; all_goals intros))
  apply Mt.back
  refine Mt.toGt (by decide +kernel) ?_
  cases r with
  | true =>
    repeat' (first | (apply Wl.loadAH; exact rfl; exact rfl; (repeat (first | exact List.Mem.head _ | apply List.Mem.tail)); (first | exact ptC_x _ _ _ | exact ptC_y _ _ _ | exact ptC_z _ _ _ | exact poC_x _ _ _ | exact poC_y _ _ _ | exact poD_x _ | exact poD_y _ | exact LSub.whole (ptC_len _ _ _) | exact LSub.whole (poC_len _ _ _) | exact LSub.whole (poD_len _))) | (apply Wl.storeAll; exact rfl; exact rfl; (repeat (first | apply HSet.here | apply HSet.there)); (first | exact ptC_len _ _ _ | exact poC_len _ _ _ | exact poD_len _); (first | exact rfl | exact ptC_len _ _ _ | exact poC_len _ _ _ | exact poD_len _); (first | exact ptC_one _ _ _ | exact poC_one _ _ _ | exact poD_one _)) | (apply Wl.assign; exact rfl; exact rfl) | (apply Wl.nil) | (apply St.seq) | (apply St.region) | (apply St.condF; exact rfl; (first | with_reducible rfl | with_reducible assumption | decide)) | (apply St.ret) | (apply St.skip) | (apply Gt.next) | (apply Wl.splitP; exact rfl; exact rfl; all_goals (intros; try (exfalso; omega))) | (apply Wl.splitB; exact rfl; exact rfl; all_goals intros) | (apply St.condP; exact rfl; all_goals (intros; try (exfalso; omega))) | (apply St.condB; exact rfl; all_goals intros))
    apply Gt.outCT
    · exact rfl
    · infer_instance
    · exact rfl
    · exact rfl
    · (repeat (first | exact List.Mem.head _ | apply List.Mem.tail))
    · exact LSub.whole (poC_len _ _ _)
    intro w' hp
    exact ⟨by rw [if_pos rfl], hpFin hp hu (by simp; omega)⟩
  | false =>
    repeat' (first | (apply Wl.buildPz; exact rfl; (focus ((repeat (first | exact Parts.nil | apply Parts.cons rfl)); done))) | (apply Wl.storeAll; exact rfl; exact rfl; (repeat (first | apply HSet.here | apply HSet.there)); (first | exact ptC_len _ _ _ | exact poC_len _ _ _ | exact poD_len _); (first | exact rfl | exact ptC_len _ _ _ | exact poC_len _ _ _ | exact poD_len _); (first | exact ptC_one _ _ _ | exact poC_one _ _ _ | exact poD_one _)) | (apply Wl.assign; exact rfl; exact rfl) | (apply Wl.nil) | (apply St.seq) | (apply St.region) | (apply St.condT; exact rfl; (first | with_reducible rfl | with_reducible assumption | decide)) | (apply St.ret) | (apply Gt.next) | (apply Gt.thenRet) | (apply Wl.splitP; exact rfl; exact rfl; all_goals (intros; try (exfalso; omega))) | (apply Wl.splitB; exact rfl; exact rfl; all_goals intros) | (apply St.condP; exact rfl; all_goals (intros; try (exfalso; omega))) | (apply St.condB; exact rfl; all_goals intros))
    apply Gt.outCT
    · exact rfl
    · infer_instance
    · exact rfl
    · exact rfl
    · (repeat (first | exact List.Mem.head _ | apply List.Mem.tail))
    · exact LSub.whole (poC_len _ _ _)
    intro w' hp
    exact ⟨by rw [if_neg (by decide)], hpFin hp hu (by simp; omega)⟩
section
variable {md : Md} {N : Nat} {ops : Array Oper} {rest : List Oper} {Γ : Env} {C : World → Prop} {Q : Exit → Act → World → Prop} {d : Nat} {ty : TypeId} {pos : String} {af : Array Edge} {parts : Array (Nat × Operand)}
end
end Go.Proofs.YtfaobdakpbpkbaaDoor
end
section
/-
  A region in any order all of whose operations yield one value each, or make one new block each, or lay a value into such a block, each block once.
-/
namespace Go.Pt
open Go.RowKit
/-- what an operation yields: one value; a new block, and what is laid into it, by which operation; it lays -/
inductive Ks
  | v (x : Value)
  | b (t : TypeId) (cs : List Value) (st : Option (Nat × List Value))
  | s (j : Nat)
/-- what a block holds -/
def curS (listed : Array Bool) (cs : List Value) : Option (Nat × List Value) → List Value
  | some (i, cs') => if listed.getD i false then cs' else cs
  | none => cs
def DepS (f : Nat → Nat) (l : List Oper) (ks : List Ks) (K : Env → Prop) : List Edge → Env → Prop
  | [], Γ => K Γ
  | e :: es, Γ => if Region.binds .any e then (match ks[e.on]? with
    | some (.v x) => DepS f l ks K es ((dstAt l e.on, x) :: Γ)
    | some (.b _ _ _) => DepS f l ks K es ((dstAt l e.on, .pointer (some ⟨f e.on, 0, none⟩)) :: Γ)
    | _ => DepS f l ks K es Γ) else DepS f l ks K es Γ
def PostS (N : Nat) (Γ : Env) (D : World → Prop) : Exit → Act → World → Prop := fun e a w => e = .normal ∧ Fr N a Γ ∧ D w
inductive OpsS (P : Program) (l : List Oper) (N : Nat) (Γ : Env) (w0 : World) (H : List Blk) (all : List Ks) : Nat → List Oper → List Ks → Prop
  | nil {k : Nat} : OpsS P l N Γ w0 H all k [] []
  | v {k : Nat} {o : Oper} {rest : List Oper} {x : Value} {tl : List Ks} (hd : o.dst.isSome = true) (h : ∀ X f, NewX w0 X → DepS f l all (fun Γ' => Wl [o] P .seq l.toArray N Γ' (Hp w0 (H ++ X)) (PostX N (dstO o) x (Hp w0 (H ++ X)))) o.after.toList Γ) (hs : OpsS P l N Γ w0 H all (k + 1) rest tl) : OpsS P l N Γ w0 H all k (o :: rest) (.v x :: tl)
  | b {k d t : Nat} {ty : TypeId} {pos : String} {af : Array Edge} {rest : List Oper} {z : Value} {cs : List Value} {st : Option (Nat × List Value)} {tl : List Ks} [hz : TyZ P t z] (hd : Nat.blt d N = true) (hcs : z.cells.toList = cs) (hs : OpsS P l N Γ w0 H all (k + 1) rest tl) : OpsS P l N Γ w0 H all k (⟨some d, .alloc t, ty, pos, af, none⟩ :: rest) (.b t cs st :: tl)
  | s {k j t : Nat} {o : Oper} {rest : List Oper} {cs cs' : List Value} {tl : List Ks} (hd : o.dst = none) (hj : all[j]? = some (.b t cs (some (k, cs')))) (hw : o.after.toList.any (fun e => Nat.beq e.on j && Region.binds .any e) = true)
      (h : ∀ X f, NewX w0 X → w0.heap.size ≤ f j → DepS f l all (fun Γ' => Wl [o] P .seq l.toArray N Γ' (Hp w0 (⟨f j, cs, t⟩ :: (H ++ X))) (PostS N [] (Hp w0 (⟨f j, cs', t⟩ :: (H ++ X))))) o.after.toList Γ) (hs : OpsS P l N Γ w0 H all (k + 1) rest tl) : OpsS P l N Γ w0 H all k (o :: rest) (.s j :: tl)
theorem OpsS.out {P : Program} {l : List Oper} {N : Nat} {Γ : Env} {w0 : World} {H : List Blk} {all : List Ks} {k : Nat} {l' : List Oper} {tl : List Ks} (h : OpsS P l N Γ w0 H all k l' tl) {i : Nat} {o : Oper} (hi : l'[i]? = some o) :
    (o.dst.isSome = true ∧ ∃ x, tl[i]? = some (.v x) ∧ ∀ X f, NewX w0 X → DepS f l all (fun Γ' => Wl [o] P .seq l.toArray N Γ' (Hp w0 (H ++ X)) (PostX N (dstO o) x (Hp w0 (H ++ X)))) o.after.toList Γ) ∨
    (o.dst.isSome = true ∧ ∃ t cs st, tl[i]? = some (.b t cs st) ∧ ∀ X, Wl [o] P .seq l.toArray N Γ (Hp w0 (H ++ X)) (PostB N (dstO o) t cs w0 (H ++ X))) ∨
    (o.dst = none ∧ ∃ j t cs cs', tl[i]? = some (.s j) ∧ all[j]? = some (.b t cs (some (k + i, cs'))) ∧ (∃ e ∈ o.after.toList, e.on = j ∧ Region.binds .any e = true) ∧
      ∀ X f, NewX w0 X → w0.heap.size ≤ f j → DepS f l all (fun Γ' => Wl [o] P .seq l.toArray N Γ' (Hp w0 (⟨f j, cs, t⟩ :: (H ++ X))) (PostS N [] (Hp w0 (⟨f j, cs', t⟩ :: (H ++ X))))) o.after.toList Γ) := by
  induction h generalizing i with
  | nil => simp at hi
  | @v k o' rest x tl hd h hs ih =>
    cases i with
    | zero => simp only [List.getElem?_cons_zero, Option.some.injEq] at hi; subst hi; exact .inl ⟨hd, x, rfl, h⟩
    | succ i =>
      have := ih (i := i) (by simpa using hi)
      rw [show k + 1 + i = k + (i + 1) by omega] at this
      simpa using this
  | @b k d t ty pos af rest z cs st tl hz hd hcs hs ih =>
    cases i with
    | zero =>
      simp only [List.getElem?_cons_zero, Option.some.injEq] at hi
      subst hi
      refine .inr (.inl ⟨rfl, t, cs, st, rfl, fun X => ?_⟩)
      apply Wl.alloc hd
      intro c hc ho
      apply Wl.nil
      rw [hcs]
      exact Gt.intro fun a w ha hw => ⟨rfl, c, hc, ho, ha.sub (.cons (by simp [look, dstO]) .nil), hw⟩
    | succ i =>
      have := ih (i := i) (by simpa using hi)
      rw [show k + 1 + i = k + (i + 1) by omega] at this
      simpa using this
  | @s k j t o' rest cs cs' tl hd hj hw h hs ih =>
    cases i with
    | zero =>
      simp only [List.getElem?_cons_zero, Option.some.injEq] at hi
      subst hi
      obtain ⟨e, he, h2⟩ := List.any_eq_true.1 hw
      rw [Bool.and_eq_true] at h2
      exact .inr (.inr ⟨hd, j, t, cs, cs', rfl, hj, ⟨e, he, Nat.eq_of_beq_eq_true h2.1, h2.2⟩, h⟩)
    | succ i =>
      have := ih (i := i) (by simpa using hi)
      rw [show k + 1 + i = k + (i + 1) by omega] at this
      simpa using this
theorem OpsS.len {P : Program} {l : List Oper} {N : Nat} {Γ : Env} {w0 : World} {H : List Blk} {all : List Ks} {k : Nat} {l' : List Oper} {tl : List Ks} (h : OpsS P l N Γ w0 H all k l' tl) : tl.length = l'.length := by
  induction h with
  | nil => rfl
  | v _ _ _ ih => simp [ih]
  | b _ _ _ ih => simp [ih]
  | s _ _ _ _ _ ih => simp [ih]
theorem DepS.run {f : Nat → Nat} {l : List Oper} {ks : List Ks} {K : Env → Prop} {N : Nat} {a : Act} {es : List Edge} {Γ : Env} (h : DepS f l ks K es Γ) (ha : Fr N a Γ)
    (hes : ∀ e ∈ es, Region.binds .any e = true → ∀ x, ks[e.on]? = some (.v x) → a.tmps[dstAt l e.on]? = some x)
    (heb : ∀ e ∈ es, Region.binds .any e = true → ∀ t cs st, ks[e.on]? = some (.b t cs st) → a.tmps[dstAt l e.on]? = some (.pointer (some ⟨f e.on, 0, none⟩))) : ∃ Γ', Fr N a Γ' ∧ K Γ' := by
  induction es generalizing Γ with
  | nil => exact ⟨Γ, ha, h⟩
  | cons e es ih =>
    unfold DepS at h
    split at h
    · rename_i hb
      split at h
      · rename_i x hx
        exact ih h (ha.cons (hes e (by simp) hb x hx)) (fun e he => hes e (by simp [he])) fun e he => heb e (by simp [he])
      · rename_i t cs st hx
        exact ih h (ha.cons (heb e (by simp) hb _ _ _ hx)) (fun e he => hes e (by simp [he])) fun e he => heb e (by simp [he])
      · exact ih h ha (fun e he => hes e (by simp [he])) fun e he => heb e (by simp [he])
    · exact ih h ha (fun e he => hes e (by simp [he])) fun e he => heb e (by simp [he])
structure InvS (l : List Oper) (N : Nat) (Γ : Env) (w0 : World) (H : List Blk) (ks : List Ks) (f : Nat → Nat) (listed : Array Bool) (a : Act) (w : World) : Prop where
  fr : Fr N a Γ
  hp : Hp w0 H w
  val : ∀ i o x, l[i]? = some o → ks[i]? = some (.v x) → listed.getD i false = true → a.tmps[dstO o]? = some x
  ptr : ∀ i o t cs st, l[i]? = some o → ks[i]? = some (.b t cs st) → listed.getD i false = true → a.tmps[dstO o]? = some (.pointer (some ⟨f i, 0, none⟩)) ∧ w0.heap.size ≤ f i ∧ Off H (f i) ∧ w.heap[f i]? = some (.cells (curS listed cs st).toArray t (0, 0))
  inj : ∀ i j t cs st t' cs' st', i ≠ j → ks[i]? = some (.b t cs st) → ks[j]? = some (.b t' cs' st') → listed.getD i false = true → listed.getD j false = true → f i ≠ f j
def blkS (f : Nat → Nat) (listed : Array Bool) (ks : List Ks) (i : Nat) : Option Blk := match ks[i]? with
  | some (.b t cs st) => if listed.getD i false then some ⟨f i, curS listed cs st, t⟩ else none
  | _ => none
theorem blkS_some {f : Nat → Nat} {listed : Array Bool} {ks : List Ks} {i : Nat} {x : Blk} (h : blkS f listed ks i = some x) : ∃ t cs st, ks[i]? = some (.b t cs st) ∧ listed.getD i false = true ∧ x = ⟨f i, curS listed cs st, t⟩ := by
  unfold blkS at h
  split at h
  · rename_i t cs st hk
    split at h
    · rename_i hl; cases h; exact ⟨t, cs, st, hk, hl, rfl⟩
    · cases h
  · cases h
def blksS (f : Nat → Nat) (listed : Array Bool) (ks : List Ks) (p : Nat → Bool) (m : Nat) : List Blk := (List.range m).reverse.filterMap fun i => if p i then blkS f listed ks i else none
theorem mem_blksS {f : Nat → Nat} {listed : Array Bool} {ks : List Ks} {p : Nat → Bool} {m : Nat} {x : Blk} : x ∈ blksS f listed ks p m ↔ ∃ i, i < m ∧ p i = true ∧ blkS f listed ks i = some x := by
  unfold blksS
  rw [List.mem_filterMap]
  constructor
  · rintro ⟨i, hi, h⟩
    split at h
    · exact ⟨i, by simpa using hi, by assumption, h⟩
    · cases h
  · rintro ⟨i, hi, hp, h⟩
    exact ⟨i, by simpa using hi, by rw [if_pos hp]; exact h⟩
/-- the blocks made so far (those of p), beside what the class holds -/
theorem InvS.full {l : List Oper} {N : Nat} {Γ : Env} {w0 : World} {H : List Blk} {ks : List Ks} {f : Nat → Nat} {listed : Array Bool} {a : Act} {w : World} (hkl : ks.length = l.length) (h : InvS l N Γ w0 H ks f listed a w) (p : Nat → Bool) :
    NewX w0 (blksS f listed ks p l.length) ∧ Hp w0 (H ++ blksS f listed ks p l.length) w := by
  have key : ∀ x ∈ blksS f listed ks p l.length, w0.heap.size ≤ x.b ∧ Off H x.b ∧ w.heap[x.b]? = some (.cells x.cs.toArray x.t (0, 0)) := fun x hx => by
    obtain ⟨i, hi, _, hgi⟩ := mem_blksS.1 hx
    obtain ⟨t, cs, st, hk, hl, rfl⟩ := blkS_some hgi
    obtain ⟨_, h2, h3, h4⟩ := h.ptr i _ t cs st (List.getElem?_eq_getElem hi) hk hl
    exact ⟨h2, h3, h4⟩
  refine ⟨fun x hx => (key x hx).1, ⟨h.hp.upd.mono fun k hk hn ho => hn (off_left ho), Own.of fun x hx => ?_, apart_append h.hp.apart (fun x hx => (key x hx).2.1) (apart_map _ fun i j x y hij hj hx hy => ?_)⟩⟩
  · rcases List.mem_append.1 hx with hx | hx
    · exact h.hp.own.at hx
    · exact (key x hx).2.2
  · split at hx <;> try cases hx
    split at hy <;> try cases hy
    obtain ⟨t, cs, st, hk, hl, rfl⟩ := blkS_some hx
    obtain ⟨t', cs', st', hk', hl', rfl⟩ := blkS_some hy
    exact h.inj i j t cs st t' cs' st' (by omega) hk hk' hl hl'
inductive ConS (all : List Ks) : Nat → List Ks → Prop
  | nil {k : Nat} : ConS all k []
  | v {k : Nat} {x : Value} {tl : List Ks} (hs : ConS all (k + 1) tl) : ConS all k (.v x :: tl)
  | s {k j : Nat} {tl : List Ks} (hs : ConS all (k + 1) tl) : ConS all k (.s j :: tl)
  | b0 {k t : Nat} {cs : List Value} {tl : List Ks} (hs : ConS all (k + 1) tl) : ConS all k (.b t cs none :: tl)
  | b1 {k t i : Nat} {cs cs' : List Value} {tl : List Ks} (h : all[i]? = some (.s k)) (hs : ConS all (k + 1) tl) : ConS all k (.b t cs (some (i, cs')) :: tl)
theorem ConS.out {all : List Ks} {k : Nat} {tl : List Ks} (h : ConS all k tl) {j t i : Nat} {cs cs' : List Value} (hj : tl[j]? = some (.b t cs (some (i, cs')))) : all[i]? = some (.s (k + j)) := by
  induction h generalizing j with
  | nil => simp at hj
  | @v k x tl hs ih =>
    cases j with
    | zero => simp at hj
    | succ j => have := ih (j := j) (by simpa using hj); rw [show k + 1 + j = k + (j + 1) by omega] at this; exact this
  | @s k j' tl hs ih =>
    cases j with
    | zero => simp at hj
    | succ j => have := ih (j := j) (by simpa using hj); rw [show k + 1 + j = k + (j + 1) by omega] at this; exact this
  | @b0 k t' cs0 tl hs ih =>
    cases j with
    | zero => simp at hj
    | succ j => have := ih (j := j) (by simpa using hj); rw [show k + 1 + j = k + (j + 1) by omega] at this; exact this
  | @b1 k t' i' cs0 cs0' tl h hs ih =>
    cases j with
    | zero =>
      simp only [List.getElem?_cons_zero, Option.some.injEq, Ks.b.injEq, Prod.mk.injEq] at hj
      obtain ⟨_, _, rfl, _⟩ := hj
      exact h
    | succ j => have := ih (j := j) (by simpa using hj); rw [show k + 1 + j = k + (j + 1) by omega] at this; exact this
def bagSB (l : List Oper) (N : Nat) (Γ : Env) : Nat → List Oper → Bool
  | _, [] => true
  | i, o :: rest => (match o.dst with | some d => Nat.blt d N && !(Γ.any fun p => Nat.beq p.1 d) && rest.all fun o' => (match o'.dst with | some d' => !(Nat.beq d' d) | none => true) | none => true) && o.after.toList.all (fun e => !(Region.binds .any e) || Nat.blt e.on i) && bagSB l N Γ (i + 1) rest
theorem bagSB_out {l : List Oper} {N : Nat} {Γ : Env} {k : Nat} {l' : List Oper} (h : bagSB l N Γ k l' = true) {i : Nat} {o : Oper} (hi : l'[i]? = some o) :
    (∀ e ∈ o.after.toList, Region.binds .any e = true → e.on < k + i) ∧ ∀ d, o.dst = some d → d < N ∧ (∀ t v, look Γ t = some v → t ≠ d) ∧ ∀ j o', i < j → l'[j]? = some o' → o'.dst ≠ some d := by
  induction l' generalizing k i with
  | nil => simp at hi
  | cons x rest ih =>
    simp only [bagSB, Bool.and_eq_true] at h
    obtain ⟨⟨h1, h2⟩, h3⟩ := h
    cases i with
    | zero =>
      simp only [List.getElem?_cons_zero, Option.some.injEq] at hi
      subst hi
      refine ⟨fun e he hb => ?_, fun d hd => ?_⟩
      · have := List.all_eq_true.1 h2 e he
        rw [hb, Bool.not_true, Bool.false_or] at this
        exact Nat.le_of_ble_eq_true this
      · rw [hd] at h1
        simp only [Bool.and_eq_true, Bool.not_eq_true', List.all_eq_true] at h1
        obtain ⟨⟨h1, h4⟩, h5⟩ := h1
        refine ⟨Nat.le_of_ble_eq_true h1, fun t v ht e => ?_, fun j o' hj ho' e => ?_⟩
        · rw [← e, look_any ht] at h4; cases h4
        · cases j with
          | zero => omega
          | succ j =>
            have := h5 o' (List.mem_of_getElem? (by simpa using ho'))
            rw [e] at this
            simp at this
    | succ i =>
      have := ih h3 (i := i) (by simpa using hi)
      refine ⟨fun e he hb => by have := this.1 e he hb; omega, fun d hd => ?_⟩
      obtain ⟨a1, a2, a3⟩ := this.2 d hd
      refine ⟨a1, a2, fun j o' hj ho' => ?_⟩
      cases j with
      | zero => omega
      | succ j => exact a3 j o' (by omega) (by simpa using ho')
theorem getF_set {x : Array Bool} {i j : Nat} (h : i ≠ j) : (x.setIfInBounds i true).getD j false = x.getD j false := by
  simp [Array.getD_eq_getD_getElem?, Array.getElem?_setIfInBounds_ne h]
theorem getF_self {x : Array Bool} {i : Nat} (h : i < x.size) : (x.setIfInBounds i true).getD i false = true := by
  simp [Array.getD_eq_getD_getElem?, h]
theorem curS_set {listed : Array Bool} {i : Nat} {cs : List Value} {st : Option (Nat × List Value)} (h : ∀ q cs', st = some (q, cs') → q ≠ i) : curS (listed.setIfInBounds i true) cs st = curS listed cs st := by
  cases st with
  | none => rfl
  | some p =>
    obtain ⟨q, cs'⟩ := p
    unfold curS
    simp only
    rw [getF_set (h q cs' rfl).symm]
theorem hpPopS {w0 w : World} {x : Blk} {H : List Blk} (h : Hp w0 (x :: H) w) (hx : w0.heap.size ≤ x.b) : Hp w0 H w :=
  ⟨h.upd.mono fun k hk hs ho => hs ⟨fun e => by omega, ho⟩, h.own.2, h.apart.2⟩
theorem InvS.step {P : Program} {l : List Oper} {N : Nat} {Γ : Env} {w0 : World} {H : List Blk} {ks : List Ks} {f : Nat → Nat} {Q : Exit → Act → World → Prop} {listed : Array Bool} {a : Act} {w : World} (hsz : listed.size = l.length) (hc : bagSB l N Γ 0 l = true)
    (hops : OpsS P l N Γ w0 H ks 0 l ks) (hcon : ConS ks 0 ks) {i : Nat} (hr : i ∈ Region.ready .any l.toArray listed) (hdown : ∀ j o, l[j]? = some o → listed.getD j false = true → ∀ e ∈ o.after.toList, Region.binds .any e = true → listed.getD e.on false = true) (hi : InvS l N Γ w0 H ks f listed a w) {K : Act → World → Prop} (hK : ∀ f' a' w', InvS l N Γ w0 H ks f' (listed.setIfInBounds i true) a' w' → K a' w') : wpOp P l.toArray Q i K a w := by
  have hkl := hops.len
  have hil := ready_lt hr
  have hol : l[i]? = some l[i] := List.getElem?_eq_getElem hil
  have hedges := ((ready_iff hol).1 hr).2
  have hunl := ((ready_iff hol).1 hr).1
  generalize l[i] = o at hol hedges
  have hoa : l.toArray[i]? = some o := by simpa using hol
  obtain ⟨hed, hdd⟩ := bagSB_out hc hol
  have hui : listed.getD i false = false := by
    rw [← getD_tf (by omega)]; exact hunl
  have hlist : ∀ e ∈ o.after.toList, Region.binds .any e = true → listed.getD e.on false = true := fun e he hb => hedges e (by simpa using he) hb
  have hdep : ∀ e ∈ o.after.toList, Region.binds .any e = true → ∀ x, ks[e.on]? = some (.v x) → a.tmps[dstAt l e.on]? = some x := fun e he hb x hx => by
    have h2 := hed e he hb
    have h3 : l[e.on]? = some l[e.on] := List.getElem?_eq_getElem (by omega)
    have := hi.val e.on _ x h3 hx (hlist e he hb)
    unfold dstAt
    rw [h3]
    exact this
  have hdeb : ∀ e ∈ o.after.toList, Region.binds .any e = true → ∀ t cs st, ks[e.on]? = some (.b t cs st) → a.tmps[dstAt l e.on]? = some (.pointer (some ⟨f e.on, 0, none⟩)) := fun e he hb t cs st hx => by
    have h2 := hed e he hb
    have h3 : l[e.on]? = some l[e.on] := List.getElem?_eq_getElem (by omega)
    have := (hi.ptr e.on _ t cs st h3 hx (hlist e he hb)).1
    unfold dstAt
    rw [h3]
    exact this
  have fin : ∀ (Post : Exit → Act → World → Prop), wpList P l.toArray Post [o] a w → (∀ e a' w', Post e a' w' → e = .normal) → (∀ a' w', Post .normal a' w' → (∃ v, a'.tmps = (a.put o.dst v).tmps) → K a' w') → wpOp P l.toArray Q i K a w := fun Post hwl hn key => by
    unfold wpOp
    simp only [hoa]
    simp only [wpList] at hwl
    split
    · rename_i hw
      rw [if_pos hw] at hwl
      rcases hwl with h | ⟨_, x, y, h⟩
      · have h1 := wp_only (fun _ _ _ h => hn _ _ _ h) (wp_tmps h)
        refine .inl ?_
        have h2 := Oper.wp_mono (fun a' w' hh => key a' w' hh.1 hh.2) h1
        unfold Oper.wp at *
        generalize (execOp a.eval o).run P w = r at *
        cases r with
        | ok n w' =>
          cases n <;> simp only [Oper.upon] at h2 ⊢
          case value u => exact h2
          case skip => exact h2
          case defer d => exact h2
          case enter f args => exact Calls.mono h2 (fun e w'' he => by cases e <;> first | exact he | exact he.elim | (obtain ⟨_, _, hf⟩ := he; exact hf.elim))
          case row row args => exact h2
        | halt x w' => cases x <;> simp only [Oper.upon] at h2
      · cases hn _ _ _ h
    · rename_i hw
      rw [if_neg hw] at hwl
      exact key _ _ hwl ⟨undef, rfl⟩
  have hfullT := hi.full hkl (fun _ => true)
  have dstOf : ∀ {oj : Oper} {d : Nat}, oj.dst = some d → dstO oj = d := fun h => by simp [dstO, h]
  have hdst : ∀ j oj, l[j]? = some oj → i ≠ j → o.dst.isSome = true → oj.dst.isSome = true → dstO oj ≠ dstO o := fun j oj hjo hij hs hs' e => by
    obtain ⟨d, hd⟩ := Option.isSome_iff_exists.1 hs
    obtain ⟨d', hd'⟩ := Option.isSome_iff_exists.1 hs'
    rw [dstOf hd, dstOf hd'] at e
    subst e
    rcases Nat.lt_or_gt_of_ne hij with h | h
    · exact (hdd d' hd).2.2 j oj h hjo hd'
    · exact ((bagSB_out hc hjo).2 d' hd').2.2 i o h hol hd
  have keepT : ∀ {a' : Act} {u : Value}, a'.tmps = (a.put o.dst u).tmps → ∀ t, (o.dst.isSome = true → t ≠ dstO o) → a'.tmps[t]? = a.tmps[t]? := fun {a' u} hu t ht => by
    rw [hu]
    cases hd : o.dst with
    | none => simp [Act.put]
    | some d =>
      have := ht (by rw [hd]; rfl)
      rw [dstOf hd] at this
      simp [Act.put, Array.getElem?_setIfInBounds_ne (Ne.symm this)]
  have hΓ : ∀ t v, look Γ t = some v → o.dst.isSome = true → t ≠ dstO o := fun t v ht hs => by
    obtain ⟨d, hd⟩ := Option.isSome_iff_exists.1 hs
    rw [dstOf hd]
    exact (hdd d hd).2.1 t v ht
  have someOf : ∀ {j : Nat} {oj : Oper}, l[j]? = some oj → (∃ x, ks[j]? = some (.v x)) ∨ (∃ t cs st, ks[j]? = some (.b t cs st)) → oj.dst.isSome = true := fun {j oj} hjo hk => by
    rcases hops.out hjo with ⟨h, _⟩ | ⟨h, _⟩ | ⟨_, _, _, _, _, h, _⟩
    · exact h
    · exact h
    · rcases hk with ⟨x, hk⟩ | ⟨_, _, _, hk⟩ <;> · rw [h] at hk; cases hk
  have noS : ∀ {j q : Nat} {t : TypeId} {cs cs' : List Value}, ks[j]? = some (.b t cs (some (q, cs'))) → (∀ j', ks[i]? ≠ some (.s j')) → q ≠ i := fun {j q t cs cs'} hk hn e => by
    have := hcon.out hk
    rw [Nat.zero_add, e] at this
    exact hn _ this
  have blkIn : ∀ {j t : Nat} {cs : List Value} {st : Option (Nat × List Value)} (p : Nat → Bool), j < l.length → p j = true → ks[j]? = some (.b t cs st) → listed.getD j false = true → (⟨f j, curS listed cs st, t⟩ : Blk) ∈ blksS f listed ks p l.length := fun {j t cs st} p hj hp hk hl =>
    mem_blksS.2 ⟨j, hj, hp, by unfold blkS; rw [hk]; simp only; rw [if_pos hl]⟩
  rcases hops.out hol with ⟨hsd, x, hx, hW⟩ | ⟨hsd, t, cs, st, hx, hW⟩ | ⟨hnd, j, t, cs, cs', hx, hkj, ⟨ej, hej, hej1, hej2⟩, hW⟩
  · obtain ⟨hnew, hfull⟩ := hfullT
    obtain ⟨Γ', hf', hW⟩ := (hW _ f hnew).run hi.fr hdep hdeb
    refine fin _ (hW.elim a w hf' hfull) (fun _ _ _ h => h.1) ?_
    rintro a' w' ⟨_, hfr, hp'⟩ ⟨u, hu⟩
    have hne := keepT hu
    have hcur : ∀ {j t : Nat} {cs : List Value} {st : Option (Nat × List Value)}, ks[j]? = some (.b t cs st) → curS (listed.setIfInBounds i true) cs st = curS listed cs st := fun {j t cs st} hk => curS_set fun q cs' e => noS (e ▸ hk) fun j' hj' => by rw [hx] at hj'; cases hj'
    refine hK f a' w' ⟨⟨hfr.defers, hfr.size, fun t v ht => by rw [hne t (hΓ t v ht)]; exact hi.fr.get t v ht⟩, hp_left hp' hnew, fun j oj y hjo hy hl => ?_, fun j oj t cs st hjo hy hl => ?_, fun j k t cs st t' cs' st' hjk hk1 hk2 hl hl' => ?_⟩
    · by_cases e : i = j
      · subst e
        rw [hol] at hjo
        cases hjo
        rw [hx] at hy
        cases hy
        exact hfr.get _ _ (by simp [look])
      · rw [getF_set e] at hl
        rw [hne _ (fun hs => hdst j oj hjo e hs (someOf hjo (.inl ⟨_, hy⟩)))]
        exact hi.val j oj y hjo hy hl
    · have e : i ≠ j := fun e => by subst e; rw [hx] at hy; cases hy
      rw [getF_set e] at hl
      obtain ⟨h1, h2, h3, _⟩ := hi.ptr j oj t cs st hjo hy hl
      rw [hcur hy]
      exact ⟨by rw [hne _ (fun hs => hdst j oj hjo e hs (someOf hjo (.inr ⟨_, _, _, hy⟩)))]; exact h1, h2, h3, hp'.own.at (List.mem_append_right _ (blkIn _ (List.getElem?_eq_some_iff.1 hjo).1 rfl hy hl))⟩
    · have e : i ≠ j := fun e => by subst e; rw [hx] at hk1; cases hk1
      have e' : i ≠ k := fun e => by subst e; rw [hx] at hk2; cases hk2
      rw [getF_set e] at hl
      rw [getF_set e'] at hl'
      exact hi.inj j k t cs st t' cs' st' hjk hk1 hk2 hl hl'
  · obtain ⟨hnew, hfull⟩ := hfullT
    refine fin _ ((hW _).elim a w hi.fr hfull) (fun _ _ _ h => h.1) ?_
    rintro a' w' ⟨_, c, hc0, hco, hfr, hp'⟩ ⟨u, hu⟩
    have hne := keepT hu
    have hcur : ∀ {j t : Nat} {cs : List Value} {st : Option (Nat × List Value)}, ks[j]? = some (.b t cs st) → curS (listed.setIfInBounds i true) cs st = curS listed cs st := fun {j t cs st} hk => curS_set fun q cs' e => noS (e ▸ hk) fun j' hj' => by rw [hx] at hj'; cases hj'
    have hcurI : curS (listed.setIfInBounds i true) cs st = cs := by
      rw [hcur hx]
      cases st with
      | none => rfl
      | some p =>
        obtain ⟨q, cs'⟩ := p
        have hq := hcon.out hx
        rw [Nat.zero_add] at hq
        unfold curS
        simp only
        have : listed.getD q false = false := by
          cases hlq : listed.getD q false with
          | false => rfl
          | true =>
            exfalso
            have hql : q < l.length := by have := (List.getElem?_eq_some_iff.1 hq).1; omega
            rcases hops.out (List.getElem?_eq_getElem hql) with ⟨_, x, h, _⟩ | ⟨_, _, _, _, h, _⟩ | ⟨_, j', _, _, _, h, _, ⟨e, he, he1, he2⟩, _⟩
            · rw [hq] at h; cases h
            · rw [hq] at h; cases h
            · rw [hq] at h
              cases h
              have := hdown q _ (List.getElem?_eq_getElem hql) hlq e he he2
              rw [he1, hui] at this
              cases this
        rw [this]
        rfl
    have hnew' : NewX w0 (⟨c, cs, t⟩ :: blksS f listed ks (fun _ => true) l.length) := fun y hy => by
      rcases List.mem_cons.1 hy with rfl | hy
      · exact hc0
      · exact hnew y hy
    have hH : Hp w0 H w' := hp_left (hpPopS hp' hc0) hnew
    have hfi : ∀ j, i ≠ j → (if j = i then c else f j) = f j := fun j e => if_neg (fun e' => e e'.symm)
    have hoff : ∀ j t' cs' st', ks[j]? = some (.b t' cs' st') → listed.getD j false = true → f j ≠ c := fun j t' cs' st' hk hl => (off_right hco).at (blkIn (fun _ => true) (by have := (List.getElem?_eq_some_iff.1 hk).1; omega) rfl hk hl)
    refine hK (fun k => if k = i then c else f k) a' w' ⟨⟨hfr.defers, hfr.size, fun t v ht => by rw [hne t (hΓ t v ht)]; exact hi.fr.get t v ht⟩, hH, fun j oj y hjo hy hl => ?_, fun j oj t' cs' st' hjo hy hl => ?_, fun j k t1 cs1 st1 t2 cs2 st2 hjk hkj hkk hl hl' => ?_⟩
    · have e : i ≠ j := fun e => by subst e; rw [hx] at hy; cases hy
      rw [getF_set e] at hl
      rw [hne _ (fun hs => hdst j oj hjo e hs (someOf hjo (.inl ⟨_, hy⟩)))]
      exact hi.val j oj y hjo hy hl
    · by_cases e : i = j
      · subst e
        rw [hol] at hjo
        cases hjo
        rw [hx] at hy
        cases hy
        simp only [if_true]
        rw [hcurI]
        exact ⟨hfr.get _ _ (by simp [look]), hc0, off_left hco, hp'.own.1⟩
      · rw [getF_set e] at hl
        obtain ⟨h1, h2, h3, h4⟩ := hi.ptr j oj t' cs' st' hjo hy hl
        rw [hfi j e, hcur hy]
        exact ⟨by rw [hne _ (fun hs => hdst j oj hjo e hs (someOf hjo (.inr ⟨_, _, _, hy⟩)))]; exact h1, h2, h3, hp'.own.at (.tail _ (List.mem_append_right _ (blkIn _ (List.getElem?_eq_some_iff.1 hjo).1 rfl hy hl)))⟩
    · by_cases e : i = j
      · subst e
        have e' : i ≠ k := hjk
        rw [getF_set e'] at hl'
        rw [hfi k e', if_pos rfl]
        exact fun h => hoff k _ _ _ hkk hl' h.symm
      · by_cases e' : i = k
        · subst e'
          rw [getF_set e] at hl
          rw [hfi j e, if_pos rfl]
          exact hoff j _ _ _ hkj hl
        · rw [getF_set e] at hl
          rw [getF_set e'] at hl'
          rw [hfi j e, hfi k e']
          exact hi.inj j k _ _ _ _ _ _ hjk hkj hkk hl hl'
  · rw [Nat.zero_add] at hkj
    have hjl : listed.getD j false = true := hej1 ▸ hlist ej hej hej2
    have hjlt : j < l.length := by have := (List.getElem?_eq_some_iff.1 hkj).1; omega
    obtain ⟨hpj, hfj0, hfjH, hfjc⟩ := hi.ptr j _ t cs _ (List.getElem?_eq_getElem hjlt) hkj hjl
    have hcj : curS listed cs (some (i, cs')) = cs := by unfold curS; simp only; rw [hui]; rfl
    rw [hcj] at hfjc
    obtain ⟨hnew, hfull⟩ := hi.full hkl (fun q => !(Nat.beq q j))
    have hoffX : Off (blksS f listed ks (fun q => !(Nat.beq q j)) l.length) (f j) := Off.of fun x hxm => by
      obtain ⟨q, hq, hpq, hgq⟩ := mem_blksS.1 hxm
      obtain ⟨t', cs2, st2, hk2, hl2, rfl⟩ := blkS_some hgq
      exact hi.inj q j _ _ _ _ _ _ (fun e => by subst e; simp at hpq) hk2 hkj hl2 hjl
    have hfull' : Hp w0 (⟨f j, cs, t⟩ :: (H ++ blksS f listed ks (fun q => !(Nat.beq q j)) l.length)) w :=
      ⟨hfull.upd.mono fun k hk hn ho => hn ho.2, ⟨hfjc, hfull.own⟩, ⟨off_append hfjH hoffX, hfull.apart⟩⟩
    obtain ⟨Γ', hf', hW⟩ := (hW _ f hnew hfj0).run hi.fr hdep hdeb
    refine fin _ (hW.elim a w hf' hfull') (fun _ _ _ h => h.1) ?_
    rintro a' w' ⟨_, hfr, hp'⟩ ⟨u, hu⟩
    have hne := keepT hu
    have hne' : ∀ t : Nat, a'.tmps[t]? = a.tmps[t]? := fun t => hne t (fun hs => by rw [hnd] at hs; cases hs)
    have noI : ∀ {q t : Nat} {cs1 : List Value} {st1 : Option (Nat × List Value)}, ks[q]? = some (.b t cs1 st1) → q ≠ j → curS (listed.setIfInBounds i true) cs1 st1 = curS listed cs1 st1 := fun {q t cs1 st1} hk hq => curS_set fun q' cs2 e e' => by
      have := hcon.out (e ▸ hk)
      rw [Nat.zero_add, e', hx] at this
      cases this
      exact hq rfl
    refine hK f a' w' ⟨⟨hfr.defers, hfr.size, fun t v ht => by rw [hne' t]; exact hi.fr.get t v ht⟩, hp_left (hpPopS hp' hfj0) hnew, fun q oj y hjo hy hl => ?_, fun q oj t1 cs1 st1 hjo hy hl => ?_, fun q k t1 cs1 st1 t2 cs2 st2 hjk hkq hkk hl hl' => ?_⟩
    · have e : i ≠ q := fun e => by subst e; rw [hx] at hy; cases hy
      rw [getF_set e] at hl
      rw [hne']
      exact hi.val q oj y hjo hy hl
    · have e : i ≠ q := fun e => by subst e; rw [hx] at hy; cases hy
      rw [getF_set e] at hl
      obtain ⟨h1, h2, h3, h4⟩ := hi.ptr q oj t1 cs1 st1 hjo hy hl
      by_cases eq : q = j
      · subst eq
        rw [hkj] at hy
        cases hy
        have : curS (listed.setIfInBounds i true) cs (some (i, cs')) = cs' := by unfold curS; simp only; rw [getF_self (by omega), if_pos rfl]
        rw [this]
        exact ⟨by rw [hne']; exact h1, h2, h3, hp'.own.1⟩
      · rw [noI hy eq]
        exact ⟨by rw [hne']; exact h1, h2, h3, hp'.own.at (.tail _ (List.mem_append_right _ (blkIn _ (List.getElem?_eq_some_iff.1 hjo).1 (by rw [beqFalse eq]; rfl) hy hl)))⟩
    · have e : i ≠ q := fun e => by subst e; rw [hx] at hkq; cases hkq
      have e' : i ≠ k := fun e => by subst e; rw [hx] at hkk; cases hkk
      rw [getF_set e] at hl
      rw [getF_set e'] at hl'
      exact hi.inj q k _ _ _ _ _ _ hjk hkq hkk hl hl'
theorem bagS_run {P : Program} {l : List Oper} {N : Nat} {Γ : Env} {w0 : World} {H : List Blk} {ks : List Ks} {Q : Exit → Act → World → Prop} (hc : bagSB l N Γ 0 l = true) (hops : OpsS P l N Γ w0 H ks 0 l ks) (hcon : ConS ks 0 ks)
    (hend : ∀ f listed a w, (∀ j, j < l.length → listed.getD j false = true) → InvS l N Γ w0 H ks f listed a w → Q .normal a w) :
    ∀ n (listed : Array Bool) f a w, listed.size = l.length → listed.toList.count false = n → InvS l N Γ w0 H ks f listed a w →
      (∀ j o, l[j]? = some o → listed.getD j false = true → ∀ e ∈ o.after.toList, Region.binds .any e = true → listed.getD e.on false = true) → wpAny P .any l.toArray Q n listed a w := by
  have hbk : ∀ (i : Nat) (o : Oper), l[i]? = some o → ∀ e ∈ o.after.toList, Region.binds .any e = true → e.on < i := fun i o ho e he hb => by
    have := (bagSB_out hc ho).1 e he hb
    omega
  intro n
  induction n with
  | zero =>
    intro listed f a w hsz hn hi hdown
    have hcn : ∀ j, j < l.length → listed.getD j false = true := fun j hj => by
      have h2 : false ∉ listed.toList := List.count_eq_zero.1 hn
      cases e : listed.getD j false with
      | true => rfl
      | false =>
        rw [Array.getD_eq_getD_getElem?, Array.getElem?_eq_getElem (by omega)] at e
        have h3 : listed[j]'(by omega) ∈ listed.toList := by simp
        have e' : listed[j]'(by omega) = false := e
        rw [e'] at h3
        exact (h2 h3).elim
    have hr : Region.ready .any l.toArray listed = [] := by
      rw [List.eq_nil_iff_forall_not_mem]
      intro i hi'
      have hil := ready_lt hi'
      have := ((ready_iff (List.getElem?_eq_getElem hil)).1 hi').1
      rw [getD_tf (by omega), hcn i hil] at this
      cases this
    exact ⟨hr, hend f listed a w hcn hi⟩
  | succ n ih =>
    intro listed f a w hsz hn hi hdown
    have hex : ∃ j, j < l.length ∧ listed.getD j false = false ∧ ∀ q, q < j → listed.getD q false = true := by
      have key : ∀ d, (∀ j, j < d → listed.getD j false = true) ∨ ∃ j, j < d ∧ listed.getD j false = false ∧ ∀ q, q < j → listed.getD q false = true := by
        intro d
        induction d with
        | zero => exact .inl fun j h => by omega
        | succ d ihd =>
          rcases ihd with h | ⟨j, h1, h2, h3⟩
          · cases hl : listed.getD d false with
            | false => exact .inr ⟨d, by omega, hl, h⟩
            | true =>
              refine .inl fun j hj => ?_
              rcases Nat.lt_succ_iff_lt_or_eq.1 hj with hj | hj
              · exact h j hj
              · subst hj; exact hl
          · exact .inr ⟨j, by omega, h2, h3⟩
      rcases key l.length with h | h
      · exfalso
        have h0 : listed.toList.count false = 0 := List.count_eq_zero.2 fun hm => by
          obtain ⟨j, hj, e⟩ := List.getElem_of_mem hm
          have hj' : j < listed.size := by simpa using hj
          have := h j (by omega)
          rw [Array.getD_eq_getD_getElem?, Array.getElem?_eq_getElem hj'] at this
          have e' : listed[j] = false := by simpa using e
          rw [e'] at this
          cases this
        omega
      · exact h
    refine ⟨fun hr => ?_, fun i hr => ?_⟩
    · obtain ⟨j, hjl, hj, hbefore⟩ := hex
      have ho : l[j]? = some l[j] := List.getElem?_eq_getElem hjl
      have : j ∈ Region.ready .any l.toArray listed := (ready_iff ho).2 ⟨by rw [getD_tf (by omega)]; exact hj, fun e he hb => hbefore e.on (hbk j _ ho e he hb)⟩
      rw [hr] at this
      cases this
    · have hil := ready_lt hr
      have hio := (ready_iff (List.getElem?_eq_getElem hil)).1 hr
      have hcount : (listed.setIfInBounds i true).toList.count false = n := by
        have hi2 : i < listed.size := by omega
        have hfi : listed[i] = false := by
          have := hio.1
          rw [Array.getD_eq_getD_getElem?, Array.getElem?_eq_getElem hi2] at this
          exact this
        have e1 : (listed.setIfInBounds i true).toList = listed.toList.set i true := by simp
        have hlt : i < listed.toList.length := by simpa using hi2
        have e2 : listed.toList[i] = false := by simpa using hfi
        rw [e1, List.count_set (by simpa using hi2)]
        have hn' : Array.count false listed = n + 1 := by rw [← hn]; simp
        simp [hfi]
        omega
      refine hi.step hsz hc hops hcon hr hdown fun f' a' w' hi' => ih _ f' a' w' (by simp [hsz]) hcount hi' fun j o ho hl e he hb => ?_
      have hlist : e.on = i ∨ listed.getD e.on false = true := by
        by_cases e' : i = j
        · subst e'
          have hox := List.getElem?_eq_getElem hil
          rw [ho] at hox
          cases hox
          exact .inr (hio.2 e (by simpa using he) hb)
        · rw [getF_set e'] at hl
          exact .inr (hdown j o ho hl e he hb)
      by_cases e' : i = e.on
      · rw [← e']; exact getF_self (by omega)
      · rw [getF_set e']; exact hlist.resolve_left fun h => e' h.symm
/-- what a block holds at the end -/
def laidS (cs : List Value) : Option (Nat × List Value) → List Value
  | some p => p.2
  | none => cs
/-- what is kept of the values; the blocks, with what was laid into them -/
def EndS (kp : Nat → Bool) (w0 : World) (H : List Blk) (K : Env → List Blk → Prop) : List Oper → List Ks → Nat → Env → List Blk → Prop
  | [], _, _, Γ, B => K Γ B
  | _ :: _, [], _, Γ, B => K Γ B
  | o :: os, .v x :: ks, i, Γ, B => EndS kp w0 H K os ks (i + 1) (bif kp i then (dstO o, x) :: Γ else Γ) B
  | o :: os, .b t cs st :: ks, i, Γ, B => ∀ c, w0.heap.size ≤ c → Off (B ++ H) c → EndS kp w0 H K os ks (i + 1) ((dstO o, .pointer (some ⟨c, 0, none⟩)) :: Γ) (⟨c, laidS cs st, t⟩ :: B)
  | _ :: os, .s _ :: ks, i, Γ, B => EndS kp w0 H K os ks (i + 1) Γ B
theorem EndS.run {kp : Nat → Bool} {w0 : World} {H : List Blk} {K : Env → List Blk → Prop} {l : List Oper} {N : Nat} {Γ0 : Env} {ks : List Ks} {f : Nat → Nat} {listed : Array Bool} {a : Act} {w : World} (hkl : ks.length = l.length) (hcon : ConS ks 0 ks) (hi : InvS l N Γ0 w0 H ks f listed a w) (hall : ∀ j, j < l.length → listed.getD j false = true) :
    ∀ (l' : List Oper) (ks' : List Ks) (i : Nat) (Γ : Env) (B : List Blk), l' = l.drop i → ks' = ks.drop i → i ≤ l.length → Fr N a Γ → B = blksS f listed ks (fun _ => true) i → EndS kp w0 H K l' ks' i Γ B →
      ∃ Γ', Fr N a Γ' ∧ K Γ' (blksS f listed ks (fun _ => true) l.length) := by
  intro l'
  induction l' with
  | nil =>
    intro ks' i Γ B hl hk him hf hB h
    have h1 : l.length ≤ i := by simpa using hl.symm
    have : i = l.length := by omega
    subst this
    subst hB
    cases ks' <;> exact ⟨Γ, hf, h⟩
  | cons o os ih =>
    intro ks' i Γ B hl hk him hf hB h
    have hlt : i < l.length := by
      rcases Nat.lt_or_ge i l.length with h' | h'
      · exact h'
      · rw [List.drop_eq_nil_of_le h'] at hl; cases hl
    have hol : l[i]? = some o := by
      have := List.getElem?_drop (xs := l) (i := i) (j := 0)
      rw [← hl] at this
      simpa using this.symm
    have hos : os = l.drop (i + 1) := by rw [← List.drop_drop, ← hl]; rfl
    have hki : ks[i]? = some (ks[i]'(by omega)) := List.getElem?_eq_getElem (by omega)
    rw [List.drop_eq_getElem_cons (by omega)] at hk
    have bstep : blksS f listed ks (fun _ => true) (i + 1) = (match blkS f listed ks i with | some x => x :: blksS f listed ks (fun _ => true) i | none => blksS f listed ks (fun _ => true) i) := by
      unfold blksS
      rw [List.range_succ, List.reverse_append, List.reverse_singleton, List.singleton_append, List.filterMap_cons]
      simp only [if_true]
      cases blkS f listed ks i <;> rfl
    generalize ks[i]'(by omega) = k at hk hki
    subst hk
    cases k with
    | v x =>
      have hv := hi.val i o x hol hki (hall i hlt)
      refine ih (ks.drop (i + 1)) (i + 1) _ B hos rfl (by omega) ?_ ?_ h
      · cases kp i
        · exact hf
        · exact hf.cons hv
      · rw [bstep, hB]
        unfold blkS
        rw [hki]
    | s j =>
      refine ih (ks.drop (i + 1)) (i + 1) _ B hos rfl (by omega) hf ?_ h
      rw [bstep, hB]
      unfold blkS
      rw [hki]
    | b t cs st =>
      obtain ⟨h1, h2, h3, h4⟩ := hi.ptr i o t cs st hol hki (hall i hlt)
      have hoff : Off B (f i) := by
        rw [hB]
        refine Off.of fun x hx => ?_
        obtain ⟨j, hj, _, hg⟩ := mem_blksS.1 hx
        obtain ⟨t', cs', st', hk', hl', rfl⟩ := blkS_some hg
        exact hi.inj j i _ _ _ _ _ _ (by omega) hk' hki hl' (hall i hlt)
      have hcur : curS listed cs st = laidS cs st := by
        cases st with
        | none => rfl
        | some p =>
          obtain ⟨q, cs'⟩ := p
          have hq := hcon.out hki
          unfold curS
          simp only
          rw [hall q (by have := (List.getElem?_eq_some_iff.1 hq).1; omega), if_pos rfl]
          rfl
      refine ih (ks.drop (i + 1)) (i + 1) _ (⟨f i, laidS cs st, t⟩ :: B) hos rfl (by omega) (hf.cons h1) ?_ (h (f i) h2 (off_append hoff h3))
      rw [bstep, hB]
      unfold blkS
      rw [hki]
      simp only [hall i hlt, if_true]
      rw [hcur]
section
variable {P : Program} {N : Nat} {Γ : Env} {C : World → Prop} {Q : Exit → Act → World → Prop}
theorem St.bagS {i : Nat} {l : List Oper} {w0 : World} {H : List Blk} {ks : List Ks} (sel : List Nat) (hm : P.follows .mixedOrders = true) (hc : bagSB l N Γ 0 l = true)
    (hops : OpsS P l N Γ w0 H ks 0 l ks) (hcon : ConS ks 0 ks)
    (hend : EndS (fun q => sel.any (Nat.beq q)) w0 H (fun Γ' B => Gt N .normal Γ' (Hp w0 (B ++ H)) Q) l ks 0 Γ []) : St (.region i l.toArray true) P N Γ (Hp w0 H) Q := St.intro fun a w ha hw => by
  have hkl := hops.len
  refine wp_region_any hm ?_
  have := bagS_run (Q := Q) hc hops hcon (fun f listed a w hall hi => by
    obtain ⟨Γ', hf, hK⟩ := EndS.run hkl hcon hi hall _ _ 0 Γ [] rfl rfl (Nat.zero_le _) hi.fr (by simp [blksS]) hend
    exact hK.elim a w hf (hp_swap (hi.full hkl _).2)) l.length (Array.replicate l.length false) (fun _ => 0) a w.drew (by simp) (by simp [List.count_replicate])
    ⟨ha, hw.drew, fun i o x ho _ hl => by
      simp [Array.getD_eq_getD_getElem?, Array.getElem?_replicate] at hl
      split at hl <;> simp at hl, fun i o t cs st ho _ hl => by
      simp [Array.getD_eq_getD_getElem?, Array.getElem?_replicate] at hl
      split at hl <;> simp at hl, fun i j t cs st t' cs' st' _ _ _ _ hl => by
      simp [Array.getD_eq_getD_getElem?, Array.getElem?_replicate] at hl
      split at hl <;> simp at hl⟩ (fun j o ho hl => by
      simp [Array.getD_eq_getD_getElem?, Array.getElem?_replicate] at hl
      split at hl <;> simp at hl)
  simpa using this
theorem St.bagSn {i : Nat} {l : List Oper} {w0 : World} {H : List Blk} {ks : List Ks} (n : Nat) (sel : List Nat) (_ : l.length = n) (hm : P.follows .mixedOrders = true) (hc : bagSB l N Γ 0 l = true)
    (hops : OpsS P l N Γ w0 H ks 0 l ks) (hcon : ConS ks 0 ks)
    (hend : EndS (fun q => sel.any (Nat.beq q)) w0 H (fun Γ' B => Gt N .normal Γ' (Hp w0 (B ++ H)) Q) l ks 0 Γ []) : St (.region i l.toArray true) P N Γ (Hp w0 H) Q := St.bagS sel hm hc hops hcon hend
theorem Gt.endS {D : World → Prop} (h : ∀ w, C w → D w) : Gt N .normal Γ C (PostS N [] D) := Gt.intro fun a w ha hw => ⟨rfl, ha.sub .nil, h w hw⟩
theorem EndS.nil' {kp : Nat → Bool} {w0 : World} {H : List Blk} {K : Env → List Blk → Prop} {ks : List Ks} {i : Nat} {B : List Blk} (h : K Γ B) : EndS kp w0 H K [] ks i Γ B := by
  cases ks <;> exact h
theorem EndS.off {kp : Nat → Bool} {w0 : World} {H : List Blk} {K : Env → List Blk → Prop} {ks : List Ks} {i : Nat} {o : Oper} {os : List Oper} {x : Value} {B : List Blk} (hk : kp i = false) (h : EndS kp w0 H K os ks (i + 1) Γ B) : EndS kp w0 H K (o :: os) (.v x :: ks) i Γ B := by
  unfold EndS; rw [hk]; exact h
theorem EndS.st {kp : Nat → Bool} {w0 : World} {H : List Blk} {K : Env → List Blk → Prop} {ks : List Ks} {i j : Nat} {o : Oper} {os : List Oper} {B : List Blk} (h : EndS kp w0 H K os ks (i + 1) Γ B) : EndS kp w0 H K (o :: os) (.s j :: ks) i Γ B := by
  unfold EndS; exact h
theorem EndS.new {kp : Nat → Bool} {w0 : World} {H : List Blk} {K : Env → List Blk → Prop} {ks : List Ks} {i q d : Nat} {op : Op} {ty : TypeId} {pos : String} {af : Array Edge} {g : Option (Nat × Bool)} {os : List Oper} {t : TypeId} {cs cs' : List Value} {B : List Blk} (h : ∀ c, w0.heap.size ≤ c → Off (B ++ H) c → EndS kp w0 H K os ks (i + 1) ((d, .pointer (some ⟨c, 0, none⟩)) :: Γ) (⟨c, cs', t⟩ :: B)) : EndS kp w0 H K (⟨some d, op, ty, pos, af, g⟩ :: os) (.b t cs (some (q, cs')) :: ks) i Γ B := by
  unfold EndS; exact h
theorem Wl.catS {ops : Array Oper} {w0 : World} {l : List Oper} {b b' : Blk} {B H R : List Blk} (e : CatB B H R) (h : Wl l P .seq ops N Γ (Hp w0 (b :: R)) (PostS N [] (Hp w0 (b' :: R)))) : Wl l P .seq ops N Γ (Hp w0 (b :: (B ++ H))) (PostS N [] (Hp w0 (b' :: (B ++ H)))) := by
  rw [e.out] at h; exact h
theorem Gt.catS {B H R : List Blk} {w0 : World} (e : CatB B H R) (h : Gt N .normal Γ (Hp w0 R) Q) : Gt N .normal Γ (Hp w0 (B ++ H)) Q := by
  rw [e.out] at h; exact h
end
attribute [irreducible] EndS
end Go.Pt
end
section
/-
  porticoref05.Public. Conditions: the secret is below 2^256.
-/
namespace Go.Pt
open Go.RowKit
end Go.Pt
namespace Go.Proofs.YtfaobdakpbpkbaaDoor
open Go.RowKit Go.Pt
attribute [local irreducible] Prim.P256 Prim.N256
theorem Bo.lower {w : World} {b b' : Nat} {v : Value} {l : List UInt8} (h : Bo w b v l) (hb : b' ≤ b) : Bo w b' v l := ⟨h.1, h.2.imp id fun ⟨g, cap, cur, e, h1, h2⟩ => ⟨g, cap, cur, e, Nat.le_trans hb h1, h2⟩⟩
end Go.Proofs.YtfaobdakpbpkbaaDoor
end
section
/-
  porticoref01.Sum. Conditions: none.
-/
namespace Go.Pt
open Go.RowKit
section
variable {P : Program} {md : Md} {N : Nat} {ops : Array Oper} {rest : List Oper} {Γ : Env} {C : World → Prop} {Q : Exit → Act → World → Prop} {d : Nat} {ty : TypeId} {pos : String} {af : Array Edge} {t u : TypeId} {x y : Operand} {m n : Nat}
theorem Wl.xorM (hd : Nat.blt d N = true) (hx : ev Γ x = some (.int .u64 (m : Int))) (hy : ev Γ y = some (.int .u64 (n : Int))) (hm : m < 4294967296) (hn : n < 4294967296) (h : Wl rest P md ops N ((d, .int .u64 ((Sha.X m n : Nat) : Int)) :: Γ) C Q) : Wl (⟨some d, .binOp .xor t x y u, ty, pos, af, none⟩ :: rest) P md ops N Γ C Q :=
  Wl.xorN64 hd hx hy (by rw [Sha.X64 hm hn]; exact h)
theorem Wl.andM (hd : Nat.blt d N = true) (hx : ev Γ x = some (.int .u64 (m : Int))) (hy : ev Γ y = some (.int .u64 (n : Int))) (hm : m < 4294967296) (h : Wl rest P md ops N ((d, .int .u64 ((Sha.A m n : Nat) : Int)) :: Γ) C Q) : Wl (⟨some d, .binOp .and t x y u, ty, pos, af, none⟩ :: rest) P md ops N Γ C Q :=
  Wl.andN64 hd hx hy (by rw [Sha.A64 hm]; exact h)
theorem Wl.indexSC {t e by_ : TypeId} [ht : TyD P t (.slice e)] [TyS P e 1 by_] {x i : Operand} {b n c : Nat} {k : IntKind} {jj : Int} (j : Nat) (hd : Nat.blt d N = true) (hx : ev Γ x = some (.slice (some ⟨b, 0, none⟩) n c)) (hi : ev Γ i = some (.int k jj)) (hjj : jj = (j : Int))
    (hj : j < n) (h : Wl rest P md ops N ((d, .pointer (some ⟨b, j, none⟩)) :: Γ) C Q) : Wl (⟨some d, .indexAddr t x i, ty, pos, af, none⟩ :: rest) P md ops N Γ C Q :=
  Wl.indexS0 hd hx (hjj ▸ hi) hj h
theorem Wl.subUC {i : Int} (m : Nat) (hd : Nat.blt d N = true) (hx : ev Γ x = some (.int .u64 i)) (hi : i = (m : Int)) (hy : ev Γ y = some (.int .u64 (n : Int))) (hn : n ≤ m) (hm : m < 18446744073709551616) (h : Wl rest P md ops N ((d, .int .u64 ((m - n : Nat) : Int)) :: Γ) C Q) : Wl (⟨some d, .binOp .sub t x y u, ty, pos, af, none⟩ :: rest) P md ops N Γ C Q :=
  Wl.subE hd hx hy (by rw [hi, IntKind.wrap_u64]; omega) h
end
/-- the second block of a list is let go: it is newer, or as it was -/
theorem hpDrop2 {w0 w : World} {x : Blk} {b t : Nat} {cs : List Value} {H : List Blk} (h : Hp w0 (x :: ⟨b, cs, t⟩ :: H) w) (hy : w0.heap.size ≤ b ∨ w0.heap[b]? = some (.cells cs.toArray t (0, 0))) : Hp w0 (x :: H) w :=
  ⟨⟨h.upd.os, h.upd.tape, h.upd.output, h.upd.size, fun k hk hs => by
    by_cases e : b = k
    · subst e
      rcases hy with hy | hy
      · omega
      · rw [hy]; exact h.own.2.1
    · exact h.upd.block k hk fun y => hs fun ho => y ⟨ho.1, e, ho.2⟩⟩, ⟨h.own.1, h.own.2.2⟩, ⟨h.apart.1.2, h.apart.2.2⟩⟩
end Go.Pt
namespace Go.Proofs.YtfaobdakpbpkbaaDoor
open Go.RowKit Go.Pt
theorem Wl.rightQ {N : Nat} {ops : Array Oper} {rest : List Oper} {Γ : Env} {w0 : World} {H : List Blk} {Q : Exit → Act → World → Prop} {d : Nat} {ty : TypeId} {pos : String} {af : Array Edge} {xs : Array Operand} {ts : Array TypeId} {m : Nat} {k : Int} (r : Nat) (hd : Nat.blt d N = true)
    (hx : Evs Γ xs.toList [.int .u64 (m : Int), .int .u64 k]) (hk : k = (r : Int)) (hr : (decide (r ≤ 31) && decide (0 < r)) = true) (hm : m < 4294967296)
    (h : Wl rest Tryd.prog .seq ops N ((d, .int .u64 ((Sha.rr r m : Nat) : Int)) :: Γ) (Hp w0 H) Q) :
    Wl (⟨some d, .call { callee := .value (.func 52), args := xs, argTypes := ts }, ty, pos, af, none⟩ :: rest) Tryd.prog .seq ops N Γ (Hp w0 H) Q := by
  rw [Bool.and_eq_true] at hr
  subst hk
  exact Wl.callQ hd hx (fun w hw => (refRight m r w hm (of_decide_eq_true hr.1) (of_decide_eq_true hr.2)).mono fun e w' he => ⟨he.1, hw.keep he.2⟩) h
/-- a row of numbers of the call's own, opened -/
theorem rowOpen {w : World} {base n : Nat} {v : Value} {f : Nat → Nat} {xs : List Value} (h : w.ownsRow base 35 1 v n xs) (hn : 0 < n) (hx : xs = cellsN .u64 n f) :
    ∃ g cap rest, v = .slice (some ⟨g, 0, none⟩) n cap ∧ base ≤ g ∧ w.heap[g]? = some (.cells (cellsN .u64 n f ++ rest).toArray 35 (0, 0)) := by
  rcases h.2 with ⟨_, h0⟩ | ⟨g, cap, cur, rfl, hb, hg, _, _, _, ht⟩
  · omega
  · refine ⟨g, cap, cur.toList.drop n, rfl, hb, ?_⟩
    rw [← hx, ← ht, Nat.mul_one, List.take_append_drop]
    simpa using hg
theorem rowArr {w : World} {g n : Nat} {f : Nat → Nat} {rest : List Value} {t : TypeId} {fr : Nat × Nat} {k : IntKind} (h : w.heap[g]? = some (.cells (cellsN k n f ++ rest).toArray t fr)) : ArrAt w g 0 k n f := fun j hj => by
  rw [cellAt h, Nat.zero_add]
  simp only [List.getElem?_toArray]
  rw [List.getElem?_append_left (by rw [cellsN_len]; exact hj), cellsN_get hj]
theorem u64s_range (n : Nat) (f : Nat → Nat) : u64s ((List.range n).map f) = cellsN .u64 n f := by
  unfold u64s cellsN
  rw [List.map_map]; rfl
theorem KL_range : Sha.KL = (List.range 64).map Sha.K := by decide +kernel
theorem rowGet {n j : Nat} {f : Nat → Nat} {rest : List Value} (hj : j < n) : (cellsN .u64 n f ++ rest)[j]? = some (.int .u64 (f j)) := by
  rw [List.getElem?_append_left (by rw [cellsN_len]; exact hj), cellsN_get hj]
/-- bytes at the beginning of a block -/
theorem Bo.arr {w : World} {base : Nat} {v : Value} {l : List UInt8} (h : Bo w base v l) (hne : l ≠ []) : ∃ g cap, v = .slice (some ⟨g, 0, none⟩) l.length cap ∧ base ≤ g ∧ g < w.heap.size ∧ ArrAt w g 0 .u8 l.length (Sha.byteAt l) := by
  have hbs := h.bs
  rcases h.2 with ⟨_, h0⟩ | ⟨g, cap, cur, rfl, hb, hg, _, _, _, ht⟩
  · exact absurd (List.length_eq_zero_iff.1 h0) hne
  · refine ⟨g, cap, rfl, hb, (Array.getElem?_eq_some_iff.1 hg).1, fun j hj => ?_⟩
    obtain ⟨b, off, e, hc⟩ := hbs.cells hne
    cases e
    have := hc j hj
    rw [Sha.byteAt_get hj]
    exact this
/-- what may have turned since a world: what is newer, and two blocks -/
def SB (wB : World) (gh c : Nat) : Nat → Prop := fun k => wB.heap.size ≤ k ∨ k = gh ∨ k = c
theorem SB.of {wB : World} {gh c k : Nat} {b1 b2 : Blk} (h1 : b1.b = gh) (h2 : b2.b = c) (h : ¬ Off [b1, b2] k) : SB wB gh c k := .inr (by
  apply Classical.byContradiction
  intro hn
  exact h ⟨fun e => hn (.inl (e.symm.trans h1)), fun e => hn (.inr (e.symm.trans h2)), trivial⟩)
theorem Wl.lenBs {N : Nat} {ops : Array Oper} {rest : List Oper} {Γ : Env} {C : World → Prop} {Q : Exit → Act → World → Prop} {md : Md} {d : Nat} {ty t : TypeId} {pos : String} {af : Array Edge} {x : Operand} {v : Value} {a : Option Addr} {n c e : Nat} [TyD Tryd.prog t (.slice e)] (he : v = .slice a n c) (hd : Nat.blt d N = true) (hx : ev Γ x = some v)
    (h : Wl rest Tryd.prog md ops N ((d, .int .i64 n) :: Γ) C Q) : Wl (⟨some d, .call { callee := .builtin .len, args := #[x], argTypes := #[t] }, ty, pos, af, none⟩ :: rest) Tryd.prog md ops N Γ C Q := Wl.len hd (he ▸ hx) h
instance tz64u : TyZ Tryd.prog 94 (.agg (cellsN .u64 64 fun _ => 0).toArray) := ⟨by kernel_rfl⟩
theorem z64u : (Value.agg (cellsN .u64 64 fun _ => 0).toArray).cells.toList = cellsN .u64 64 fun _ => 0 := rfl
theorem fillN_lt {f g : Nat → Nat} {i j : Nat} (h : j < i) : fillN f g i j = g j := by unfold fillN; rw [if_pos h]
theorem updN_at (f : Nat → Nat) (i x : Nat) : updN f i x i = x := by unfold updN; rw [if_pos rfl]
theorem updN_upd (f : Nat → Nat) (i x y : Nat) : updN (updN f i x) i y = updN f i y := by funext j; unfold updN; split <;> rfl
theorem updN_self {f : Nat → Nat} {i x : Nat} (h : f i = x) : updN f i x = f := by funext j; unfold updN; split <;> simp_all
theorem v8u (a b c d e f g h : Nat) : [Value.int .u64 (a : Int), .int .u64 (b : Int), .int .u64 (c : Int), .int .u64 (d : Int), .int .u64 (e : Int), .int .u64 (f : Int), .int .u64 (g : Int), .int .u64 (h : Int)] = cellsN .u64 8 (Sha.v8 a b c d e f g h) := by unfold cellsN; rfl
/-- a round's end: what it made is let go -/
theorem hpBack {wq w5 w' : World} {gh c2 : Nat} {x1 x2 x3 x4 : Blk} (U : Upd (SB wq gh c2) wq w5) (h : Hp w5 [x1, x2, x3, x4] w') (h1 : wq.heap.size ≤ x1.b) (h2 : wq.heap.size ≤ x2.b) (h3 : x3.b = gh) (h4 : x4.b = c2) : Hp wq [x3, x4] w' :=
  ⟨U.comp h.upd fun k hk hs ho => hs.elim (fun hs => by
    rcases hs with hs | hs | hs
    · omega
    · exact ho.1 (h3.trans hs.symm)
    · exact ho.2.1 (h4.trans hs.symm)) fun hs => hs ⟨fun e => by omega, fun e => by omega, ho⟩, h.own.2.2, h.apart.2.2⟩
set_option maxHeartbeats 32000000 in
theorem refSum (v : Value) (l : List UInt8) (w : World) (hv : Bs w v l) (hn : l.length < 100000000) (hvl : l ≠ [] → ∀ k, v.ownBlock = some k → k < w.heap.size) :
    Calls Tryd.prog 16 #[v] w fun e w' => e = .returned (.agg (cellsN .u8 32 (Sha.of l)).toArray) ∧ Hp w [] w' := by
  refine enter (args := [_]) (Γ := [(0, _)]) Tryd.func16 Tryd.ntmps16 rfl (of_decide_eq_true rfl) (.cons rfl .nil) ?_
  repeat' (first | (apply Wl.allocN; exact rfl; exact z32b; intro c hc ho) | (apply Wl.nil) | (apply St.seq) | (apply St.region) | (apply Gt.next) | (apply Wl.splitP; exact rfl; exact rfl; all_goals (intros; try (exfalso; omega))) | (apply Wl.splitB; exact rfl; exact rfl; all_goals intros) | (apply St.condP; exact rfl; all_goals (intros; try (exfalso; omega))) | (apply St.condB; exact rfl; all_goals intros))
  apply Wl.callC
  · exact rfl
  · (repeat (first | exact Evs.nil | apply Evs.cons rfl))
  intro wq hq
  refine (refRoots 64 3 312 wq (.inr rfl) (by decide) (by decide) (by decide) Sha.cnt64 Sha.len64).mono ?_
  rintro e wr ⟨v3, rfl, h3, u3⟩
  rw [Sha.rl64, KL_range, u64s_range] at h3
  obtain ⟨ga, capa, resta, rfl, hga, hA⟩ := rowOpen h3 (by decide) rfl
  have hAa := rowArr hA
  have hgal : ga < wr.heap.size := (Array.getElem?_eq_some_iff.1 hA).1
  have lc := hq.own.lt (.head _)
  simp only at lc
  have hsz1 := hq.upd.size
  have hu1 : Upd (fun k => w.heap.size ≤ k) w wr := hpOn (hpNewer hq u3) (Upd.refl _ _) (by simp; omega)
  refine ⟨_, _, rfl, hpRb (hpNewer hq u3), ?_⟩
  have hszr := u3.size
  clear hq u3 h3 hA
  repeat' (first | (apply Wl.assign; exact rfl; exact rfl) | (apply Wl.nil) | (apply St.seq) | (apply St.region) | (apply Gt.next) | (apply Wl.splitP; exact rfl; exact rfl; all_goals (intros; try (exfalso; omega))) | (apply Wl.splitB; exact rfl; exact rfl; all_goals intros) | (apply St.condP; exact rfl; all_goals (intros; try (exfalso; omega))) | (apply St.condB; exact rfl; all_goals intros))
  apply Wl.callC
  · exact rfl
  · (repeat (first | exact Evs.nil | apply Evs.cons rfl))
  intro wq2 hq
  refine (refRoots 8 2 20 wq2 (.inl rfl) (by decide) (by decide) (by decide) Sha.cnt8 Sha.len8).mono ?_
  rintro e wB ⟨v4, rfl, h4, u4⟩
  rw [Sha.rl8, u64s_range] at h4
  obtain ⟨gh, caph, resth, rfl, hgh, hH⟩ := rowOpen h4 (by decide) rfl
  have hszr2 := hq.upd.size
  have hszr4 := u4.size
  have hKB : ArrAt wB ga 0 .u64 64 Sha.K := (hAa.hp hq (Off.of (by simp; omega))).upd u4 (by omega)
  have hghl : gh < wB.heap.size := (Array.getElem?_eq_some_iff.1 hH).1
  have hu2 : Upd (fun k => w.heap.size ≤ k) w wB := hpOn (hpNewer hq u4) hu1 (by simp; omega)
  refine ⟨_, _, rfl, Hp.open (hpRb (hpNewer hq u4)) hH ⟨by simp only; omega, trivial⟩, ?_⟩
  clear hq u4 h4 hH hAa
  have hvB : Bs wB v l := hv.upd hu2 fun k hk hlt _ hs => by omega
  have hvo : ∀ k, v.ownBlock = some k → k < wB.heap.size → byteCells l ≠ [] → Off [⟨gh, cellsN .u64 8 Sha.H0 ++ resth, 35⟩, ⟨c, cellsN .u8 32 fun _ => 0, 45⟩] k := fun k hk _ hne => by
    have := hvl (byteCells_ne.1 hne) k hk
    exact ⟨by simp only; omega, by simp only; omega, trivial⟩
  repeat' (first | (apply Wl.move; exact rfl; exact rfl) | (apply Wl.assign; exact rfl; exact rfl) | (apply Wl.nil) | (apply St.seq) | (apply St.region) | (apply Gt.next) | (apply Wl.splitP; exact rfl; exact rfl; all_goals (intros; try (exfalso; omega))) | (apply Wl.splitB; exact rfl; exact rfl; all_goals intros) | (apply St.condP; exact rfl; all_goals (intros; try (exfalso; omega))) | (apply St.condB; exact rfl; all_goals intros))
  apply Wl.appendV (news := byteCells l) (m := l.length) (base := wB.heap.size) (n := 0) (xs := [])
  · exact rfl
  · exact rfl
  · exact rfl
  · exact hvB
  · exact hvo
  · exact World.ownsRow_nil _ _ _ _
  · intro k hk; simp [Value.ownBlock] at hk
  · exact byteCells_all l
  · exact rfl
  · decide
  · unfold maxLen; omega
  · omega
  · exact Nat.le_refl _
  intro vp w1 ho1 u1 _ hoff1
  have hb1 : Bo w1 wB.heap.size vp l := by
    have := Bo.of (l := []) (m := l) (cs := byteCells l) ho1 (by simp) rfl
    simpa using this
  have hU1 : Upd (SB wB gh c) wB w1 := u1.mono fun k _ hs => hs.elim (fun e => by simp [Value.ownBlock] at e) (SB.of rfl rfl)
  clear ho1 u1
  generalize c = c2 at *
  have hcw : w.heap.size ≤ c2 := hc
  repeat' (first | (apply Wl.lit; exact rfl; (repeat (first | exact Parts.nil | apply Parts.cons rfl)); exact rfl; exact rfl; (repeat (first | apply CatP.nil | (apply CatP.one; exact rfl; exact rfl) | (apply CatP.agg; exact rfl) | apply LApp.nil | apply LApp.cons)); intro c hc ho) | (apply Wl.splitP; exact rfl; exact rfl; all_goals (intros; try (exfalso; omega))) | (apply Wl.splitB; exact rfl; exact rfl; all_goals intros) | (apply St.condP; exact rfl; all_goals (intros; try (exfalso; omega))) | (apply St.condB; exact rfl; all_goals intros))
  apply Wl.appendT
  · exact rfl
  · exact rfl
  · exact rfl
  · exact hc
  · exact rfl
  · exact hb1
  · intro k hk
    have := hb1.base hk
    exact ⟨by simp only; omega, by simp only; omega, trivial⟩
  · exact rfl
  · exact rfl
  · decide
  · unfold maxLen; omega
  · omega
  · exact hU1.size
  intro vq wC ho1 u1 _ hoff2
  have hbC : Bo wC wB.heap.size vq (l ++ 0x80 :: Sha.zeros 0) := Bo.of (l := l) (m := [0x80]) ho1 rfl rfl
  have hUC : Upd (SB wB gh c2) wB wC := hU1.comp u1 fun k hk hs => hs.elim id fun hs => hs.elim (fun e => .inl (hb1.base e)) (SB.of rfl rfl)
  clear ho1 u1 hb1 hU1 hoff1 hoff2
  repeat' (first | (apply Wl.assign; exact rfl; exact rfl) | (apply Wl.nil) | (apply St.seq) | (apply St.block) | (apply Gt.next) | (apply Wl.splitP; exact rfl; exact rfl; all_goals (intros; try (exfalso; omega))) | (apply Wl.splitB; exact rfl; exact rfl; all_goals intros) | (apply St.condP; exact rfl; all_goals (intros; try (exfalso; omega))) | (apply St.condB; exact rfl; all_goals intros))
  generalize hk : (119 - l.length % 64) % 64 = kz
  refine St.loop (σ := Nat × World × Value) (fun τ => τ.1 ≤ kz ∧ Upd (SB wB gh c2) wB τ.2.1 ∧ Bo τ.2.1 wB.heap.size τ.2.2 (l ++ 0x80 :: Sha.zeros τ.1))
    (fun τ => [(0, v), (2, mp c2), (3, .slice (some ⟨ga, 0, none⟩) 64 capa), (4, .slice (some ⟨gh, 0, none⟩) 8 caph), (5, τ.2.2)])
    (fun τ => Hp τ.2.1 [⟨gh, cellsN .u64 8 Sha.H0 ++ resth, 35⟩, ⟨c2, cellsN .u8 32 fun _ => 0, 45⟩]) (fun τ => kz - τ.1) (0, wC, vq) ⟨by simp, hUC, hbC⟩ (by (repeat (first | exact Sub.nil | apply Sub.cons rfl))) (fun _ h => h) ?_
  clear hbC hUC
  rintro ⟨j, wj, vj⟩ ⟨hj, hU, hb⟩
  simp only at hj hU hb ⊢
  obtain ⟨pa, pcap, e1, hpl, hpm⟩ := hb.shape
  have hlen : (l ++ 0x80 :: Sha.zeros j).length = l.length + 1 + j := by simp [Sha.zeros]; omega
  have hlm : ((l.length + 1 + j : Nat) : Int) % 64 = (((l.length + 1 + j) % 64 : Nat) : Int) := by omega
  rw [hlen] at e1
  subst e1
  by_cases hlt : j < kz
  · have hd : decide ((((l.length + 1 + j) % 64 : Nat) : Int) ≠ 56) = true := decide_eq_true (by omega)
    repeat' (first | (apply Wl.remN (n := 64); exact rfl; exact rfl; exact rfl; (decide)) | (apply Wl.move; exact rfl; exact rfl) | (apply Wl.neq; exact rfl; exact rfl; exact rfl) | (apply Wl.len; exact rfl; exact rfl) | (apply Wl.lit; exact rfl; (repeat (first | exact Parts.nil | apply Parts.cons rfl)); exact rfl; exact rfl; (repeat (first | apply CatP.nil | (apply CatP.one; exact rfl; exact rfl) | (apply CatP.agg; exact rfl) | apply LApp.nil | apply LApp.cons)); intro c hc ho) | (apply Wl.nil) | (apply St.seq) | (apply St.block) | (apply St.region) | (apply St.condT; exact rfl; (first | with_reducible rfl | with_reducible assumption | decide)) | (apply St.skip) | (apply Gt.next) | (apply Wl.splitP; exact rfl; exact rfl; all_goals (intros; try (exfalso; omega))) | (apply Wl.splitB; exact rfl; exact rfl; all_goals intros) | (apply St.condP; exact rfl; all_goals (intros; try (exfalso; omega))) | (apply St.condB; exact rfl; all_goals intros))
    apply Wl.appendT
    · exact rfl
    · exact rfl
    · exact rfl
    · exact hc
    · exact rfl
    · exact hb
    · intro k hk
      have := hb.base hk
      exact ⟨by simp only; omega, by simp only; omega, trivial⟩
    · exact rfl
    · exact rfl
    · decide
    · unfold maxLen; omega
    · omega
    · exact hU.size
    intro vk wk ho1 u1 _ _
    have hbk : Bo wk wB.heap.size vk (l ++ 0x80 :: Sha.zeros (j + 1)) := by
      have := Bo.of (l := l ++ 0x80 :: Sha.zeros j) (m := [0]) ho1 (by rw [hlen]; rfl) rfl
      rw [List.append_assoc, List.cons_append, show Sha.zeros j ++ [0] = Sha.zeros (j + 1) by unfold Sha.zeros; rw [List.replicate_succ']] at this
      exact this
    have hUk : Upd (SB wB gh c2) wB wk := hU.comp u1 fun k hk hs => hs.elim id fun hs => hs.elim (fun e => .inl (hb.base e)) (SB.of rfl rfl)
    clear ho1 u1
    repeat' (first | (apply Wl.assign; exact rfl; exact rfl) | (apply Wl.nil) | (apply Gt.inNormal) | (apply Wl.splitP; exact rfl; exact rfl; all_goals (intros; try (exfalso; omega))) | (apply Wl.splitB; exact rfl; exact rfl; all_goals intros) | (apply St.condP; exact rfl; all_goals (intros; try (exfalso; omega))) | (apply St.condB; exact rfl; all_goals intros))
    apply Gt.round (j + 1, wk, vk)
    rotate_left
    · simp only; omega
    · (repeat (first | exact Sub.nil | apply Sub.cons rfl))
    · exact fun _ h => h
    · exact ⟨by simp only; omega, hUk, hbk⟩
  have hjk : j = kz := by omega
  subst hjk
  have hd : decide ((((l.length + 1 + j) % 64 : Nat) : Int) ≠ 56) = false := decide_eq_false (by omega)
  repeat' (first | (apply Wl.remN (n := 64); exact rfl; exact rfl; exact rfl; (decide)) | (apply Wl.move; exact rfl; exact rfl) | (apply Wl.assign; exact rfl; exact rfl) | (apply Wl.neq; exact rfl; exact rfl; exact rfl) | (apply Wl.len; exact rfl; exact rfl) | (apply Wl.nil) | (apply St.seq) | (apply St.block) | (apply St.region) | (apply St.condF; exact rfl; (first | with_reducible rfl | with_reducible assumption | decide)) | (apply St.exit) | (apply Gt.next) | (apply Gt.thenExit) | (apply Gt.inExit) | (apply Wl.splitP; exact rfl; exact rfl; all_goals (intros; try (exfalso; omega))) | (apply Wl.splitB; exact rfl; exact rfl; all_goals intros) | (apply St.condP; exact rfl; all_goals (intros; try (exfalso; omega))) | (apply St.condB; exact rfl; all_goals intros))
  obtain ⟨av, capv, hve, hvl2, _⟩ := hvB.shape
  have hl8 : (Sha.be8 (l.length * 8)).length = 8 := by simp [Sha.be8]
  refine St.loop (σ := Nat × World × Value) (fun τ => τ.1 ≤ 8 ∧ Upd (SB wB gh c2) wB τ.2.1 ∧ Bo τ.2.1 wB.heap.size τ.2.2 (l ++ 0x80 :: (Sha.zeros j ++ (Sha.be8 (l.length * 8)).take τ.1)))
    (fun τ => [(0, v), (2, mp c2), (3, .slice (some ⟨ga, 0, none⟩) 64 capa), (4, .slice (some ⟨gh, 0, none⟩) 8 caph), (5, τ.2.2), (6, .int .i64 (7 - (τ.1 : Int)))])
    (fun τ => Hp τ.2.1 [⟨gh, cellsN .u64 8 Sha.H0 ++ resth, 35⟩, ⟨c2, cellsN .u8 32 fun _ => 0, 45⟩]) (fun τ => 8 - τ.1) (0, wj, .slice pa (l.length + 1 + j) pcap) ⟨by simp, hU, by simpa using hb⟩ (by (repeat (first | exact Sub.nil | apply Sub.cons rfl))) (fun _ h => h) ?_
  clear hb hU hpl hpm hlt hd hlm
  rintro ⟨q, wq, vq⟩ ⟨hq, hU, hb⟩
  simp only at hq hU hb ⊢
  have hlen2 : (l ++ 0x80 :: (Sha.zeros j ++ (Sha.be8 (l.length * 8)).take q)).length = l.length + 1 + j + q := by
    simp [Sha.zeros, hl8]; omega
  obtain ⟨pa, pcap, e1, hpl, hpm⟩ := hb.shape
  rw [hlen2] at e1
  subst e1
  by_cases hlt : q < 8
  · have e7 : (7 : Int) - (q : Int) = ((7 - q : Nat) : Int) := by omega
    rw [e7]
    have hd : decide (((7 - q : Nat) : Int) ≥ 0) = true := decide_eq_true (by omega)
    have hd' : decide (0 ≤ ((7 - q : Nat) : Int)) = true := decide_eq_true (by omega)
    repeat' (first | (apply Wl.lenBs hve; exact rfl; exact rfl) | (apply Wl.mulNI (n := 8); exact rfl; exact rfl; exact rfl; (omega)) | (apply Wl.mulNI (m := 8); exact rfl; exact rfl; exact rfl; (omega)) | (apply Wl.shrV; exact rfl; exact rfl; exact rfl; (show _ ≤ 64; omega)) | (apply Wl.convN8; exact rfl; exact rfl) | (apply Wl.move; exact rfl; exact rfl) | (apply Wl.geq; exact rfl; exact rfl; exact rfl) | (apply Wl.lit; exact rfl; (repeat (first | exact Parts.nil | apply Parts.cons rfl)); exact rfl; exact rfl; (repeat (first | apply CatP.nil | (apply CatP.one; exact rfl; exact rfl) | (apply CatP.agg; exact rfl) | apply LApp.nil | apply LApp.cons)); intro c hc ho) | (apply Wl.nil) | (apply St.seq) | (apply St.block) | (apply St.region) | (apply St.condT; exact rfl; (first | with_reducible rfl | with_reducible assumption | decide)) | (apply St.skip) | (apply Gt.next) | (apply Wl.splitP; exact rfl; exact rfl; all_goals (intros; try (exfalso; omega))) | (apply Wl.splitB; exact rfl; exact rfl; all_goals intros) | (apply St.condP; exact rfl; all_goals (intros; try (exfalso; omega))) | (apply St.condB; exact rfl; all_goals intros))
    apply Wl.appendT
    · exact rfl
    · exact rfl
    · exact rfl
    · exact hc
    · exact rfl
    · exact hb
    · intro k hk
      have := hb.base hk
      exact ⟨by simp only; omega, by simp only; omega, trivial⟩
    · exact rfl
    · exact rfl
    · decide
    · unfold maxLen; omega
    · omega
    · exact hU.size
    intro vk wk ho1 u1 _ _
    have he8 : 56 - 8 * q = 8 * (7 - q) := by omega
    have hge : (Sha.be8 (l.length * 8)).take (q + 1) = (Sha.be8 (l.length * 8)).take q ++ [UInt8.ofNat (l.length * 8 / 2 ^ (8 * (7 - q)))] := by
      rw [List.take_succ_eq_append_getElem (by omega)]
      simp [Sha.be8, he8]
    have hbk : Bo wk wB.heap.size vk (l ++ 0x80 :: (Sha.zeros j ++ (Sha.be8 (l.length * 8)).take (q + 1))) := by
      have := Bo.of (l := l ++ 0x80 :: (Sha.zeros j ++ (Sha.be8 (l.length * 8)).take q)) (m := [UInt8.ofNat (l.length * 8 / 2 ^ (8 * (7 - q)))]) ho1 (by rw [hlen2]; rfl) (by simp [byteCells])
      rw [hge]
      simpa using this
    have hUk : Upd (SB wB gh c2) wB wk := hU.comp u1 fun k hk hs => hs.elim id fun hs => hs.elim (fun e => .inl (hb.base e)) (SB.of rfl rfl)
    clear ho1 u1
    repeat' (first | (apply Wl.move; exact rfl; exact rfl) | (apply Wl.assign; exact rfl; exact rfl) | (apply Wl.subI; exact rfl; exact rfl; exact rfl; (constructor <;> omega)) | (apply Wl.nil) | (apply St.region) | (apply Gt.next) | (apply Gt.inNormal) | (apply Wl.splitP; exact rfl; exact rfl; all_goals (intros; try (exfalso; omega))) | (apply Wl.splitB; exact rfl; exact rfl; all_goals intros) | (apply St.condP; exact rfl; all_goals (intros; try (exfalso; omega))) | (apply St.condB; exact rfl; all_goals intros))
    apply Gt.round (q + 1, wk, vk)
    rotate_left
    · simp only; omega
    · have e8 : (7 : Int) - ((q + 1 : Nat) : Int) = ((7 - q : Nat) : Int) - 1 := by omega
      rw [e8]
      (repeat (first | exact Sub.nil | apply Sub.cons rfl))
    · exact fun _ h => h
    · exact ⟨by simp only; omega, hUk, hbk⟩
  have hq8 : q = 8 := by omega
  subst hq8
  have hd : decide ((7 : Int) - ((8 : Nat) : Int) ≥ 0) = false := by decide
  have hd' : decide (0 ≤ (7 : Int) - ((8 : Nat) : Int)) = false := by decide
  rw [show l ++ 0x80 :: (Sha.zeros j ++ (Sha.be8 (l.length * 8)).take 8) = Sha.padded l by
    unfold Sha.padded Sha.pad
    rw [hk, List.take_of_length_le (by omega)]] at hb hlen2
  have hlen3 := Sha.padded_len l
  rw [hk] at hlen3
  have hof := Sha.of_eq l
  generalize hpd : Sha.padded l = pd at *
  repeat' (first | (apply Wl.move; exact rfl; exact rfl) | (apply Wl.assign; exact rfl; exact rfl) | (apply Wl.geq; exact rfl; exact rfl; exact rfl) | (apply Wl.nil) | (apply St.seq) | (apply St.block) | (apply St.region) | (apply St.condF; exact rfl; (first | with_reducible rfl | with_reducible assumption | decide)) | (apply St.exit) | (apply Gt.next) | (apply Gt.thenExit) | (apply Gt.inExit) | (apply Wl.splitP; exact rfl; exact rfl; all_goals (intros; try (exfalso; omega))) | (apply Wl.splitB; exact rfl; exact rfl; all_goals intros) | (apply St.condP; exact rfl; all_goals (intros; try (exfalso; omega))) | (apply St.condB; exact rfl; all_goals intros))
  obtain ⟨gp, capp, ep, hgp, hgpl, hP⟩ := hb.arr (fun e => by subst e; simp at hlen2)
  rw [← hlen2] at ep
  cases ep
  rw [← hlen2]
  have hpl8 : pd.length = 64 * (pd.length / 64) := by omega
  generalize hNb : pd.length / 64 = NB at *
  have hKq : ArrAt wq ga 0 .u64 64 Sha.K := hKB.upd hU (fun h => by rcases h with h | h | h <;> omega)
  clear hb hpl hpm hpd hlt hd hd'
  refine St.loop (σ := Nat × World) (fun τ => τ.1 ≤ NB ∧ Upd (SB wq gh c2) wq τ.2) (fun τ => [(2, mp c2), (3, .slice (some ⟨ga, 0, none⟩) 64 capa), (4, .slice (some ⟨gh, 0, none⟩) 8 caph), (5, .slice (some ⟨gp, 0, none⟩) pd.length pcap), (7, .int .i64 ((64 * τ.1 : Nat) : Int))])
    (fun τ => Hp τ.2 [⟨gh, cellsN .u64 8 (Sha.hN Sha.H0 pd τ.1) ++ resth, 35⟩, ⟨c2, cellsN .u8 32 fun _ => 0, 45⟩]) (fun τ => NB - τ.1) (0, wq) ⟨by simp, Upd.refl _ _⟩ (by (repeat (first | exact Sub.nil | apply Sub.cons rfl))) (fun _ h => h) ?_
  rintro ⟨k, wk⟩ ⟨hkN, hUk⟩
  simp only at hkN hUk ⊢
  have hPk : ArrAt wk gp 0 .u8 pd.length (Sha.byteAt pd) := hP.upd hUk (fun h => by rcases h with h | h | h <;> omega)
  have hKk : ArrAt wk ga 0 .u64 64 Sha.K := hKq.upd hUk (fun h => by rcases h with h | h | h <;> omega)
  have hszk := hUk.size
  have hHl : ∀ j, j < 8 → Sha.hN Sha.H0 pd k j < 4294967296 := fun j hj => by
    cases k with
    | zero => exact Sha.H0_lt j hj
    | succ k => exact Sha.comp_lt _ _ _
  by_cases hlt : k < NB
  · have hd : decide (((64 * k : Nat) : Int) < ((pd.length : Nat) : Int)) = true := decide_eq_true (by omega)
    have hstep : Sha.hN Sha.H0 pd (k + 1) = Sha.comp (Sha.hN Sha.H0 pd k) fun j => Sha.byteAt pd (64 * k + j) := rfl
    generalize Sha.hN Sha.H0 pd k = h at *
    generalize hpB : (fun j => Sha.byteAt pd (64 * k + j)) = pB at *
    have hpl : ∀ j, pB j < 256 := fun j => by rw [← hpB]; exact Sha.byteAt_lt _ _
    have hcomp : Sha.comp h pB = fun j => Sha.P (h j) (Sha.rnds Sha.K (Sha.sch (Sha.ldw pB 64) 48) h 64 j) := rfl
    have hW1 : ∀ i, i < 16 → Sha.sch (Sha.ldw pB 64) 48 i = Sha.word pB i := fun i hi => by rw [Sha.sch_lo _ hi, Sha.ldw64 hpl, if_pos hi]
    have hW2 : ∀ i, 16 ≤ i → i < 64 → Sha.sch (Sha.ldw pB 64) 48 i = Sha.sch1 (Sha.sch (Sha.ldw pB 64) 48) i := fun i h1 h2 => Sha.sch_at _ h1 h2
    have hW3 : ∀ i, i < 64 → Sha.sch (Sha.ldw pB 64) 48 i < 4294967296 := fun i hi => Sha.sch_lt (fun j => by
      rw [Sha.ldw64 hpl]
      split
      · exact Sha.word_lt hpl _
      · decide) hi
    generalize Sha.sch (Sha.ldw pB 64) 48 = W at *
    repeat' (first | (apply Wl.allocN; exact rfl; exact z64u; intro c hc ho) | (apply Wl.move; exact rfl; exact rfl) | (apply Wl.assign; exact rfl; exact rfl) | (apply Wl.lss; exact rfl; exact rfl; exact rfl) | (apply Wl.len; exact rfl; exact rfl) | (apply Wl.nil) | (apply St.seq) | (apply St.block) | (apply St.region) | (apply St.condT; exact rfl; (first | with_reducible rfl | with_reducible assumption | decide)) | (apply St.skip) | (apply Gt.next) | (apply Wl.splitP; exact rfl; exact rfl; all_goals (intros; try (exfalso; omega))) | (apply Wl.splitB; exact rfl; exact rfl; all_goals intros) | (apply St.condP; exact rfl; all_goals (intros; try (exfalso; omega))) | (apply St.condB; exact rfl; all_goals intros))
    refine St.loop (σ := Nat) (fun i => i ≤ 64) (fun i => [(2, mp c2), (3, .slice (some ⟨ga, 0, none⟩) 64 capa), (4, .slice (some ⟨gh, 0, none⟩) 8 caph), (5, .slice (some ⟨gp, 0, none⟩) pd.length pcap), (7, .int .i64 ((64 * k : Nat) : Int)), (8, mp c), (9, .int .i64 i)])
      (fun i => Hp wk [⟨c, cellsN .u64 64 (fillN (fun _ => 0) W i), 94⟩, ⟨gh, cellsN .u64 8 h ++ resth, 35⟩, ⟨c2, cellsN .u8 32 fun _ => 0, 45⟩]) (fun i => 64 - i) 0 (by omega) (by (repeat (first | exact Sub.nil | apply Sub.cons rfl))) (fun _ h => by rw [fillN_zero]; exact h) ?_
    intro i hi
    have hset : updN (fillN (fun _ => 0) W i) i (W i) = fillN (fun _ => 0) W (i + 1) := fillN_step _ _ _
    by_cases hli : i < 64
    · have hdi : decide ((i : Int) < 64) = true := decide_eq_true (by omega)
      by_cases h16 : i < 16
      · have hd16 : decide ((i : Int) < 16) = true := decide_eq_true (by omega)
        repeat' (first | (apply Wl.move; exact rfl; exact rfl) | (apply Wl.assign; exact rfl; exact rfl) | (apply Wl.lss; exact rfl; exact rfl; exact rfl) | (apply Wl.nil) | (apply St.seq) | (apply St.block) | (apply St.region) | (apply St.condT; exact rfl; (first | with_reducible rfl | with_reducible assumption | decide)) | (apply St.skip) | (apply Gt.next) | (apply Wl.splitP; exact rfl; exact rfl; all_goals (intros; try (exfalso; omega))) | (apply Wl.splitB; exact rfl; exact rfl; all_goals intros) | (apply St.condP; exact rfl; all_goals (intros; try (exfalso; omega))) | (apply St.condB; exact rfl; all_goals intros))
        refine St.loop (σ := Nat) (fun q => q ≤ 4) (fun q => [(2, mp c2), (3, .slice (some ⟨ga, 0, none⟩) 64 capa), (4, .slice (some ⟨gh, 0, none⟩) 8 caph), (5, .slice (some ⟨gp, 0, none⟩) pd.length pcap), (7, .int .i64 ((64 * k : Nat) : Int)), (8, mp c), (9, .int .i64 i), (10, .int .i64 q)])
          (fun q => Hp wk [⟨c, cellsN .u64 64 (updN (fillN (fun _ => 0) W i) i (Sha.wpart pB i q)), 94⟩, ⟨gh, cellsN .u64 8 h ++ resth, 35⟩, ⟨c2, cellsN .u8 32 fun _ => 0, 45⟩]) (fun q => 4 - q) 0 (by omega) (by (repeat (first | exact Sub.nil | apply Sub.cons rfl)))
          (fun _ h => by rw [show updN (fillN (fun _ => 0) W i) i (Sha.wpart pB i 0) = fillN (fun _ => 0) W i from updN_self (by unfold fillN; rw [if_neg (by omega)]; rfl)]; exact h) ?_
        intro q hq4
        by_cases hlq : q < 4
        · have hdq : decide ((q : Int) < 4) = true := decide_eq_true (by omega)
          have hwl : Sha.wpart pB i q < 16777216 := Nat.lt_of_lt_of_le (Sha.wpart_lt hpl i q) (Nat.le_trans (Nat.pow_le_pow_right (by decide) (show q ≤ 3 by omega)) (by decide))
          have hG := updN_at (fillN (fun _ => 0) W i) i (Sha.wpart pB i q)
          have hnx : updN (fillN (fun _ => 0) W i) i (Sha.wpart pB i (q + 1)) = updN (updN (fillN (fun _ => 0) W i) i (Sha.wpart pB i q)) i (Sha.wpart pB i q * 256 + Sha.byteAt pd (64 * k + 4 * i + q)) := by
            rw [updN_upd]
            show updN _ i (Sha.wpart pB i q * 256 + pB (4 * i + q)) = _
            rw [show pB (4 * i + q) = Sha.byteAt pd (64 * k + 4 * i + q) by
              rw [← hpB]
              show Sha.byteAt pd (64 * k + (4 * i + q)) = _
              rw [show 64 * k + (4 * i + q) = 64 * k + 4 * i + q by omega]]
          generalize updN (fillN (fun _ => 0) W i) i (Sha.wpart pB i q) = G at *
          have hGl : G i < 16777216 := by rw [hG]; exact hwl
          have hbl := Sha.byteAt_lt pd (64 * k + 4 * i + q)
          have hbl2 : Sha.byteAt pd (64 * k + 4 * i + q) < 18446744073709551616 := by omega
          repeat' (first | (apply St.bagX 17 []; exact mixed; (decide +kernel); kernel_rfl) | (apply OpsX.nil) | (apply OpsX.v; (intro X hX; change Wl [_] _ _ _ _ _ _ _; apply Wl.catX; (repeat (first | apply CatB.nil | apply CatB.cons)))) | (apply Gt.endX; exact rfl) | (apply EndX.on; exact rfl) | (apply EndX.off; exact rfl) | (apply EndX.nil'; apply Wl.catE; (repeat (first | apply CatB.nil | apply CatB.cons))) | (apply Wl.mulNI (m := 4); exact rfl; exact rfl; exact rfl; (omega)) | (apply Wl.addNI (m := 64 * k) (n := 4 * i); exact rfl; exact rfl; exact rfl; (omega)) | (apply Wl.addNI (m := 64 * k + 4 * i) (n := q); exact rfl; exact rfl; exact rfl; (omega)) | (apply Wl.indexS0; exact rfl; exact rfl; exact rfl; (first | with_reducible assumption | omega)) | (apply Wl.indexA; exact rfl; exact rfl; exact rfl; (first | with_reducible assumption | omega)) | (apply Wl.loadME; exact rfl; exact rfl; exact hPk; (first | (repeat (first | exact trivial | exact hX.off (by omega) | refine ⟨by first | assumption | omega | (simp only; omega), ?_⟩)) | (apply Off.of; simp; omega)); (omega)) | (apply Wl.mulNU (n := 256); exact rfl; exact rfl; exact rfl; (omega)) | (apply Wl.loadN; exact rfl; exact rfl; (repeat (first | exact List.Mem.head _ | apply List.Mem.tail)); (omega)) | (apply Wl.storeN; exact rfl; exact rfl; (repeat (first | apply HSet.here | apply HSet.there)); (omega)) | (apply Wl.addNU; exact rfl; exact rfl; exact rfl; (first | assumption | omega)) | (apply Wl.convNU; exact rfl; exact rfl; (with_reducible assumption)) | (apply Wl.move; exact rfl; exact rfl) | (apply Wl.assign; exact rfl; exact rfl) | (apply Wl.lss; exact rfl; exact rfl; exact rfl) | (apply Wl.addI; exact rfl; exact rfl; exact rfl; (constructor <;> omega)) | (apply Wl.nil) | (apply St.seq) | (apply St.block) | (apply St.region) | (apply St.condT; exact rfl; (first | with_reducible rfl | with_reducible assumption | decide)) | (apply St.skip) | (apply Gt.next) | (apply Gt.inNormal) | (apply Wl.splitP; exact rfl; exact rfl; all_goals (intros; try (exfalso; omega))) | (apply Wl.splitB; exact rfl; exact rfl; all_goals intros) | (apply St.condP; exact rfl; all_goals (intros; try (exfalso; omega))) | (apply St.condB; exact rfl; all_goals intros))
          rw [hG]
          apply Gt.round (q + 1)
          rotate_left
          · omega
          · (repeat (first | exact Sub.nil | apply Sub.cons rfl))
          · exact fun _ h => by rw [hnx]; exact h
          · omega
        have hq4' : q = 4 := by omega
        subst hq4'
        rw [Sha.wpart4, ← hW1 i h16, hset]
        repeat' (first | (apply Wl.move; exact rfl; exact rfl) | (apply Wl.assign; exact rfl; exact rfl) | (apply Wl.lss; exact rfl; exact rfl; exact rfl) | (apply Wl.addI; exact rfl; exact rfl; exact rfl; (constructor <;> omega)) | (apply Wl.nil) | (apply St.seq) | (apply St.region) | (apply St.condF; exact rfl; (first | with_reducible rfl | with_reducible assumption | decide)) | (apply St.exit) | (apply Gt.next) | (apply Gt.thenExit) | (apply Gt.inExit) | (apply Wl.splitP; exact rfl; exact rfl; all_goals (intros; try (exfalso; omega))) | (apply Wl.splitB; exact rfl; exact rfl; all_goals intros) | (apply St.condP; exact rfl; all_goals (intros; try (exfalso; omega))) | (apply St.condB; exact rfl; all_goals intros))
        apply Gt.round (i + 1)
        rotate_left
        · omega
        · (repeat (first | exact Sub.nil | apply Sub.cons rfl))
        · exact fun _ h => h
        · omega
      · have hd16 : decide ((i : Int) < 16) = false := decide_eq_false (by omega)
        have g16 := fillN_lt (f := fun _ => 0) (g := W) (show i - 16 < i by omega)
        have g15 := fillN_lt (f := fun _ => 0) (g := W) (show i - 15 < i by omega)
        have g7 := fillN_lt (f := fun _ => 0) (g := W) (show i - 7 < i by omega)
        have g2 := fillN_lt (f := fun _ => 0) (g := W) (show i - 2 < i by omega)
        have b15 := hW3 (i - 15) (by omega)
        have b2 := hW3 (i - 2) (by omega)
        have hWi := hW2 i (by omega) hli
        unfold Sha.sch1 Sha.sg0 Sha.sg1 at hWi
        rw [← g16, ← g15, ← g7, ← g2, ← Sha.add4] at hWi
        rw [← g15] at b15
        rw [← g2] at b2
        generalize fillN (fun _ => 0) W i = G at *
        repeat' (first | (apply St.bagX 10 [8,9]; exact mixed; (decide +kernel); kernel_rfl) | (apply St.bagX 30 []; exact mixed; (decide +kernel); kernel_rfl) | (apply OpsX.nil) | (apply OpsX.v; (intro X hX; change Wl [_] _ _ _ _ _ _ _; apply Wl.catX; (repeat (first | apply CatB.nil | apply CatB.cons)))) | (apply Gt.endX; exact rfl) | (apply EndX.on; exact rfl) | (apply EndX.off; exact rfl) | (apply EndX.nil'; apply Wl.catE; (repeat (first | apply CatB.nil | apply CatB.cons))) | (apply Wl.subC 15; exact rfl; exact rfl; exact rfl; exact rfl; (omega); (omega)) | (apply Wl.subC 2; exact rfl; exact rfl; exact rfl; exact rfl; (omega); (omega)) | (apply Wl.subC 16; exact rfl; exact rfl; exact rfl; exact rfl; (omega); (omega)) | (apply Wl.subC 7; exact rfl; exact rfl; exact rfl; exact rfl; (omega); (omega)) | (apply Wl.indexA; exact rfl; exact rfl; exact rfl; (first | with_reducible assumption | omega)) | (apply Wl.rightQ 7; exact rfl; (repeat (first | exact Evs.nil | apply Evs.cons rfl)); exact rfl; (decide); (first | with_reducible assumption | with_reducible exact Sha.rr_lt _ _ | with_reducible exact Sha.X_lt _ _ | with_reducible exact Sha.A_lt _ _ | with_reducible exact Sha.P_lt _ _ | with_reducible exact Sha.div_lt _ (by with_reducible assumption) | omega)) | (apply Wl.rightQ 17; exact rfl; (repeat (first | exact Evs.nil | apply Evs.cons rfl)); exact rfl; (decide); (first | with_reducible assumption | with_reducible exact Sha.rr_lt _ _ | with_reducible exact Sha.X_lt _ _ | with_reducible exact Sha.A_lt _ _ | with_reducible exact Sha.P_lt _ _ | with_reducible exact Sha.div_lt _ (by with_reducible assumption) | omega)) | (apply Wl.rightQ 18; exact rfl; (repeat (first | exact Evs.nil | apply Evs.cons rfl)); exact rfl; (decide); (first | with_reducible assumption | with_reducible exact Sha.rr_lt _ _ | with_reducible exact Sha.X_lt _ _ | with_reducible exact Sha.A_lt _ _ | with_reducible exact Sha.P_lt _ _ | with_reducible exact Sha.div_lt _ (by with_reducible assumption) | omega)) | (apply Wl.rightQ 19; exact rfl; (repeat (first | exact Evs.nil | apply Evs.cons rfl)); exact rfl; (decide); (first | with_reducible assumption | with_reducible exact Sha.rr_lt _ _ | with_reducible exact Sha.X_lt _ _ | with_reducible exact Sha.A_lt _ _ | with_reducible exact Sha.P_lt _ _ | with_reducible exact Sha.div_lt _ (by with_reducible assumption) | omega)) | (apply Wl.xorM; exact rfl; exact rfl; exact rfl; (first | with_reducible assumption | with_reducible exact Sha.rr_lt _ _ | with_reducible exact Sha.X_lt _ _ | with_reducible exact Sha.A_lt _ _ | with_reducible exact Sha.P_lt _ _ | with_reducible exact Sha.div_lt _ (by with_reducible assumption) | omega); (first | with_reducible assumption | with_reducible exact Sha.rr_lt _ _ | with_reducible exact Sha.X_lt _ _ | with_reducible exact Sha.A_lt _ _ | with_reducible exact Sha.P_lt _ _ | with_reducible exact Sha.div_lt _ (by with_reducible assumption) | omega)) | (apply Wl.shrP 3; exact rfl; exact rfl; exact rfl; exact rfl; (decide)) | (apply Wl.shrP 10; exact rfl; exact rfl; exact rfl; exact rfl; (decide)) | (apply Wl.addW; exact rfl; exact rfl; exact rfl) | (apply Wl.remN (n := 4294967296); exact rfl; exact rfl; exact rfl; (decide)) | (apply Wl.loadN; exact rfl; exact rfl; (repeat (first | exact List.Mem.head _ | apply List.Mem.tail)); (omega)) | (apply Wl.storeN; exact rfl; exact rfl; (repeat (first | apply HSet.here | apply HSet.there)); (omega)) | (apply Wl.move; exact rfl; exact rfl) | (apply Wl.assign; exact rfl; exact rfl) | (apply Wl.lss; exact rfl; exact rfl; exact rfl) | (apply Wl.addI; exact rfl; exact rfl; exact rfl; (constructor <;> omega)) | (apply Wl.nil) | (apply St.seq) | (apply St.block) | (apply St.region) | (apply St.condT; exact rfl; (first | with_reducible rfl | with_reducible assumption | decide)) | (apply St.condF; exact rfl; (first | with_reducible rfl | with_reducible assumption | decide)) | (apply St.skip) | (apply Gt.next) | (apply Gt.inNormal) | (apply Wl.splitP; exact rfl; exact rfl; all_goals (intros; try (exfalso; omega))) | (apply Wl.splitB; exact rfl; exact rfl; all_goals intros) | (apply St.condP; exact rfl; all_goals (intros; try (exfalso; omega))) | (apply St.condB; exact rfl; all_goals intros))
        rw [← hWi, hset]
        apply Gt.round (i + 1)
        rotate_left
        · omega
        · (repeat (first | exact Sub.nil | apply Sub.cons rfl))
        · exact fun _ h => h
        · omega
    have hi64 : i = 64 := by omega
    subst hi64
    rw [show cellsN .u64 64 (fillN (fun _ => 0) W 64) = cellsN .u64 64 W from cellsN_congr fun j hj => fillN_lt hj]
    repeat' (first | (apply Wl.move; exact rfl; exact rfl) | (apply Wl.lss; exact rfl; exact rfl; exact rfl) | (apply Wl.nil) | (apply St.seq) | (apply St.region) | (apply St.condF; exact rfl; (first | with_reducible rfl | with_reducible assumption | decide)) | (apply St.exit) | (apply Gt.next) | (apply Gt.thenExit) | (apply Gt.inExit) | (apply Wl.splitP; exact rfl; exact rfl; all_goals (intros; try (exfalso; omega))) | (apply Wl.splitB; exact rfl; exact rfl; all_goals intros) | (apply St.condP; exact rfl; all_goals (intros; try (exfalso; omega))) | (apply St.condB; exact rfl; all_goals intros))
    apply Wl.append (news := cellsN .u64 8 h) (m := 8) (base := wk.heap.size) (n := 0) (xs := []) (z := .int .u64 0)
    · exact rfl
    · exact rfl
    · exact rfl
    · exact World.ownsRow_nil _ _ _ _
    · rw [cellsN_len]
    · intro w' hw' jj u hj
      have := hw'.own.at (.tail _ (.head _))
      simp only at this
      have hj8 : jj < 8 := by have := (List.getElem?_eq_some_iff.1 hj).1; rw [cellsN_len] at this; exact this
      rw [cellsN_get hj8] at hj
      cases hj
      have e := rowArr this jj hj8
      rw [addLit]
      exact e
    · intro k hk; simp [Value.ownBlock] at hk
    · exact cellsN_one _ _ _
    · exact rfl
    · decide
    · decide
    · decide
    · exact Nat.le_refl _
    intro vs w5 ho5 u5 _ hoff5
    rw [List.nil_append] at ho5
    obtain ⟨gs, caps, rests, rfl, hgs, hSs⟩ := rowOpen ho5 (by decide) rfl
    have hgsl : gs < w5.heap.size := (Array.getElem?_eq_some_iff.1 hSs).1
    have hoffs := (hoff5 gs rfl).1
    have hSk : ∀ {k}, SB wq gh c2 k ∨ ¬ Off [⟨c, cellsN .u64 64 W, 94⟩, ⟨gh, cellsN .u64 8 h ++ resth, 35⟩, ⟨c2, cellsN .u8 32 fun _ => 0, 45⟩] k → SB wq gh c2 k := fun hs => hs.elim id fun hs => by
      apply Classical.byContradiction
      intro hn
      exact hs ⟨fun e => hn (.inl (by have e' : c = _ := e; omega)), fun e => hn (.inr (.inl e.symm)), fun e => hn (.inr (.inr e.symm)), trivial⟩
    have hU5 : Upd (SB wq gh c2) wq w5 := hUk.comp u5 fun k hk hs => hSk (hs.imp id fun hs => hs.elim (fun e => by simp [Value.ownBlock] at e) id)
    have hK5 : ArrAt w5 ga 0 .u64 64 Sha.K := hKq.upd hU5 (fun h => by rcases h with h | h | h <;> omega)
    have hszk5 := u5.size
    clear ho5 u5 hoff5
    generalize c = cw at *
    repeat' (first | (apply Wl.assign; exact rfl; exact rfl) | (apply Wl.nil) | (apply St.seq) | (apply St.block) | (apply St.region) | (apply Gt.next) | (apply Wl.splitP; exact rfl; exact rfl; all_goals (intros; try (exfalso; omega))) | (apply Wl.splitB; exact rfl; exact rfl; all_goals intros) | (apply St.condP; exact rfl; all_goals (intros; try (exfalso; omega))) | (apply St.condB; exact rfl; all_goals intros))
    refine St.loop (σ := Nat × Nat × Nat × List Value) (fun τ => τ.1 ≤ 64 ∧ wk.heap.size ≤ τ.2.1 ∧ (w5.heap.size ≤ τ.2.1 ∨ w5.heap[τ.2.1]? = some (.cells (cellsN .u64 8 (Sha.rnds Sha.K W h τ.1) ++ τ.2.2.2).toArray 35 (0, 0))))
      (fun τ => [(2, mp c2), (3, .slice (some ⟨ga, 0, none⟩) 64 capa), (4, .slice (some ⟨gh, 0, none⟩) 8 caph), (5, .slice (some ⟨gp, 0, none⟩) pd.length pcap), (7, .int .i64 ((64 * k : Nat) : Int)), (8, mp cw), (13, .slice (some ⟨τ.2.1, 0, none⟩) 8 τ.2.2.1), (14, .int .i64 τ.1)])
      (fun τ => Hp w5 [⟨τ.2.1, cellsN .u64 8 (Sha.rnds Sha.K W h τ.1) ++ τ.2.2.2, 35⟩, ⟨cw, cellsN .u64 64 W, 94⟩, ⟨gh, cellsN .u64 8 h ++ resth, 35⟩, ⟨c2, cellsN .u8 32 fun _ => 0, 45⟩]) (fun τ => 64 - τ.1) (0, gs, caps, rests) ⟨by simp, hgs, .inr hSs⟩ (by (repeat (first | exact Sub.nil | apply Sub.cons rfl))) (fun _ h => Hp.open h hSs hoffs) ?_
    clear hi hset hSs hgs hgsl hoffs
    have hsz5 := hU5.size
    have hga5 : ga < w5.heap.size := by have := hU.size; omega
    have hkb : 64 * k + 64 < 1000000000 := by omega
    have n2 : cw ≠ ga := by omega
    have n3 : gh ≠ ga := by omega
    have n4 : c2 ≠ ga := by omega
    rintro ⟨i, gs, caps, rests⟩ ⟨hi, hgk, hgs⟩
    simp only at hi hgk hgs ⊢
    have n1 : gs ≠ ga := by omega
    clear hv hn hvl hga hgal hsz1 hu1 hszr hgh hszr2 hszr4 hKB hu2 hvB hvo lc hlen hk hj hve hvl2 hl8 hU hq hlen2 hlen3 hP hNb hpl8 hKq hPk hKk hpB hpl hW1 hW2 hSk
    have hfl := Sha.rnds_lt (K := Sha.K) (W := W) hHl i
    have hrn : Sha.rnds Sha.K W h (i + 1) = Sha.rnd (Sha.rnds Sha.K W h i) (Sha.K i) (W i) := rfl
    generalize hf : Sha.rnds Sha.K W h i = f at *
    have f0 := hfl 0 (by decide)
    have f1 := hfl 1 (by decide)
    have f2 := hfl 2 (by decide)
    have f4 := hfl 4 (by decide)
    by_cases hli : i < 64
    · have hdi : decide ((i : Int) < 64) = true := decide_eq_true (by omega)
      have ht : ((((f 7 + Sha.X (Sha.X (Sha.rr 6 (f 4)) (Sha.rr 11 (f 4))) (Sha.rr 25 (f 4))) % 18446744073709551616 + Sha.X (Sha.A (f 4) (f 5)) (Sha.A (4294967295 - f 4) (f 6))) % 18446744073709551616 + Sha.K i) % 18446744073709551616 + W i) % 18446744073709551616 % 4294967296 = Sha.tt f (Sha.K i) (W i) := by
        rw [Sha.add5, Sha.ch_eq f4]; rfl
      have hu : (Sha.X (Sha.X (Sha.rr 2 (f 0)) (Sha.rr 13 (f 0))) (Sha.rr 22 (f 0)) + Sha.X (Sha.X (Sha.A (f 0) (f 1)) (Sha.A (f 0) (f 2))) (Sha.A (f 1) (f 2))) % 18446744073709551616 % 4294967296 = Sha.uu f := by
        rw [Sha.add2, Sha.mj_eq]; rfl
      repeat' (first | (apply Wl.move; exact rfl; exact rfl) | (apply Wl.assign; exact rfl; exact rfl) | (apply St.bagX 36 [35]; exact mixed; (decide +kernel); kernel_rfl) | (apply OpsX.nil) | (apply OpsX.v; (intro X hX; change Wl [_] _ _ _ _ _ _ _; apply Wl.catX; (repeat (first | apply CatB.nil | apply CatB.cons)))) | (apply Gt.endX; exact rfl) | (apply EndX.on; exact rfl) | (apply EndX.off; exact rfl) | (apply EndX.nil'; apply Wl.catE; (repeat (first | apply CatB.nil | apply CatB.cons))) | (apply Wl.subUC 4294967295; exact rfl; exact rfl; exact rfl; exact rfl; (omega); (decide)) | (apply Wl.indexSC 0; exact rfl; exact rfl; exact rfl; exact rfl; (decide)) | (apply Wl.indexSC 4; exact rfl; exact rfl; exact rfl; exact rfl; (decide)) | (apply Wl.indexSC 5; exact rfl; exact rfl; exact rfl; exact rfl; (decide)) | (apply Wl.indexSC 6; exact rfl; exact rfl; exact rfl; exact rfl; (decide)) | (apply Wl.indexSC 7; exact rfl; exact rfl; exact rfl; exact rfl; (decide)) | (apply Wl.loadH; exact rfl; exact rfl; (repeat (first | exact List.Mem.head _ | apply List.Mem.tail)); exact rowGet (by first | decide | omega)) | (apply Wl.indexS0; exact rfl; exact rfl; exact rfl; (first | with_reducible assumption | omega)) | (apply Wl.indexA; exact rfl; exact rfl; exact rfl; (first | with_reducible assumption | omega)) | (apply Wl.loadME; exact rfl; exact rfl; exact hK5; (first | (repeat (first | exact trivial | exact hX.off (by omega) | refine ⟨by first | assumption | omega | (simp only; omega), ?_⟩)) | (apply Off.of; simp; omega)); (omega)) | (apply Wl.rightQ 6; exact rfl; (repeat (first | exact Evs.nil | apply Evs.cons rfl)); exact rfl; (decide); (first | with_reducible assumption | with_reducible exact Sha.rr_lt _ _ | with_reducible exact Sha.X_lt _ _ | with_reducible exact Sha.A_lt _ _ | with_reducible exact Sha.P_lt _ _ | with_reducible exact Sha.div_lt _ (by with_reducible assumption) | omega)) | (apply Wl.rightQ 11; exact rfl; (repeat (first | exact Evs.nil | apply Evs.cons rfl)); exact rfl; (decide); (first | with_reducible assumption | with_reducible exact Sha.rr_lt _ _ | with_reducible exact Sha.X_lt _ _ | with_reducible exact Sha.A_lt _ _ | with_reducible exact Sha.P_lt _ _ | with_reducible exact Sha.div_lt _ (by with_reducible assumption) | omega)) | (apply Wl.rightQ 25; exact rfl; (repeat (first | exact Evs.nil | apply Evs.cons rfl)); exact rfl; (decide); (first | with_reducible assumption | with_reducible exact Sha.rr_lt _ _ | with_reducible exact Sha.X_lt _ _ | with_reducible exact Sha.A_lt _ _ | with_reducible exact Sha.P_lt _ _ | with_reducible exact Sha.div_lt _ (by with_reducible assumption) | omega)) | (apply Wl.xorM; exact rfl; exact rfl; exact rfl; (first | with_reducible assumption | with_reducible exact Sha.rr_lt _ _ | with_reducible exact Sha.X_lt _ _ | with_reducible exact Sha.A_lt _ _ | with_reducible exact Sha.P_lt _ _ | with_reducible exact Sha.div_lt _ (by with_reducible assumption) | omega); (first | with_reducible assumption | with_reducible exact Sha.rr_lt _ _ | with_reducible exact Sha.X_lt _ _ | with_reducible exact Sha.A_lt _ _ | with_reducible exact Sha.P_lt _ _ | with_reducible exact Sha.div_lt _ (by with_reducible assumption) | omega)) | (apply Wl.andM; exact rfl; exact rfl; exact rfl; (first | with_reducible assumption | with_reducible exact Sha.rr_lt _ _ | with_reducible exact Sha.X_lt _ _ | with_reducible exact Sha.A_lt _ _ | with_reducible exact Sha.P_lt _ _ | with_reducible exact Sha.div_lt _ (by with_reducible assumption) | omega)) | (apply Wl.addW; exact rfl; exact rfl; exact rfl) | (apply Wl.remN (n := 4294967296); exact rfl; exact rfl; exact rfl; (decide)) | (apply Wl.loadN; exact rfl; exact rfl; (repeat (first | exact List.Mem.head _ | apply List.Mem.tail)); (omega)) | (apply Wl.lss; exact rfl; exact rfl; exact rfl) | (apply Wl.nil) | (apply St.seq) | (apply St.block) | (apply St.region) | (apply St.condT; exact rfl; (first | with_reducible rfl | with_reducible assumption | decide)) | (apply St.skip) | (apply Gt.next) | (apply Wl.splitP; exact rfl; exact rfl; all_goals (intros; try (exfalso; omega))) | (apply Wl.splitB; exact rfl; exact rfl; all_goals intros) | (apply St.condP; exact rfl; all_goals (intros; try (exfalso; omega))) | (apply St.condB; exact rfl; all_goals intros))
      rw [ht]
      apply St.bagX 30 [29]
      exact mixed
      decide +kernel
      kernel_rfl
      repeat' (first | (apply Wl.move; exact rfl; exact rfl) | (apply Wl.assign; exact rfl; exact rfl) | (apply OpsX.nil) | (apply OpsX.v; (intro X hX; change Wl [_] _ _ _ _ _ _ _; apply Wl.catX; (repeat (first | apply CatB.nil | apply CatB.cons)))) | (apply Gt.endX; exact rfl) | (apply EndX.on; exact rfl) | (apply EndX.off; exact rfl) | (apply EndX.nil'; apply Wl.catE; (repeat (first | apply CatB.nil | apply CatB.cons))) | (apply Wl.indexSC 1; exact rfl; exact rfl; exact rfl; exact rfl; (decide)) | (apply Wl.indexSC 2; exact rfl; exact rfl; exact rfl; exact rfl; (decide)) | (apply Wl.loadH; exact rfl; exact rfl; (repeat (first | exact List.Mem.head _ | apply List.Mem.tail)); exact rowGet (by first | decide | omega)) | (apply Wl.rightQ 2; exact rfl; (repeat (first | exact Evs.nil | apply Evs.cons rfl)); exact rfl; (decide); (first | with_reducible assumption | with_reducible exact Sha.rr_lt _ _ | with_reducible exact Sha.X_lt _ _ | with_reducible exact Sha.A_lt _ _ | with_reducible exact Sha.P_lt _ _ | with_reducible exact Sha.div_lt _ (by with_reducible assumption) | omega)) | (apply Wl.rightQ 13; exact rfl; (repeat (first | exact Evs.nil | apply Evs.cons rfl)); exact rfl; (decide); (first | with_reducible assumption | with_reducible exact Sha.rr_lt _ _ | with_reducible exact Sha.X_lt _ _ | with_reducible exact Sha.A_lt _ _ | with_reducible exact Sha.P_lt _ _ | with_reducible exact Sha.div_lt _ (by with_reducible assumption) | omega)) | (apply Wl.rightQ 22; exact rfl; (repeat (first | exact Evs.nil | apply Evs.cons rfl)); exact rfl; (decide); (first | with_reducible assumption | with_reducible exact Sha.rr_lt _ _ | with_reducible exact Sha.X_lt _ _ | with_reducible exact Sha.A_lt _ _ | with_reducible exact Sha.P_lt _ _ | with_reducible exact Sha.div_lt _ (by with_reducible assumption) | omega)) | (apply Wl.xorM; exact rfl; exact rfl; exact rfl; (first | with_reducible assumption | with_reducible exact Sha.rr_lt _ _ | with_reducible exact Sha.X_lt _ _ | with_reducible exact Sha.A_lt _ _ | with_reducible exact Sha.P_lt _ _ | with_reducible exact Sha.div_lt _ (by with_reducible assumption) | omega); (first | with_reducible assumption | with_reducible exact Sha.rr_lt _ _ | with_reducible exact Sha.X_lt _ _ | with_reducible exact Sha.A_lt _ _ | with_reducible exact Sha.P_lt _ _ | with_reducible exact Sha.div_lt _ (by with_reducible assumption) | omega)) | (apply Wl.andM; exact rfl; exact rfl; exact rfl; (first | with_reducible assumption | with_reducible exact Sha.rr_lt _ _ | with_reducible exact Sha.X_lt _ _ | with_reducible exact Sha.A_lt _ _ | with_reducible exact Sha.P_lt _ _ | with_reducible exact Sha.div_lt _ (by with_reducible assumption) | omega)) | (apply Wl.addW; exact rfl; exact rfl; exact rfl) | (apply Wl.remN (n := 4294967296); exact rfl; exact rfl; exact rfl; (decide)) | (apply Wl.nil) | (apply Gt.next) | (apply Wl.splitP; exact rfl; exact rfl; all_goals (intros; try (exfalso; omega))) | (apply Wl.splitB; exact rfl; exact rfl; all_goals intros) | (apply St.condP; exact rfl; all_goals (intros; try (exfalso; omega))) | (apply St.condB; exact rfl; all_goals intros))
      rw [hu]
      apply St.bagX 28 []
      exact mixed
      decide +kernel
      kernel_rfl
      repeat' (first | (apply Wl.move; exact rfl; exact rfl) | (apply Wl.assign; exact rfl; exact rfl) | (apply OpsX.nil) | (apply OpsX.v; (intro X hX; change Wl [_] _ _ _ _ _ _ _; apply Wl.catX; (repeat (first | apply CatB.nil | apply CatB.cons)))) | (apply Gt.endX; exact rfl) | (apply EndX.on; exact rfl) | (apply EndX.off; exact rfl) | (apply EndX.nil'; apply Wl.catE; (repeat (first | apply CatB.nil | apply CatB.cons))) | (apply Wl.indexSC 0; exact rfl; exact rfl; exact rfl; exact rfl; (decide)) | (apply Wl.indexSC 1; exact rfl; exact rfl; exact rfl; exact rfl; (decide)) | (apply Wl.indexSC 2; exact rfl; exact rfl; exact rfl; exact rfl; (decide)) | (apply Wl.indexSC 3; exact rfl; exact rfl; exact rfl; exact rfl; (decide)) | (apply Wl.indexSC 4; exact rfl; exact rfl; exact rfl; exact rfl; (decide)) | (apply Wl.indexSC 5; exact rfl; exact rfl; exact rfl; exact rfl; (decide)) | (apply Wl.indexSC 6; exact rfl; exact rfl; exact rfl; exact rfl; (decide)) | (apply Wl.loadH; exact rfl; exact rfl; (repeat (first | exact List.Mem.head _ | apply List.Mem.tail)); exact rowGet (by first | decide | omega)) | (apply Wl.addW; exact rfl; exact rfl; exact rfl) | (apply Wl.remN (n := 4294967296); exact rfl; exact rfl; exact rfl; (decide)) | (apply Wl.addI; exact rfl; exact rfl; exact rfl; (constructor <;> omega)) | (apply Wl.lit; exact rfl; (repeat (first | exact Parts.nil | apply Parts.cons rfl)); exact rfl; exact rfl; (repeat (first | apply CatP.nil | (apply CatP.one; exact rfl; exact rfl) | (apply CatP.agg; exact rfl) | apply LApp.nil | apply LApp.cons)); intro c hc ho) | (apply Wl.nil) | (apply St.region) | (apply Gt.next) | (apply Gt.inNormal) | (apply Wl.splitP; exact rfl; exact rfl; all_goals (intros; try (exfalso; omega))) | (apply Wl.splitB; exact rfl; exact rfl; all_goals intros) | (apply St.condP; exact rfl; all_goals (intros; try (exfalso; omega))) | (apply St.condB; exact rfl; all_goals intros))
      apply Gt.round (i + 1, c, 8, [])
      rotate_left
      · simp only; omega
      · (repeat (first | exact Sub.nil | apply Sub.cons rfl))
      · intro w' hw
        rw [Sha.add2, Sha.add2, v8u] at hw
        have := hpDrop2 hw hgs
        simp only
        rw [List.append_nil, hrn]
        exact this
      · exact ⟨by simp only; omega, by simp only; omega, .inl hc⟩
    have hi64 : i = 64 := by omega
    subst hi64
    repeat' (first | (apply Wl.move; exact rfl; exact rfl) | (apply Wl.assign; exact rfl; exact rfl) | (apply Wl.lss; exact rfl; exact rfl; exact rfl) | (apply Wl.nil) | (apply St.seq) | (apply St.block) | (apply St.region) | (apply St.condF; exact rfl; (first | with_reducible rfl | with_reducible assumption | decide)) | (apply St.exit) | (apply Gt.next) | (apply Gt.thenExit) | (apply Gt.inExit) | (apply Wl.splitP; exact rfl; exact rfl; all_goals (intros; try (exfalso; omega))) | (apply Wl.splitB; exact rfl; exact rfl; all_goals intros) | (apply St.condP; exact rfl; all_goals (intros; try (exfalso; omega))) | (apply St.condB; exact rfl; all_goals intros))
    refine St.loop (σ := Nat) (fun q => q ≤ 8) (fun q => [(2, mp c2), (3, .slice (some ⟨ga, 0, none⟩) 64 capa), (4, .slice (some ⟨gh, 0, none⟩) 8 caph), (5, .slice (some ⟨gp, 0, none⟩) pd.length pcap), (7, .int .i64 ((64 * k : Nat) : Int)), (13, .slice (some ⟨gs, 0, none⟩) 8 caps), (19, .int .i64 q)])
      (fun q => Hp w5 [⟨gs, cellsN .u64 8 f ++ rests, 35⟩, ⟨cw, cellsN .u64 64 W, 94⟩, ⟨gh, cellsN .u64 8 (fillN h (fun q => Sha.P (h q) (f q)) q) ++ resth, 35⟩, ⟨c2, cellsN .u8 32 fun _ => 0, 45⟩]) (fun q => 8 - q) 0 (by omega) (by (repeat (first | exact Sub.nil | apply Sub.cons rfl))) (fun _ hw => by rw [fillN_zero]; exact hw) ?_
    intro q hq8
    by_cases hlq : q < 8
    · have hdq : decide ((q : Int) < 8) = true := decide_eq_true (by omega)
      have hat : fillN h (fun q => Sha.P (h q) (f q)) q q = h q := fillN_at (Nat.le_refl q)
      have hnx : updN (fillN h (fun q => Sha.P (h q) (f q)) q) q (Sha.P (h q) (f q)) = _ := fillN_step h (fun q => Sha.P (h q) (f q)) q
      generalize fillN h (fun q => Sha.P (h q) (f q)) q = G at *
      repeat' (first | (apply Wl.move; exact rfl; exact rfl) | (apply Wl.assign; exact rfl; exact rfl) | (apply St.bagX 13 []; exact mixed; (decide +kernel); kernel_rfl) | (apply OpsX.nil) | (apply OpsX.v; (intro X hX; change Wl [_] _ _ _ _ _ _ _; apply Wl.catX; (repeat (first | apply CatB.nil | apply CatB.cons)))) | (apply Gt.endX; exact rfl) | (apply EndX.on; exact rfl) | (apply EndX.off; exact rfl) | (apply EndX.nil'; apply Wl.catE; (repeat (first | apply CatB.nil | apply CatB.cons))) | (apply Wl.loadH; exact rfl; exact rfl; (repeat (first | exact List.Mem.head _ | apply List.Mem.tail)); exact rowGet (by first | decide | omega)) | (apply Wl.indexS0; exact rfl; exact rfl; exact rfl; (first | with_reducible assumption | omega)) | (apply Wl.addW; exact rfl; exact rfl; exact rfl) | (apply Wl.remN (n := 4294967296); exact rfl; exact rfl; exact rfl; (decide)) | (apply Wl.store; exact rfl; exact rfl; exact rfl; (repeat (first | apply HSet.here | apply HSet.there)); exact LSet.appL (cellsN_set (by omega)) _) | (apply Wl.lss; exact rfl; exact rfl; exact rfl) | (apply Wl.addI; exact rfl; exact rfl; exact rfl; (constructor <;> omega)) | (apply Wl.nil) | (apply St.seq) | (apply St.block) | (apply St.region) | (apply St.condT; exact rfl; (first | with_reducible rfl | with_reducible assumption | decide)) | (apply St.skip) | (apply Gt.next) | (apply Gt.inNormal) | (apply Wl.splitP; exact rfl; exact rfl; all_goals (intros; try (exfalso; omega))) | (apply Wl.splitB; exact rfl; exact rfl; all_goals intros) | (apply St.condP; exact rfl; all_goals (intros; try (exfalso; omega))) | (apply St.condB; exact rfl; all_goals intros))
      rw [hat, Sha.add2, hnx]
      apply Gt.round (q + 1)
      rotate_left
      · omega
      · (repeat (first | exact Sub.nil | apply Sub.cons rfl))
      · exact fun _ h => h
      · omega
    have hq8' : q = 8 := by omega
    subst hq8'
    rw [show cellsN .u64 8 (fillN h (fun q => Sha.P (h q) (f q)) 8) = cellsN .u64 8 (Sha.hN Sha.H0 pd (k + 1)) by rw [fillN_end, hstep, hcomp, hf]]
    repeat' (first | (apply Wl.addNI (m := 64 * k) (n := 64); exact rfl; exact rfl; exact rfl; (omega)) | (apply Wl.move; exact rfl; exact rfl) | (apply Wl.assign; exact rfl; exact rfl) | (apply Wl.lss; exact rfl; exact rfl; exact rfl) | (apply Wl.nil) | (apply St.seq) | (apply St.region) | (apply St.condF; exact rfl; (first | with_reducible rfl | with_reducible assumption | decide)) | (apply St.exit) | (apply Gt.next) | (apply Gt.thenExit) | (apply Gt.inNormal) | (apply Gt.inExit) | (apply Wl.splitP; exact rfl; exact rfl; all_goals (intros; try (exfalso; omega))) | (apply Wl.splitB; exact rfl; exact rfl; all_goals intros) | (apply St.condP; exact rfl; all_goals (intros; try (exfalso; omega))) | (apply St.condB; exact rfl; all_goals intros))
    apply Gt.round (k + 1, wq)
    rotate_left
    · simp only; omega
    · (repeat (first | exact Sub.nil | apply Sub.cons rfl))
    · exact fun w' hw => hpBack hU5 hw (by simp only; omega) (by simp only; omega) rfl rfl
    · exact ⟨by simp only; omega, Upd.refl _ _⟩
  have hkn : k = NB := by omega
  subst hkn
  generalize Sha.hN Sha.H0 pd k = HH at *
  repeat' (first | (apply Wl.allocN; exact rfl; exact z32b; intro c hc ho) | (apply Wl.move; exact rfl; exact rfl) | (apply Wl.assign; exact rfl; exact rfl) | (apply Wl.lss; exact rfl; exact rfl; exact rfl) | (apply Wl.len; exact rfl; exact rfl) | (apply Wl.nil) | (apply St.seq) | (apply St.block) | (apply St.region) | (apply St.exit) | (apply Gt.next) | (apply Gt.thenExit) | (apply Gt.inExit) | (apply Wl.splitP; exact rfl; exact rfl; all_goals (intros; try (exfalso; omega))) | (apply Wl.splitB; exact rfl; exact rfl; all_goals intros) | (apply St.condP; exact rfl; all_goals (intros; try (exfalso; omega))) | (apply St.condB; exact rfl; all_goals intros))
  refine St.loop (σ := Nat) (fun i => i ≤ 32) (fun i => [(2, mp c2), (4, .slice (some ⟨gh, 0, none⟩) 8 caph), (20, mp c), (21, .int .i64 (i : Int))])
    (fun i => Hp wk [⟨c, cellsN .u8 32 (fillN (fun _ => 0) (Sha.outB HH) i), 45⟩, ⟨gh, cellsN .u64 8 HH ++ resth, 35⟩, ⟨c2, cellsN .u8 32 fun _ => 0, 45⟩]) (fun i => 32 - i) 0 (by omega) (by (repeat (first | exact Sub.nil | apply Sub.cons rfl))) (fun _ h => by rw [fillN_zero]; exact h) ?_
  intro i hi
  by_cases hli : i < 32
  · have hdi : decide ((i : Int) < 32) = true := decide_eq_true (by omega)
    have hi4 : i / 4 < 8 := by omega
    have hi3 : i % 4 < 4 := Nat.mod_lt _ (by decide)
    repeat' (first | (apply Wl.quoN (n := 4); exact rfl; exact rfl; exact rfl; (decide); exact IntWalk.i64_in _ (by omega)) | (apply Wl.remN (n := 4); exact rfl; exact rfl; exact rfl; (decide)) | (apply Wl.loadH; exact rfl; exact rfl; (repeat (first | exact List.Mem.head _ | apply List.Mem.tail)); exact rowGet (by first | decide | omega)) | (apply Wl.indexS0; exact rfl; exact rfl; exact rfl; (first | with_reducible assumption | omega)) | (apply Wl.indexA; exact rfl; exact rfl; exact rfl; (first | with_reducible assumption | omega)) | (apply Wl.mulNI (m := 8); exact rfl; exact rfl; exact rfl; (omega)) | (apply Wl.subR 24; exact rfl; exact rfl; exact rfl; exact rfl; (omega); (omega)) | (apply Wl.shrV; exact rfl; exact rfl; exact rfl; (show _ ≤ 64; omega)) | (apply Wl.convN8; exact rfl; exact rfl) | (apply Wl.storeN; exact rfl; exact rfl; (repeat (first | apply HSet.here | apply HSet.there)); (omega)) | (apply Wl.move; exact rfl; exact rfl) | (apply Wl.assign; exact rfl; exact rfl) | (apply Wl.lss; exact rfl; exact rfl; exact rfl) | (apply Wl.addI; exact rfl; exact rfl; exact rfl; (constructor <;> omega)) | (apply Wl.nil) | (apply St.seq) | (apply St.block) | (apply St.region) | (apply St.condT; exact rfl; (first | with_reducible rfl | with_reducible assumption | decide)) | (apply St.skip) | (apply Gt.next) | (apply Gt.inNormal) | (apply Wl.splitP; exact rfl; exact rfl; all_goals (intros; try (exfalso; omega))) | (apply Wl.splitB; exact rfl; exact rfl; all_goals intros) | (apply St.condP; exact rfl; all_goals (intros; try (exfalso; omega))) | (apply St.condB; exact rfl; all_goals intros))
    apply Gt.round (i + 1)
    rotate_left
    · omega
    · (repeat (first | exact Sub.nil | apply Sub.cons rfl))
    · exact fun _ h => by rw [← fillN_step]; exact h
    · omega
  have hi32 : i = 32 := by omega
  subst hi32
  rw [fillN_end]
  have hu' : Upd (fun k => w.heap.size ≤ k) w wk := (hu2.comp hU fun k hk hs => hs.elim id fun hs => by rcases hs with h | h | h <;> omega).comp hUk fun k hk hs => hs.elim id fun hs => by rcases hs with h | h | h <;> omega
  repeat' (first | (apply Gt.outN; exact rfl; infer_instance; exact rfl; (repeat (first | exact List.Mem.head _ | apply List.Mem.tail)); exact rfl; intro w' hp) | (apply Wl.loadW; exact rfl; exact rfl; (repeat (first | exact List.Mem.head _ | apply List.Mem.tail)); exact rfl) | (apply Wl.storeW; exact rfl; exact rfl; (repeat (first | apply HSet.here | apply HSet.there)); exact rfl; (first | exact cellsN_len _ _ _ | exact rfl)) | (apply Wl.move; exact rfl; exact rfl) | (apply Wl.lss; exact rfl; exact rfl; exact rfl) | (apply Wl.nil) | (apply St.seq) | (apply St.region) | (apply St.condF; exact rfl; (first | with_reducible rfl | with_reducible assumption | decide)) | (apply St.ret) | (apply St.exit) | (apply Gt.next) | (apply Gt.thenExit) | (apply Gt.inExit) | (apply Wl.splitP; exact rfl; exact rfl; all_goals (intros; try (exfalso; omega))) | (apply Wl.splitB; exact rfl; exact rfl; all_goals intros) | (apply St.condP; exact rfl; all_goals (intros; try (exfalso; omega))) | (apply St.condB; exact rfl; all_goals intros))
  refine ⟨by rw [hof], hpFin hp hu' (by simp; omega)⟩
end Go.Proofs.YtfaobdakpbpkbaaDoor
end
section
/-
  porticoref05.Sign. Conditions: the secret and the number are below the order, the message is short; neither number that comes of it is 0.
-/
namespace Go.Pt
open Go.RowKit
theorem Wl.sliceAll {P : Program} {md : Md} {N : Nat} {ops : Array Oper} {rest : List Oper} {Γ : Env} {C : World → Prop} {Q : Exit → Act → World → Prop} {d : Nat} {ty : TypeId} {pos : String} {af : Array Edge} {t e n sz by_ : TypeId} {x : Operand} {b o : Nat} {S : Value} [ht : TyD P t (.array n e)] [TyS P e sz by_]
    (hd : Nat.blt d N = true) (hx : ev Γ x = some (.pointer (some ⟨b, o, none⟩))) (hn : n ≠ 0) (hS : S = .slice (some ⟨b, o, none⟩) n n) (h : Wl rest P md ops N ((d, S) :: Γ) C Q) : Wl (⟨some d, .slice t x none none none, ty, pos, af, none⟩ :: rest) P md ops N Γ C Q := by
  subst hS
  exact Wl.val hd (fun a w ha _ => by
    simp [execOp, ha.ev hx, Instr.sliceAt, run_underlying ht.out, Instr.sliceBounds, Instr.sureAddr, Addr.add, run_size (P := P) (t := e), hn]) h
/-- a sum's bytes -/
def shaL (l : List UInt8) : List UInt8 := (List.range 32).map fun j => UInt8.ofNat (Sha.of l j)
theorem shaL_len (l : List UInt8) : (shaL l).length = 32 := by simp [shaL]
theorem shaL_bytes (l : List UInt8) : byteCells (shaL l) = cellsN .u8 32 (Sha.of l) := by
  unfold shaL byteCells cellsN
  rw [List.map_map]
  apply List.map_congr_left
  intro j _
  have : Sha.of l j < 256 := by rw [Sha.of_eq]; exact Nat.mod_lt _ (by decide)
  simp only [Function.comp_apply]
  rw [show (UInt8.ofNat (Sha.of l j)).toNat = Sha.of l j by rw [UInt8.toNat_ofNat']; exact Nat.mod_eq_of_lt this]
theorem bsSha {w : World} {c : Nat} {l : List UInt8} {t : TypeId} {fr : Nat × Nat} (h : w.heap[c]? = some (.cells (cellsN .u8 32 (Sha.of l)).toArray t fr)) : Bs w (.slice (some ⟨c, 0, none⟩) 32 32) (shaL l) := by
  have := Bs.ofBlk (l := shaL l) (by rw [shaL_bytes]; exact h) (by rw [shaL_len]; decide)
  rw [shaL_len] at this
  exact this
theorem offAll {H : List Blk} {n k : Nat} (hH : ∀ x ∈ H, n ≤ x.b) (h : ¬ Off H k) : n ≤ k := by
  apply Classical.byContradiction
  intro hn
  exact h (Off.of fun x hx e => by have := hH x hx; omega)
end Go.Pt
namespace Go.Proofs.YtfaobdakpbpkbaaDoor
open Go.RowKit Go.Pt
attribute [local irreducible] Prim.P256 Prim.N256
/-- the number of a sum -/
def eN (l : List UInt8) : Nat := rdL (shaL l) % Prim.N256
end Go.Proofs.YtfaobdakpbpkbaaDoor
end
section
/-
  porticoref05.Verify. Conditions: the message is short, its bytes, and the signature's, are older than the call.
-/
namespace Go.Proofs.YtfaobdakpbpkbaaDoor
open Go.RowKit Go.Pt
attribute [local irreducible] Prim.P256 Prim.N256
end Go.Proofs.YtfaobdakpbpkbaaDoor
end
section
/-
  porticoref05.Verify, the key being one and the signature 64 bytes.
-/
namespace Go.Proofs.YtfaobdakpbpkbaaDoor
open Go.RowKit Go.Pt
attribute [local irreducible] Prim.P256 Prim.N256
theorem onP_of {X Y : Nat} (h : onB X Y = true) : X < Prim.P256 ∧ Y < Prim.P256 ∧ OnP (some (nF X, nF Y)) := by
  unfold onB at h
  simp only [Bool.and_eq_true, decide_eq_true_eq] at h
  obtain ⟨h1, h2, h3⟩ := h
  refine ⟨h1, h2, ?_⟩
  show nF Y * nF Y = _
  rw [h3]
  unfold Ec.A3
  clear h1 h2 h3
  grind
/-- the answer, of a key that is one and 64 bytes; A: the point that the signature asks for -/
def verA (r s : Nat) (A : Ec.Pt) : Int := if r = 0 ∨ s = 0 ∨ ¬ r < Prim.N256 ∨ ¬ s < Prim.N256 then 4 else if A = none ∨ poX A % Prim.N256 ≠ r then 4 else 0
end Go.Proofs.YtfaobdakpbpkbaaDoor
end
