/-
  porticoref04.Field.Inv; the document's field told over the field of the group law; its points as values. Conditions: numbers are below the modulus.
-/
import Derived.Test.YtfaobdakpbpkbaaRef4d
namespace Go.Proofs.Ytfaobdakpbpkbaa
open Go.RowKit Go.Pt
attribute [local irreducible] Prim.P256
def pwm (m x k : Nat) : Nat := x ^ k % m
theorem pwm_zero (m x : Nat) (h : 1 < m) : pwm m x 0 = 1 := by unfold pwm; rw [Nat.pow_zero, Nat.mod_eq_of_lt h]
theorem pwm_dbl (m x k : Nat) : pwm m x k * pwm m x k % m = pwm m x (2 * k) := by unfold pwm; rw [← Nat.mul_mod, Nat.two_mul, Nat.pow_add]
theorem pwm_one (m x k : Nat) : pwm m x k * x % m = pwm m x (k + 1) := by unfold pwm; rw [Nat.mod_mul_mod, Nat.pow_succ]
theorem pwm_lt {m : Nat} (x k : Nat) (h : 0 < m) : pwm m x k < m := Nat.mod_lt _ h
attribute [irreducible] pwm
theorem dg_less {m : Nat} (h : 2 ≤ dg D16 m 0) (j : Nat) : updN (dg D16 m) 0 (dg D16 m 0 - 2) j = dg D16 (m - 2) j := by
  have e : dg D16 m 0 = m % 65536 := by unfold dg; rw [hi_zero]
  have e' : dg D16 (m - 2) 0 = (m - 2) % 65536 := by unfold dg; rw [hi_zero]
  unfold updN
  by_cases hj : j = 0
  · subst hj
    rw [if_pos rfl, e, e']
    omega
  · rw [if_neg hj]
    obtain ⟨k, rfl⟩ : ∃ k, j = k + 1 := ⟨j - 1, by omega⟩
    have : ∀ n, dg D16 n (k + 1) = dg D16 (n / 65536) k := fun n => by
      unfold dg hi
      rw [Nat.div_div_eq_div_mul, Nat.pow_succ, Nat.mul_comm (D16 ^ k)]
    rw [this, this]
    congr 1
    omega
set_option maxHeartbeats 8000000 in
theorem refFInv (b m x : Nat) (w : World) (hF : FldV w b m) (hx : x < m) (h2 : 2 ≤ dg D16 m 0) : Calls Try.prog 53 #[mp b, num16 x] w fun e w' => e = .returned (num16 (pwm m x (m - 2))) ∧ Hp w [] w' := by
  have hb := hF.blk
  have hm1 : 1 < m := by have := hF.gt; unfold W256 at this; omega
  have hm0 : 0 < m := by omega
  have hmW := hF.lt
  refine enter (args := [_, _]) (Γ := [(0, _), (1, _)]) Try.func53 Try.ntmps53 rfl (of_decide_eq_true rfl) (.cons rfl (.cons rfl .nil)) ?_
  have hs : dg D16 m 0 < 65536 := dlt16 m 0
  have q0 : (dg D16 m 0 + 18446744073709551616 - 2) % 18446744073709551616 = dg D16 m 0 - 2 := by omega
  repeat' (first | (apply Wl.loadM; exact rfl; exact rfl; exact hF.mod; (repeat (first | exact trivial | exact hX.off (by omega) | refine ⟨by first | assumption | omega | (simp only; omega), ?_⟩)); exact rfl) | (apply Wl.indexA (j := 0); exact rfl; exact rfl; exact rfl; (decide)) | (apply Wl.subNU (n := 2); exact rfl; exact rfl; exact rfl; (omega)) | (apply Wl.loadN; exact rfl; exact rfl; (repeat (first | exact List.Mem.head _ | apply List.Mem.tail)); (omega)) | (apply Wl.storeN; exact rfl; exact rfl; (repeat (first | apply HSet.here | apply HSet.there)); (omega)) | (apply Wl.storeW; exact rfl; exact rfl; (repeat (first | apply HSet.here | apply HSet.there)); exact rfl; (first | exact cellsN_len _ _ _ | exact rfl)) | (apply Wl.boxN; exact rfl; exact rfl; intro c hc ho) | (apply Wl.buildN; exact rfl; (repeat (first | exact Parts.nil | apply Parts.cons rfl)); (repeat (first | apply Fills.nil | (apply Fills.one; exact rfl; exact rfl; (repeat (first | apply LSet.z | apply LSet.s))) | (apply Fills.agg; exact rfl; exact rfl; (repeat (first | apply LPut.s | apply LPut.z | apply LOver.nil | apply LOver.cons))))); (first | exact one8 | exact zero8 | exact two8 | exact one16)) | (apply Wl.allocN; exact rfl; (first | exact z8 | exact z16 | exact z17 | exact z33 | exact z10); intro c hc ho) | (apply Wl.move; exact rfl; exact rfl) | (apply Wl.assign; exact rfl; exact rfl) | (apply Wl.nilCheck; exact rfl; exact rfl) | (apply Wl.fieldAddr0; exact rfl; exact rfl) | (apply Wl.nil) | (apply St.seq) | (apply St.block) | (apply St.region) | (apply Gt.next) | (apply Wl.splitP; exact rfl; exact rfl; all_goals (intros; try (exfalso; omega))) | (apply Wl.splitB; exact rfl; exact rfl; all_goals intros) | (apply St.condP; exact rfl; all_goals (intros; try (exfalso; omega))) | (apply St.condB; exact rfl; all_goals intros))
  rw [q0, cellsN_congr (g := dg D16 (m - 2)) (fun j _ => dg_less h2 j)]
  rename_i c3 h3 o3 c4 h4 o4 c5 h5 o5
  generalize c = c6 at *
  have e0 : (m - 2) / 2 ^ 256 = 0 := Nat.div_eq_of_lt (by rw [show (2 : Nat) ^ 256 = W256 by decide]; omega)
  refine St.loop (σ := Nat) (fun n => n ≤ 256) (fun n => [(0, mp b), (3, mp c3), (4, mp c4), (5, mp c5), (6, mp c6), (7, .int .i64 ((n : Int) - 1))])
    (fun n => Hp w [⟨c6, cellsN .u64 16 (dg D16 (m - 2)), 32⟩, ⟨c5, cellsN .u64 16 (dg D16 (pwm m x ((m - 2) / 2 ^ n))), 32⟩, ⟨c4, cellsN .u64 16 fun _ => 0, 32⟩, ⟨c3, cellsN .u64 16 (dg D16 x), 32⟩])
    (fun n => n) 256 (Nat.le_refl _) (by (repeat (first | exact Sub.nil | apply Sub.cons rfl))) (fun _ h => by
      show Hp w [_, ⟨c5, cellsN .u64 16 (dg D16 (pwm m x ((m - 2) / 2 ^ 256))), _⟩, _, _] _
      rw [e0, pwm_zero m x hm1]
      exact h) ?_
  intro n hn
  cases n with
  | zero =>
    rw [Nat.pow_zero, Nat.div_one]
    repeat' (first | (apply Gt.outN; exact rfl; infer_instance; exact rfl; (repeat (first | exact List.Mem.head _ | apply List.Mem.tail)); exact rfl; intro w' hp) | (apply Wl.loadW; exact rfl; exact rfl; (repeat (first | exact List.Mem.head _ | apply List.Mem.tail)); exact rfl) | (apply Wl.storeW; exact rfl; exact rfl; (repeat (first | apply HSet.here | apply HSet.there)); exact rfl; (first | exact cellsN_len _ _ _ | exact rfl)) | (apply Wl.move; exact rfl; exact rfl) | (apply Wl.geq; exact rfl; exact rfl; exact rfl) | (apply Wl.nil) | (apply St.seq) | (apply St.region) | (apply St.condF; exact rfl; (first | with_reducible rfl | with_reducible assumption | decide)) | (apply St.ret) | (apply St.exit) | (apply Gt.next) | (apply Gt.thenExit) | (apply Gt.inExit) | (apply Wl.splitP; exact rfl; exact rfl; all_goals (intros; try (exfalso; omega))) | (apply Wl.splitB; exact rfl; exact rfl; all_goals intros) | (apply St.condP; exact rfl; all_goals (intros; try (exfalso; omega))) | (apply St.condB; exact rfl; all_goals intros))
    exact ⟨rfl, hp.drop (by simp; omega)⟩
  | succ i =>
    have ei : (((i + 1 : Nat) : Int) - 1) = (i : Int) := by omega
    rw [ei]
    have hr := pwm_lt x ((m - 2) / 2 ^ (i + 1)) hm0
    have hr2 := pwm_lt x (2 * ((m - 2) / 2 ^ (i + 1))) hm0
    have hd := pwm_dbl m x ((m - 2) / 2 ^ (i + 1))
    have hbit := bit_dg16 (m - 2) i
    have hst := bit_step (m - 2) i
    have hdl := dlt16 (m - 2) (i / 16)
    have h16 : i / 16 < 16 := by omega
    have hb2 := Nat.mod_lt ((m - 2) / 2 ^ i) (show 0 < 2 by decide)
    repeat' (first | (apply Wl.loadW; exact rfl; exact rfl; (repeat (first | exact List.Mem.head _ | apply List.Mem.tail)); exact rfl) | (apply Wl.move; exact rfl; exact rfl) | (apply Wl.geq; exact rfl; exact rfl; exact rfl) | (apply Wl.nil) | (apply St.seq) | (apply St.block) | (apply St.region) | (apply St.skip) | (apply Gt.next) | (apply Wl.splitP; exact rfl; exact rfl; all_goals (intros; try (exfalso; omega))) | (apply Wl.splitB; exact rfl; exact rfl; all_goals intros) | (apply St.condP; exact rfl; all_goals (intros; try (exfalso; omega))) | (apply St.condB; exact rfl; all_goals intros))
    apply Wl.callQ
    exact rfl
    (repeat (first | exact Evs.nil | apply Evs.cons rfl))
    · intro wq hq
      refine (refFMul b m _ _ wq (hF.hp hq (by apply Off.of; simp; omega)) hr hr).mono ?_
      rintro e wr ⟨rfl, hr⟩
      exact ⟨rfl, hq.keep hr⟩
    rw [hd]
    repeat' (first | (apply Wl.indexA; exact rfl; exact rfl; exact rfl; (omega)) | (apply Wl.loadN; exact rfl; exact rfl; (repeat (first | exact List.Mem.head _ | apply List.Mem.tail)); (omega)) | (apply Wl.storeW; exact rfl; exact rfl; (repeat (first | apply HSet.here | apply HSet.there)); exact rfl; (first | exact cellsN_len _ _ _ | exact rfl)) | (apply Wl.remN (n := 2); exact rfl; exact rfl; exact rfl; (decide)) | (apply Wl.quoN (n := 16); exact rfl; exact rfl; exact rfl; (decide); (first | exact IntWalk.u64_in _ (by omega) | exact IntWalk.i64_in _ (by omega))) | (apply Wl.remN (n := 16); exact rfl; exact rfl; exact rfl; (decide)) | (apply Wl.shrV; exact rfl; exact rfl; exact rfl; (first | (show _ ≤ 32; omega) | (show _ ≤ 64; omega))) | (apply Wl.move; exact rfl; exact rfl) | (apply Wl.eql; exact rfl; exact rfl; exact rfl) | (apply Wl.nil) | (apply St.seq) | (apply St.region) | (apply Gt.next))
    rw [hbit]
    by_cases hbi : (m - 2) / 2 ^ i % 2 = 1
    · have e1 : 2 * ((m - 2) / 2 ^ (i + 1)) + 1 = (m - 2) / 2 ^ i := by omega
      have h1 := pwm_one m x (2 * ((m - 2) / 2 ^ (i + 1)))
      rw [e1] at h1
      rw [hbi]
      repeat' (first | (apply Wl.callQ (f := 44); exact rfl; (repeat (first | exact Evs.nil | apply Evs.cons rfl)); (intro wq hq; refine (refFMul b m _ x wq (hF.hp hq (by (repeat (first | exact trivial | exact hX.off (by omega) | refine ⟨by first | assumption | omega | (simp only; omega), ?_⟩)))) hr2 hx).mono ?_; rintro e wr ⟨rfl, hr⟩; exact ⟨rfl, hq.keep hr⟩)) | (apply Wl.loadW; exact rfl; exact rfl; (repeat (first | exact List.Mem.head _ | apply List.Mem.tail)); exact rfl) | (apply Wl.storeW; exact rfl; exact rfl; (repeat (first | apply HSet.here | apply HSet.there)); exact rfl; (first | exact cellsN_len _ _ _ | exact rfl)) | (apply Wl.move; exact rfl; exact rfl) | (apply Wl.assign; exact rfl; exact rfl) | (apply Wl.subI; exact rfl; exact rfl; exact rfl; (constructor <;> omega)) | (apply Wl.nil) | (apply St.region) | (apply St.condT; exact rfl; (first | with_reducible rfl | with_reducible assumption | decide)) | (apply Gt.next) | (apply Gt.inNormal) | (apply Wl.splitP; exact rfl; exact rfl; all_goals (intros; try (exfalso; omega))) | (apply Wl.splitB; exact rfl; exact rfl; all_goals intros) | (apply St.condP; exact rfl; all_goals (intros; try (exfalso; omega))) | (apply St.condB; exact rfl; all_goals intros))
      rw [h1]
      apply Gt.round i
      rotate_left
      · omega
      · (repeat (first | exact Sub.nil | apply Sub.cons rfl))
      · exact fun _ h => h
      · omega
    · have hb0 : (m - 2) / 2 ^ i % 2 = 0 := by omega
      have e1 : 2 * ((m - 2) / 2 ^ (i + 1)) = (m - 2) / 2 ^ i := by omega
      rw [hb0, e1]
      repeat' (first | (apply Wl.move; exact rfl; exact rfl) | (apply Wl.assign; exact rfl; exact rfl) | (apply Wl.subI; exact rfl; exact rfl; exact rfl; (constructor <;> omega)) | (apply Wl.nil) | (apply St.region) | (apply St.condF; exact rfl; (first | with_reducible rfl | with_reducible assumption | decide)) | (apply St.skip) | (apply Gt.next) | (apply Gt.inNormal) | (apply Wl.splitP; exact rfl; exact rfl; all_goals (intros; try (exfalso; omega))) | (apply Wl.splitB; exact rfl; exact rfl; all_goals intros) | (apply St.condP; exact rfl; all_goals (intros; try (exfalso; omega))) | (apply St.condB; exact rfl; all_goals intros))
      apply Gt.round i
      rotate_left
      · omega
      · (repeat (first | exact Sub.nil | apply Sub.cons rfl))
      · exact fun _ h => h
      · omega
end Go.Proofs.Ytfaobdakpbpkbaa
