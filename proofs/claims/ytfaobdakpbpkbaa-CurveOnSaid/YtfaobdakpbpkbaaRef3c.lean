/-
  porticoref03: Add, Reduce, R, Half, Over. Conditions: numbers are below 2^256, and below the modulus where the document says so.
-/
import Derived.Test.YtfaobdakpbpkbaaRef3b
namespace Go.Proofs.Ytfaobdakpbpkbaa
open Go.RowKit Go.Pt
set_option maxHeartbeats 2000000 in
theorem refAdd (a b m : Nat) (w : World) (hm : m < W256) (ha : a < m) (hb : b < m) :
    Calls Try.prog 31 #[num16 a, num16 b, num16 m] w fun e w' => e = .returned (num16 ((a + b) % m)) ∧ Hp w [] w' := by
  refine enter (args := [_, _, _]) (Γ := [(0, _), (1, _), (2, _)]) Try.func31 Try.ntmps31 rfl (of_decide_eq_true rfl) (.cons rfl (.cons rfl (.cons rfl .nil))) ?_
  have hT2 : a + b < 2 * m := by omega
  have hT : a + b < D16 ^ 17 := Nat.lt_of_lt_of_le hT2 (Nat.le_trans (Nat.mul_le_mul_left 2 (Nat.le_of_lt hm)) (by decide))
  have hon := once hT2
  repeat' (first | (apply Wl.boxN; exact rfl; exact rfl; intro c hc ho) | (apply Wl.allocN; exact rfl; (first | exact z8 | exact z16 | exact z17 | exact z33 | exact z10); intro c hc ho) | (apply Wl.assign; exact rfl; exact rfl) | (apply Wl.nil) | (apply St.seq) | (apply St.block) | (apply St.region) | (apply Gt.next) | (apply Wl.splitP; exact rfl; exact rfl; all_goals (intros; try (exfalso; omega))) | (apply Wl.splitB; exact rfl; exact rfl; all_goals intros) | (apply St.condP; exact rfl; all_goals (intros; try (exfalso; omega))) | (apply St.condB; exact rfl; all_goals intros))
  rename_i ca hca hoa cb hcb hob cm hcm hom cr hcr hor
  generalize c = ct at *
  refine St.loop (σ := Nat × Nat) (fun τ => τ.1 ≤ 16 ∧ τ.2 ≤ 1 ∧ hi D16 (a + b) τ.1 = hi D16 a τ.1 + hi D16 b τ.1 + τ.2)
    (fun τ => [(3, mp ca), (4, mp cb), (5, mp cm), (6, mp cr), (7, mp ct), (8, .int .u64 τ.2), (9, .int .i64 τ.1)])
    (fun τ => Hp w [⟨ct, cellsN .u64 17 (fillN (fun _ => 0) (dg D16 (a + b)) τ.1), 86⟩, ⟨cr, cellsN .u64 16 fun _ => 0, 32⟩, ⟨cm, cellsN .u64 16 (dg D16 m), 32⟩, ⟨cb, cellsN .u64 16 (dg D16 b), 32⟩, ⟨ca, cellsN .u64 16 (dg D16 a), 32⟩])
    (fun τ => 16 - τ.1) (0, 0) ⟨by simp, by simp, by simp [hi_zero]⟩ (by (repeat (first | exact Sub.nil | apply Sub.cons rfl))) (fun _ h => by simpa only [fillN_zero] using h) ?_
  rintro ⟨i, c⟩ ⟨hi16, hc1, hic⟩
  simp only at hi16 hc1 hic ⊢
  have hA := dlt16 a i
  have hB := dlt16 b i
  by_cases hlt : i < 16
  · obtain ⟨p1, p2⟩ := add16 hic
    repeat' (first | (apply Wl.indexA; exact rfl; exact rfl; exact rfl; (omega)) | (apply Wl.loadN; exact rfl; exact rfl; (repeat (first | exact List.Mem.head _ | apply List.Mem.tail)); (omega)) | (apply Wl.storeN; exact rfl; exact rfl; (repeat (first | apply HSet.here | apply HSet.there)); (omega)) | (apply Wl.addNU; exact rfl; exact rfl; exact rfl; (first | assumption | omega)) | (apply Wl.quoN (n := 65536); exact rfl; exact rfl; exact rfl; (decide); (first | exact IntWalk.u64_in _ (by omega) | exact IntWalk.i64_in _ (by omega))) | (apply Wl.remN (n := 65536); exact rfl; exact rfl; exact rfl; (decide)) | (apply Wl.move; exact rfl; exact rfl) | (apply Wl.assign; exact rfl; exact rfl) | (apply Wl.lss; exact rfl; exact rfl; exact rfl) | (apply Wl.addI; exact rfl; exact rfl; exact rfl; (constructor <;> omega)) | (apply Wl.nil) | (apply Wl.nilQ) | (apply St.seq) | (apply St.block) | (apply St.region) | (apply St.draw; exact mixed; (kernel_rfl); exact (fun _ h => Hp.drew h)) | (apply St.skip) | (apply Gt.next) | (apply Gt.inNormal) | (apply Wl.splitP; exact rfl; exact rfl; all_goals (intros; try (exfalso; omega))) | (apply Wl.splitB; exact rfl; exact rfl; all_goals intros) | (apply St.condP; exact rfl; all_goals (intros; try (exfalso; omega))) | (apply St.condB; exact rfl; all_goals intros))
    rw [p1]
    apply Gt.round (i + 1, (dg D16 a i + dg D16 b i + c) / 65536)
    rotate_left
    · simp only; omega
    · (repeat (first | exact Sub.nil | apply Sub.cons rfl))
    · exact fun _ h => by rw [fillN_step] at h; exact h
    · exact ⟨by simp only; omega, by simp only; omega, p2⟩
  · have hie : i = 16 := by omega
    subst hie
    have hc : c = dg D16 (a + b) 16 := by
      rw [hi16_lt (show a < W256 by omega), hi16_lt (show b < W256 by omega), Nat.zero_add] at hic
      unfold dg
      rw [hic, Nat.mod_eq_of_lt (by unfold D16; omega)]
      try omega
    repeat' (first | (apply Wl.indexA (j := 16); exact rfl; exact rfl; exact rfl; (decide)) | (apply Wl.storeN; exact rfl; exact rfl; (repeat (first | apply HSet.here | apply HSet.there)); (omega)) | (apply Wl.loadW; exact rfl; exact rfl; (repeat (first | exact List.Mem.head _ | apply List.Mem.tail)); exact rfl) | (apply Wl.move; exact rfl; exact rfl) | (apply Wl.lss; exact rfl; exact rfl; exact rfl) | (apply Wl.nil) | (apply St.seq) | (apply St.region) | (apply St.condF; exact rfl; (first | with_reducible rfl | with_reducible assumption | decide)) | (apply St.exit) | (apply Gt.next) | (apply Gt.thenExit) | (apply Gt.inExit) | (apply Wl.splitP; exact rfl; exact rfl; all_goals (intros; try (exfalso; omega))) | (apply Wl.splitB; exact rfl; exact rfl; all_goals intros) | (apply St.condP; exact rfl; all_goals (intros; try (exfalso; omega))) | (apply St.condB; exact rfl; all_goals intros))
    subst hc
    rw [fillN_step, fillN_end]
    apply Wl.callQ
    exact rfl
    (repeat (first | exact Evs.nil | apply Evs.cons rfl))
    · intro wq hq
      refine (refLess (a + b) m wq hm hT).mono ?_
      rintro e wr ⟨rfl, hr⟩
      exact ⟨rfl, hq.keep hr⟩
    by_cases hTm : a + b < m
    · have ht : decide (a + b < m) = true := by simp [hTm]
      rw [ht]
      repeat' (first | (apply Wl.sliceArrF (h' := 16); exact rfl; exact rfl; exact rfl; (decide); (decide)) | (apply Wl.sliceToArr; exact rfl; exact rfl; (decide)) | (apply Wl.loadT; exact rfl; exact rfl; (repeat (first | exact List.Mem.head _ | apply List.Mem.tail)); (decide)) | (apply Gt.outN; exact rfl; infer_instance; exact rfl; (repeat (first | exact List.Mem.head _ | apply List.Mem.tail)); exact rfl; intro w' hp) | (apply Wl.storeW; exact rfl; exact rfl; (repeat (first | apply HSet.here | apply HSet.there)); exact rfl; (first | exact cellsN_len _ _ _ | exact rfl)) | (apply Wl.not; exact rfl; exact rfl) | (apply Wl.nil) | (apply St.seq) | (apply St.region) | (apply St.condF; exact rfl; (first | with_reducible rfl | with_reducible assumption | decide)) | (apply St.ret) | (apply St.skip) | (apply Gt.next) | (apply Wl.splitP; exact rfl; exact rfl; all_goals (intros; try (exfalso; omega))) | (apply Wl.splitB; exact rfl; exact rfl; all_goals intros) | (apply St.condP; exact rfl; all_goals (intros; try (exfalso; omega))) | (apply St.condB; exact rfl; all_goals intros))
      refine ⟨?_, hp.drop (by simp; omega)⟩
      rw [hon, if_neg (by omega)]
    · have ht : decide (a + b < m) = false := by simp [hTm]
      rw [ht]
      repeat' (first | (apply Wl.loadW; exact rfl; exact rfl; (repeat (first | exact List.Mem.head _ | apply List.Mem.tail)); exact rfl) | (apply Wl.not; exact rfl; exact rfl) | (apply Wl.nil) | (apply St.region) | (apply St.condT; exact rfl; (first | with_reducible rfl | with_reducible assumption | decide)) | (apply Gt.next) | (apply Wl.splitP; exact rfl; exact rfl; all_goals (intros; try (exfalso; omega))) | (apply Wl.splitB; exact rfl; exact rfl; all_goals intros) | (apply St.condP; exact rfl; all_goals (intros; try (exfalso; omega))) | (apply St.condB; exact rfl; all_goals intros))
      apply Wl.callQ
      exact rfl
      (repeat (first | exact Evs.nil | apply Evs.cons rfl))
      · intro wq hq
        refine (refTake (a + b) m wq hm hT (by omega)).mono ?_
        rintro e wr ⟨rfl, hr⟩
        exact ⟨rfl, hq.keep hr⟩
      repeat' (first | (apply Wl.sliceArrF (h' := 16); exact rfl; exact rfl; exact rfl; (decide); (decide)) | (apply Wl.sliceToArr; exact rfl; exact rfl; (decide)) | (apply Wl.loadT; exact rfl; exact rfl; (repeat (first | exact List.Mem.head _ | apply List.Mem.tail)); (decide)) | (apply Gt.outN; exact rfl; infer_instance; exact rfl; (repeat (first | exact List.Mem.head _ | apply List.Mem.tail)); exact rfl; intro w' hp) | (apply Wl.storeW; exact rfl; exact rfl; (repeat (first | apply HSet.here | apply HSet.there)); exact rfl; (first | exact cellsN_len _ _ _ | exact rfl)) | (apply Wl.nil) | (apply St.seq) | (apply St.region) | (apply St.ret) | (apply Gt.next) | (apply Wl.splitP; exact rfl; exact rfl; all_goals (intros; try (exfalso; omega))) | (apply Wl.splitB; exact rfl; exact rfl; all_goals intros) | (apply St.condP; exact rfl; all_goals (intros; try (exfalso; omega))) | (apply St.condB; exact rfl; all_goals intros))
      refine ⟨?_, hp.drop (by simp; omega)⟩
      rw [hon, if_pos (by omega)]
theorem z16' : cellsN .u64 16 (fun _ => 0) = cellsN .u64 16 (dg D16 0) := cellsN_congr fun j _ => by unfold dg hi; simp
set_option maxHeartbeats 2000000 in
theorem refReduce (a m : Nat) (w : World) (ha : a < W256) (hm : m < W256) (h0 : 0 < m) :
    Calls Try.prog 49 #[num16 a, num16 m] w fun e w' => e = .returned (num16 (a % m)) ∧ Hp w [] w' := by
  refine enter (args := [_, _]) (Γ := [(0, _), (1, _)]) Try.func49 Try.ntmps49 rfl (of_decide_eq_true rfl) (.cons rfl (.cons rfl .nil)) ?_
  repeat' (first | (apply Wl.boxN; exact rfl; exact rfl; intro c hc ho) | (apply Wl.allocN; exact rfl; (first | exact z8 | exact z16 | exact z17 | exact z33 | exact z10); intro c hc ho) | (apply Wl.assign; exact rfl; exact rfl) | (apply Wl.nil) | (apply St.seq) | (apply St.block) | (apply St.region) | (apply Gt.next) | (apply Wl.splitP; exact rfl; exact rfl; all_goals (intros; try (exfalso; omega))) | (apply Wl.splitB; exact rfl; exact rfl; all_goals intros) | (apply St.condP; exact rfl; all_goals (intros; try (exfalso; omega))) | (apply St.condB; exact rfl; all_goals intros))
  rename_i ca hca hoa cm hcm hom cr hcr hor
  generalize c = cx at *
  have e256 : a / 2 ^ 256 % m = 0 := by
    rw [Nat.div_eq_of_lt (Nat.lt_of_lt_of_eq ha (by decide)), Nat.zero_mod]
  refine St.loop (σ := Nat) (fun n => n ≤ 256)
    (fun n => [(2, mp ca), (3, mp cm), (4, mp cr), (5, mp cx), (6, .int .i64 ((n : Int) - 1))])
    (fun n => Hp w [⟨cx, cellsN .u64 16 (dg D16 (a / 2 ^ n % m)), 32⟩, ⟨cr, cellsN .u64 16 fun _ => 0, 32⟩, ⟨cm, cellsN .u64 16 (dg D16 m), 32⟩, ⟨ca, cellsN .u64 16 (dg D16 a), 32⟩])
    (fun n => n) 256 (Nat.le_refl _) (by (repeat (first | exact Sub.nil | apply Sub.cons rfl))) (fun _ h => by
      show Hp w [⟨cx, cellsN .u64 16 (dg D16 (a / 2 ^ 256 % m)), _⟩, _, _, _] _
      rw [e256, ← z16']; exact h) ?_
  intro n hn
  cases n with
  | zero =>
    rw [Nat.pow_zero, Nat.div_one]
    repeat' (first | (apply Gt.outN; exact rfl; infer_instance; exact rfl; (repeat (first | exact List.Mem.head _ | apply List.Mem.tail)); exact rfl; intro w' hp) | (apply Wl.loadW; exact rfl; exact rfl; (repeat (first | exact List.Mem.head _ | apply List.Mem.tail)); exact rfl) | (apply Wl.storeW; exact rfl; exact rfl; (repeat (first | apply HSet.here | apply HSet.there)); exact rfl; (first | exact cellsN_len _ _ _ | exact rfl)) | (apply Wl.move; exact rfl; exact rfl) | (apply Wl.geq; exact rfl; exact rfl; exact rfl) | (apply Wl.nil) | (apply St.seq) | (apply St.region) | (apply St.condF; exact rfl; (first | with_reducible rfl | with_reducible assumption | decide)) | (apply St.ret) | (apply St.exit) | (apply Gt.next) | (apply Gt.thenExit) | (apply Gt.inExit) | (apply Wl.splitP; exact rfl; exact rfl; all_goals (intros; try (exfalso; omega))) | (apply Wl.splitB; exact rfl; exact rfl; all_goals intros) | (apply St.condP; exact rfl; all_goals (intros; try (exfalso; omega))) | (apply St.condB; exact rfl; all_goals intros))
    exact ⟨rfl, hp.drop (by simp; omega)⟩
  | succ i =>
    have ei : (((i + 1 : Nat) : Int) - 1) = (i : Int) := by omega
    rw [ei]
    have hr := Nat.mod_lt (a / 2 ^ (i + 1)) h0
    have hh := horner a m i
    have hbit := bit_dg16 a i
    have hd := dlt16 a (i / 16)
    have h16 : i / 16 < 16 := by omega
    have hb2 := Nat.mod_lt (a / 2 ^ i) (show 0 < 2 by decide)
    generalize hre : a / 2 ^ (i + 1) % m = r at *
    repeat' (first | (apply Wl.move; exact rfl; exact rfl) | (apply Wl.geq; exact rfl; exact rfl; exact rfl) | (apply Wl.nil) | (apply St.seq) | (apply St.block) | (apply St.region) | (apply St.skip) | (apply Gt.next) | (apply Wl.splitP; exact rfl; exact rfl; all_goals (intros; try (exfalso; omega))) | (apply Wl.splitB; exact rfl; exact rfl; all_goals intros) | (apply St.condP; exact rfl; all_goals (intros; try (exfalso; omega))) | (apply St.condB; exact rfl; all_goals intros))
    refine St.tree (Hp w [_, _, _]) mixed (fun _ h => ⟨Hp.drew h, hpPop (Hp.drew h) (by simp only; omega)⟩) ?_
    refine Mt.pure 1 (by decide +kernel) (by exact rfl) (by exact rfl) (by decide +kernel) (by decide +kernel) ?_
    repeat' (first | (apply Wl.loadW; exact rfl; exact rfl; (repeat (first | exact List.Mem.head _ | apply List.Mem.tail)); exact rfl) | (apply Wl.nilM) | (apply Wl.splitP; exact rfl; exact rfl; all_goals (intros; try (exfalso; omega))) | (apply Wl.splitB; exact rfl; exact rfl; all_goals intros) | (apply St.condP; exact rfl; all_goals (intros; try (exfalso; omega))) | (apply St.condB; exact rfl; all_goals intros))
    apply Mt.back
    refine Mt.pure 2 (by decide +kernel) (by exact rfl) (by exact rfl) (by decide +kernel) (by decide +kernel) ?_
    repeat' (first | (apply Wl.move; exact rfl; exact rfl) | (apply Wl.nilM) | (apply Wl.splitP; exact rfl; exact rfl; all_goals (intros; try (exfalso; omega))) | (apply Wl.splitB; exact rfl; exact rfl; all_goals intros) | (apply St.condP; exact rfl; all_goals (intros; try (exfalso; omega))) | (apply St.condB; exact rfl; all_goals intros))
    apply Mt.back
    refine Mt.pure 3 (by decide +kernel) (by exact rfl) (by exact rfl) (by decide +kernel) (by decide +kernel) ?_
    repeat' (first | (apply Wl.quoN (n := 16); exact rfl; exact rfl; exact rfl; (decide); (first | exact IntWalk.u64_in _ (by omega) | exact IntWalk.i64_in _ (by omega))) | (apply Wl.nilM) | (apply Wl.splitP; exact rfl; exact rfl; all_goals (intros; try (exfalso; omega))) | (apply Wl.splitB; exact rfl; exact rfl; all_goals intros) | (apply St.condP; exact rfl; all_goals (intros; try (exfalso; omega))) | (apply St.condB; exact rfl; all_goals intros))
    apply Mt.back
    refine Mt.pure 4 (by decide +kernel) (by exact rfl) (by exact rfl) (by decide +kernel) (by decide +kernel) ?_
    repeat' (first | (apply Wl.indexA; exact rfl; exact rfl; exact rfl; (omega)) | (apply Wl.nilM) | (apply Wl.splitP; exact rfl; exact rfl; all_goals (intros; try (exfalso; omega))) | (apply Wl.splitB; exact rfl; exact rfl; all_goals intros) | (apply St.condP; exact rfl; all_goals (intros; try (exfalso; omega))) | (apply St.condB; exact rfl; all_goals intros))
    apply Mt.back
    refine Mt.pure 5 (by decide +kernel) (by exact rfl) (by exact rfl) (by decide +kernel) (by decide +kernel) ?_
    repeat' (first | (apply Wl.loadN; exact rfl; exact rfl; (repeat (first | exact List.Mem.head _ | apply List.Mem.tail)); (omega)) | (apply Wl.nilM) | (apply Wl.splitP; exact rfl; exact rfl; all_goals (intros; try (exfalso; omega))) | (apply Wl.splitB; exact rfl; exact rfl; all_goals intros) | (apply St.condP; exact rfl; all_goals (intros; try (exfalso; omega))) | (apply St.condB; exact rfl; all_goals intros))
    apply Mt.back
    refine Mt.pure 6 (by decide +kernel) (by exact rfl) (by exact rfl) (by decide +kernel) (by decide +kernel) ?_
    repeat' (first | (apply Wl.move; exact rfl; exact rfl) | (apply Wl.nilM) | (apply Wl.splitP; exact rfl; exact rfl; all_goals (intros; try (exfalso; omega))) | (apply Wl.splitB; exact rfl; exact rfl; all_goals intros) | (apply St.condP; exact rfl; all_goals (intros; try (exfalso; omega))) | (apply St.condB; exact rfl; all_goals intros))
    apply Mt.back
    refine Mt.pure 7 (by decide +kernel) (by exact rfl) (by exact rfl) (by decide +kernel) (by decide +kernel) ?_
    repeat' (first | (apply Wl.remN (n := 16); exact rfl; exact rfl; exact rfl; (decide)) | (apply Wl.nilM) | (apply Wl.splitP; exact rfl; exact rfl; all_goals (intros; try (exfalso; omega))) | (apply Wl.splitB; exact rfl; exact rfl; all_goals intros) | (apply St.condP; exact rfl; all_goals (intros; try (exfalso; omega))) | (apply St.condB; exact rfl; all_goals intros))
    apply Mt.back
    refine Mt.pure 8 (by decide +kernel) (by exact rfl) (by exact rfl) (by decide +kernel) (by decide +kernel) ?_
    repeat' (first | (apply Wl.shrV; exact rfl; exact rfl; exact rfl; (first | (show _ ≤ 32; omega) | (show _ ≤ 64; omega))) | (apply Wl.nilM) | (apply Wl.splitP; exact rfl; exact rfl; all_goals (intros; try (exfalso; omega))) | (apply Wl.splitB; exact rfl; exact rfl; all_goals intros) | (apply St.condP; exact rfl; all_goals (intros; try (exfalso; omega))) | (apply St.condB; exact rfl; all_goals intros))
    apply Mt.back
    refine Mt.pure 9 (by decide +kernel) (by exact rfl) (by exact rfl) (by decide +kernel) (by decide +kernel) ?_
    repeat' (first | (apply Wl.remN (n := 2); exact rfl; exact rfl; exact rfl; (decide)) | (apply Wl.nilM) | (apply Wl.splitP; exact rfl; exact rfl; all_goals (intros; try (exfalso; omega))) | (apply Wl.splitB; exact rfl; exact rfl; all_goals intros) | (apply St.condP; exact rfl; all_goals (intros; try (exfalso; omega))) | (apply St.condB; exact rfl; all_goals intros))
    apply Mt.back
    refine Mt.eff1 (i := 0) (by decide +kernel) (by exact rfl) ?_
    repeat' (first | (apply Wl.loadW; exact rfl; exact rfl; (repeat (first | exact List.Mem.head _ | apply List.Mem.tail)); exact rfl) | (apply Wl.nil) | (apply Wl.splitP; exact rfl; exact rfl; all_goals (intros; try (exfalso; omega))) | (apply Wl.splitB; exact rfl; exact rfl; all_goals intros) | (apply St.condP; exact rfl; all_goals (intros; try (exfalso; omega))) | (apply St.condB; exact rfl; all_goals intros))
    refine Mt.backE (fun _ h => by first | exact h | exact hpPop h (by simp only; omega)) ?_
    rw [hbit]
    refine Mt.eff1 (i := 10) (by decide +kernel) (by exact rfl) ?_
    apply Wl.callQ
    exact rfl
    (repeat (first | exact Evs.nil | apply Evs.cons rfl))
    · intro wq hq
      refine (refTwice r m (a / 2 ^ i % 2) wq hm hr (by omega)).mono ?_
      rintro e wr ⟨rfl, hr⟩
      exact ⟨rfl, hq.keep hr⟩
    rw [hh]
    repeat' (first | (apply Wl.nil) | (apply Wl.splitP; exact rfl; exact rfl; all_goals (intros; try (exfalso; omega))) | (apply Wl.splitB; exact rfl; exact rfl; all_goals intros) | (apply St.condP; exact rfl; all_goals (intros; try (exfalso; omega))) | (apply St.condB; exact rfl; all_goals intros))
    refine Mt.backE (fun _ h => by first | exact h | exact hpPop h (by simp only; omega)) ?_
    refine Mt.eff1 (i := 11) (by decide +kernel) (by exact rfl) ?_
    repeat' (first | (apply Wl.storeW; exact rfl; exact rfl; (repeat (first | apply HSet.here | apply HSet.there)); exact rfl; (first | exact cellsN_len _ _ _ | exact rfl)) | (apply Wl.nil) | (apply Wl.splitP; exact rfl; exact rfl; all_goals (intros; try (exfalso; omega))) | (apply Wl.splitB; exact rfl; exact rfl; all_goals intros) | (apply St.condP; exact rfl; all_goals (intros; try (exfalso; omega))) | (apply St.condB; exact rfl; all_goals intros))
    refine Mt.backE (fun _ h => by first | exact h | exact hpPop h (by simp only; omega)) ?_
    refine Mt.toGt (by decide +kernel) ?_
    repeat' (first | (apply Wl.move; exact rfl; exact rfl) | (apply Wl.assign; exact rfl; exact rfl) | (apply Wl.subI; exact rfl; exact rfl; exact rfl; (constructor <;> omega)) | (apply Wl.nil) | (apply St.region) | (apply Gt.next) | (apply Gt.inNormal) | (apply Wl.splitP; exact rfl; exact rfl; all_goals (intros; try (exfalso; omega))) | (apply Wl.splitB; exact rfl; exact rfl; all_goals intros) | (apply St.condP; exact rfl; all_goals (intros; try (exfalso; omega))) | (apply St.condB; exact rfl; all_goals intros))
    apply Gt.round i
    rotate_left
    · simp
    · (repeat (first | exact Sub.nil | apply Sub.cons rfl))
    · exact fun _ h => h
    · omega
set_option maxHeartbeats 2000000 in
theorem refR (m : Nat) (w : World) (hm : m < W256) (h1 : 1 < m) :
    Calls Try.prog 30 #[num16 m] w fun e w' => e = .returned (num16 (W256 % m)) ∧ Hp w [] w' := by
  refine enter (args := [_]) (Γ := [(0, _)]) Try.func30 Try.ntmps30 rfl (of_decide_eq_true rfl) (.cons rfl .nil) ?_
  repeat' (first | (apply Wl.loadW; exact rfl; exact rfl; (repeat (first | exact List.Mem.head _ | apply List.Mem.tail)); exact rfl) | (apply Wl.boxN; exact rfl; exact rfl; intro c hc ho) | (apply Wl.buildN; exact rfl; (repeat (first | exact Parts.nil | apply Parts.cons rfl)); (repeat (first | apply Fills.nil | (apply Fills.one; exact rfl; exact rfl; (repeat (first | apply LSet.z | apply LSet.s))) | (apply Fills.agg; exact rfl; exact rfl; (repeat (first | apply LPut.s | apply LPut.z | apply LOver.nil | apply LOver.cons))))); (first | exact one8 | exact zero8 | exact two8 | exact one16)) | (apply Wl.allocN; exact rfl; (first | exact z8 | exact z16 | exact z17 | exact z33 | exact z10); intro c hc ho) | (apply Wl.nil) | (apply St.seq) | (apply St.region) | (apply Gt.next) | (apply Wl.splitP; exact rfl; exact rfl; all_goals (intros; try (exfalso; omega))) | (apply Wl.splitB; exact rfl; exact rfl; all_goals intros) | (apply St.condP; exact rfl; all_goals (intros; try (exfalso; omega))) | (apply St.condB; exact rfl; all_goals intros))
  apply Wl.callQ
  exact rfl
  (repeat (first | exact Evs.nil | apply Evs.cons rfl))
  · intro wq hq
    refine (refReduce 1 m wq (by decide) hm (by omega)).mono ?_
    rintro e wr ⟨rfl, hr⟩
    exact ⟨rfl, hq.keep hr⟩
  repeat' (first | (apply Wl.storeW; exact rfl; exact rfl; (repeat (first | apply HSet.here | apply HSet.there)); exact rfl; (first | exact cellsN_len _ _ _ | exact rfl)) | (apply Wl.allocN; exact rfl; (first | exact z8 | exact z16 | exact z17 | exact z33 | exact z10); intro c hc ho) | (apply Wl.assign; exact rfl; exact rfl) | (apply Wl.nil) | (apply St.seq) | (apply St.block) | (apply St.region) | (apply Gt.next) | (apply Wl.splitP; exact rfl; exact rfl; all_goals (intros; try (exfalso; omega))) | (apply Wl.splitB; exact rfl; exact rfl; all_goals intros) | (apply St.condP; exact rfl; all_goals (intros; try (exfalso; omega))) | (apply St.condB; exact rfl; all_goals intros))
  rename_i ca hca hoa cr hcr hor
  generalize c = cx at *
  refine St.loop (σ := Nat) (fun i => i ≤ 256)
    (fun i => [(1, mp ca), (2, mp cr), (3, mp cx), (4, .int .i64 i)])
    (fun i => Hp w [⟨cx, cellsN .u64 16 (dg D16 (2 ^ i % m)), 32⟩, ⟨cr, cellsN .u64 16 fun _ => 0, 32⟩, ⟨ca, cellsN .u64 16 (dg D16 m), 32⟩])
    (fun i => 256 - i) 0 (by simp) (by (repeat (first | exact Sub.nil | apply Sub.cons rfl))) (fun _ h => h) ?_
  intro i hi
  have hr : 2 ^ i % m < m := Nat.mod_lt _ (by omega)
  have e2 : (2 * (2 ^ i % m) + 0) % m = 2 ^ (i + 1) % m := by rw [Nat.add_zero, Nat.pow_succ', Nat.mul_mod, Nat.mod_mod, ← Nat.mul_mod]
  by_cases hlt : i < 256
  · repeat' (first | (apply Wl.loadW; exact rfl; exact rfl; (repeat (first | exact List.Mem.head _ | apply List.Mem.tail)); exact rfl) | (apply Wl.move; exact rfl; exact rfl) | (apply Wl.lss; exact rfl; exact rfl; exact rfl) | (apply Wl.nil) | (apply St.seq) | (apply St.block) | (apply St.region) | (apply St.skip) | (apply Gt.next) | (apply Wl.splitP; exact rfl; exact rfl; all_goals (intros; try (exfalso; omega))) | (apply Wl.splitB; exact rfl; exact rfl; all_goals intros) | (apply St.condP; exact rfl; all_goals (intros; try (exfalso; omega))) | (apply St.condB; exact rfl; all_goals intros))
    apply Wl.callQ
    exact rfl
    (repeat (first | exact Evs.nil | apply Evs.cons rfl))
    · intro wq hq
      refine (refTwice (2 ^ i % m) m 0 wq hm hr (by decide)).mono ?_
      rintro e wr ⟨rfl, hr⟩
      exact ⟨rfl, hq.keep hr⟩
    rw [e2]
    repeat' (first | (apply Wl.storeW; exact rfl; exact rfl; (repeat (first | apply HSet.here | apply HSet.there)); exact rfl; (first | exact cellsN_len _ _ _ | exact rfl)) | (apply Wl.move; exact rfl; exact rfl) | (apply Wl.assign; exact rfl; exact rfl) | (apply Wl.addI; exact rfl; exact rfl; exact rfl; (constructor <;> omega)) | (apply Wl.nil) | (apply St.region) | (apply Gt.next) | (apply Gt.inNormal) | (apply Wl.splitP; exact rfl; exact rfl; all_goals (intros; try (exfalso; omega))) | (apply Wl.splitB; exact rfl; exact rfl; all_goals intros) | (apply St.condP; exact rfl; all_goals (intros; try (exfalso; omega))) | (apply St.condB; exact rfl; all_goals intros))
    apply Gt.round (i + 1)
    rotate_left
    · omega
    · (repeat (first | exact Sub.nil | apply Sub.cons rfl))
    · exact fun _ h => h
    · omega
  · have hie : i = 256 := by omega
    rw [hie] at *
    repeat' (first | (apply Gt.outN; exact rfl; infer_instance; exact rfl; (repeat (first | exact List.Mem.head _ | apply List.Mem.tail)); exact rfl; intro w' hp) | (apply Wl.loadW; exact rfl; exact rfl; (repeat (first | exact List.Mem.head _ | apply List.Mem.tail)); exact rfl) | (apply Wl.storeW; exact rfl; exact rfl; (repeat (first | apply HSet.here | apply HSet.there)); exact rfl; (first | exact cellsN_len _ _ _ | exact rfl)) | (apply Wl.move; exact rfl; exact rfl) | (apply Wl.lss; exact rfl; exact rfl; exact rfl) | (apply Wl.nil) | (apply St.seq) | (apply St.region) | (apply St.condF; exact rfl; (first | with_reducible rfl | with_reducible assumption | decide)) | (apply St.ret) | (apply St.exit) | (apply Gt.next) | (apply Gt.thenExit) | (apply Gt.inExit) | (apply Wl.splitP; exact rfl; exact rfl; all_goals (intros; try (exfalso; omega))) | (apply Wl.splitB; exact rfl; exact rfl; all_goals intros) | (apply St.condP; exact rfl; all_goals (intros; try (exfalso; omega))) | (apply St.condB; exact rfl; all_goals intros))
    exact ⟨by rw [show W256 = 2 ^ 256 by decide], hp.drop (by simp; omega)⟩
end Go.Proofs.Ytfaobdakpbpkbaa
