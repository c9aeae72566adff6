/-
  porticoref03: take, twice, Add, Sub, Reduce, R. Conditions: numbers are below 2^256, and below the modulus where the document says so.
-/
import Derived.Test.YtfaobdakpbpkbaaRef3
namespace Go.Proofs.Ytfaobdakpbpkbaa
open Go.RowKit Go.Pt
theorem hi16_lt {n : Nat} (h : n < W256) : hi D16 n 16 = 0 := hi_top (by rw [← W256_eq16]; exact h)
theorem d16_mod (n : Nat) : cellsN .u64 16 (dg D16 (n % W256)) = cellsN .u64 16 (dg D16 n) := cellsN_congr fun j hj => by rw [W256_eq16]; exact dg_mod hj
set_option maxHeartbeats 1000000 in
theorem refTake (T b : Nat) (w : World) (hb : b < W256) (hT : T < D16 ^ 17) (hbT : b ≤ T) :
    Calls Try.prog 52 #[num17 T, num16 b] w fun e w' => e = .returned (num17 (T - b)) ∧ Hp w [] w' := by
  refine enter (args := [_, _]) (Γ := [(0, _), (1, _)]) Try.func52 Try.ntmps52 rfl (of_decide_eq_true rfl) (.cons rfl (.cons rfl .nil)) ?_
  repeat' (first | (apply Wl.boxN; exact rfl; exact rfl; intro c hc ho) | (apply Wl.allocN; exact rfl; (first | exact z8 | exact z16 | exact z17 | exact z33 | exact z10); intro c hc ho) | (apply Wl.assign; exact rfl; exact rfl) | (apply Wl.nil) | (apply St.seq) | (apply St.block) | (apply St.region) | (apply Gt.next) | (apply Wl.splitP; exact rfl; exact rfl; all_goals (intros; try (exfalso; omega))) | (apply Wl.splitB; exact rfl; exact rfl; all_goals intros) | (apply St.condP; exact rfl; all_goals (intros; try (exfalso; omega))) | (apply St.condB; exact rfl; all_goals intros))
  rename_i ca hca hoa cb hcb hob
  generalize c = cr at *
  refine St.loop (σ := Nat × Nat) (fun τ => τ.1 ≤ 17 ∧ τ.2 ≤ 1 ∧ hi D16 (T - b) τ.1 + hi D16 b τ.1 + τ.2 = hi D16 T τ.1)
    (fun τ => [(2, mp ca), (3, mp cb), (4, mp cr), (5, .int .u64 τ.2), (6, .int .i64 τ.1)])
    (fun τ => Hp w [⟨cr, cellsN .u64 17 fun _ => 0, 86⟩, ⟨cb, cellsN .u64 16 (dg D16 b), 32⟩, ⟨ca, cellsN .u64 17 (fillN (dg D16 T) (dg D16 (T - b)) τ.1), 86⟩])
    (fun τ => 17 - τ.1) (0, 0) ⟨by simp, by simp, by simp only [hi_zero]; omega⟩ (by (repeat (first | exact Sub.nil | apply Sub.cons rfl))) (fun _ h => by simpa only [fillN_zero] using h) ?_
  rintro ⟨i, c⟩ ⟨hi17, hc1, hic⟩
  simp only at hi17 hc1 hic ⊢
  have hf : fillN (dg D16 T) (dg D16 (T - b)) i i = dg D16 T i := fillN_at (Nat.le_refl _)
  have hA := dlt16 T i
  have hB := dlt16 b i
  obtain ⟨p0, p1, p2, p3⟩ := take16 hc1 hic
  have hnext : (1 + 18446744073709551616 - (dg D16 T i + 65536 - dg D16 b i - c) / 65536) % 18446744073709551616 = 1 - (dg D16 T i + 65536 - dg D16 b i - c) / 65536 := by omega
  have hx : ((dg D16 T i + 65536 + 18446744073709551616 - dg D16 b i) % 18446744073709551616 + 18446744073709551616 - c) % 18446744073709551616 = dg D16 T i + 65536 - dg D16 b i - c := by omega
  by_cases hlt : i < 17
  · have hF := hA
    rw [← hf] at hF
    by_cases h16 : i < 16
    · repeat' (first | (apply Wl.indexA; exact rfl; exact rfl; exact rfl; (omega)) | (apply Wl.loadN; exact rfl; exact rfl; (repeat (first | exact List.Mem.head _ | apply List.Mem.tail)); (omega)) | (apply Wl.storeN; exact rfl; exact rfl; (repeat (first | apply HSet.here | apply HSet.there)); (omega)) | (apply Wl.addNU (n := 65536); exact rfl; exact rfl; exact rfl; (omega)) | (apply Wl.subNU; exact rfl; exact rfl; exact rfl; (omega)) | (apply Wl.quoN (n := 65536); exact rfl; exact rfl; exact rfl; (decide); (first | exact IntWalk.u64_in _ (by omega) | exact IntWalk.i64_in _ (by omega))) | (apply Wl.remN (n := 65536); exact rfl; exact rfl; exact rfl; (decide)) | (apply Wl.move; exact rfl; exact rfl) | (apply Wl.assign; exact rfl; exact rfl) | (apply Wl.lss; exact rfl; exact rfl; exact rfl) | (apply Wl.addI; exact rfl; exact rfl; exact rfl; (constructor <;> omega)) | (apply Wl.nil) | (apply St.seq) | (apply St.block) | (apply St.region) | (apply St.skip) | (apply Gt.next) | (apply Gt.inNormal) | (apply Wl.splitP; exact rfl; exact rfl; all_goals (intros; try (exfalso; omega))) | (apply Wl.splitB; exact rfl; exact rfl; all_goals intros) | (apply St.condP; exact rfl; all_goals (intros; try (exfalso; omega))) | (apply St.condB; exact rfl; all_goals intros))
      rw [hf, hx, p1, hnext]
      apply Gt.round (i + 1, 1 - (dg D16 T i + 65536 - dg D16 b i - c) / 65536)
      rotate_left
      · simp only; omega
      · (repeat (first | exact Sub.nil | apply Sub.cons rfl))
      · exact fun _ h => by rw [fillN_step] at h; exact h
      · exact ⟨by simp only; omega, by simp only; omega, p3⟩
    · have hie : i = 16 := by omega
      have hb0 : dg D16 b i = 0 := by rw [hie]; unfold dg; rw [hi16_lt hb]; rfl
      rw [hb0] at hx p1 p2 p3 hnext
      rw [Nat.sub_zero] at p1 p2 p3 hnext
      have hx' : ((dg D16 T i + 65536 + 18446744073709551616 - 0) % 18446744073709551616 + 18446744073709551616 - c) % 18446744073709551616 = dg D16 T i + 65536 - c := hx
      repeat' (first | (apply Wl.indexA; exact rfl; exact rfl; exact rfl; (omega)) | (apply Wl.loadN; exact rfl; exact rfl; (repeat (first | exact List.Mem.head _ | apply List.Mem.tail)); (omega)) | (apply Wl.storeN; exact rfl; exact rfl; (repeat (first | apply HSet.here | apply HSet.there)); (omega)) | (apply Wl.addNU (n := 65536); exact rfl; exact rfl; exact rfl; (omega)) | (apply Wl.subNU; exact rfl; exact rfl; exact rfl; (omega)) | (apply Wl.subNU (n := 0); exact rfl; exact rfl; exact rfl; (omega)) | (apply Wl.quoN (n := 65536); exact rfl; exact rfl; exact rfl; (decide); (first | exact IntWalk.u64_in _ (by omega) | exact IntWalk.i64_in _ (by omega))) | (apply Wl.remN (n := 65536); exact rfl; exact rfl; exact rfl; (decide)) | (apply Wl.move; exact rfl; exact rfl) | (apply Wl.assign; exact rfl; exact rfl) | (apply Wl.lss; exact rfl; exact rfl; exact rfl) | (apply Wl.addI; exact rfl; exact rfl; exact rfl; (constructor <;> omega)) | (apply Wl.nil) | (apply St.seq) | (apply St.block) | (apply St.region) | (apply St.skip) | (apply Gt.next) | (apply Gt.inNormal) | (apply Wl.splitP; exact rfl; exact rfl; all_goals (intros; try (exfalso; omega))) | (apply Wl.splitB; exact rfl; exact rfl; all_goals intros) | (apply St.condP; exact rfl; all_goals (intros; try (exfalso; omega))) | (apply St.condB; exact rfl; all_goals intros))
      rw [hf, hx', p1, hnext]
      apply Gt.round (i + 1, 1 - (dg D16 T i + 65536 - c) / 65536)
      rotate_left
      · simp only; omega
      · (repeat (first | exact Sub.nil | apply Sub.cons rfl))
      · exact fun _ h => by rw [fillN_step] at h; exact h
      · exact ⟨by simp only; omega, by simp only; omega, p3⟩
  · have hie : i = 17 := by omega
    subst hie
    repeat' (first | (apply Gt.outN; exact rfl; infer_instance; exact rfl; (repeat (first | exact List.Mem.head _ | apply List.Mem.tail)); exact rfl; intro w' hp) | (apply Wl.loadW; exact rfl; exact rfl; (repeat (first | exact List.Mem.head _ | apply List.Mem.tail)); exact rfl) | (apply Wl.storeW; exact rfl; exact rfl; (repeat (first | apply HSet.here | apply HSet.there)); exact rfl; (first | exact cellsN_len _ _ _ | exact rfl)) | (apply Wl.move; exact rfl; exact rfl) | (apply Wl.lss; exact rfl; exact rfl; exact rfl) | (apply Wl.nil) | (apply St.seq) | (apply St.region) | (apply St.condF; exact rfl; (first | with_reducible rfl | with_reducible assumption | decide)) | (apply St.ret) | (apply St.exit) | (apply Gt.next) | (apply Gt.thenExit) | (apply Gt.inExit) | (apply Wl.splitP; exact rfl; exact rfl; all_goals (intros; try (exfalso; omega))) | (apply Wl.splitB; exact rfl; exact rfl; all_goals intros) | (apply St.condP; exact rfl; all_goals (intros; try (exfalso; omega))) | (apply St.condB; exact rfl; all_goals intros))
    exact ⟨by rw [fillN_end], hp.drop (by simp; omega)⟩
set_option maxHeartbeats 1000000 in
theorem refTwice (a m bit : Nat) (w : World) (hm : m < W256) (ha : a < m) (hbit : bit ≤ 1) :
    Calls Try.prog 50 #[num16 a, num16 m, .int .u64 bit] w fun e w' => e = .returned (num16 ((2 * a + bit) % m)) ∧ Hp w [] w' := by
  refine enter (args := [_, _, _]) (Γ := [(0, _), (1, _), (2, _)]) Try.func50 Try.ntmps50 rfl (of_decide_eq_true rfl) (.cons rfl (.cons rfl (.cons rfl .nil))) ?_
  have hT2 : 2 * a + bit < 2 * m := by omega
  have hT : 2 * a + bit < D16 ^ 17 := Nat.lt_of_lt_of_le hT2 (Nat.le_trans (Nat.mul_le_mul_left 2 (Nat.le_of_lt hm)) (by decide))
  have hon := once hT2
  repeat' (first | (apply Wl.boxN; exact rfl; exact rfl; intro c hc ho) | (apply Wl.allocN; exact rfl; (first | exact z8 | exact z16 | exact z17 | exact z33 | exact z10); intro c hc ho) | (apply Wl.move; exact rfl; exact rfl) | (apply Wl.assign; exact rfl; exact rfl) | (apply Wl.nil) | (apply St.seq) | (apply St.block) | (apply St.region) | (apply Gt.next) | (apply Wl.splitP; exact rfl; exact rfl; all_goals (intros; try (exfalso; omega))) | (apply Wl.splitB; exact rfl; exact rfl; all_goals intros) | (apply St.condP; exact rfl; all_goals (intros; try (exfalso; omega))) | (apply St.condB; exact rfl; all_goals intros))
  rename_i ca hca hoa cb hcb hob cr hcr hor
  generalize c = ct at *
  refine St.loop (σ := Nat × Nat) (fun τ => τ.1 ≤ 16 ∧ τ.2 ≤ 1 ∧ hi D16 (2 * a + bit) τ.1 = 2 * hi D16 a τ.1 + τ.2)
    (fun τ => [(3, mp ca), (4, mp cb), (6, mp cr), (7, mp ct), (8, .int .u64 τ.2), (9, .int .i64 τ.1)])
    (fun τ => Hp w [⟨ct, cellsN .u64 17 (fillN (fun _ => 0) (dg D16 (2 * a + bit)) τ.1), 86⟩, ⟨cr, cellsN .u64 16 fun _ => 0, 32⟩, ⟨cb, cellsN .u64 16 (dg D16 m), 32⟩, ⟨ca, cellsN .u64 16 (dg D16 a), 32⟩])
    (fun τ => 16 - τ.1) (0, bit) ⟨by simp, hbit, by simp only [hi_zero]⟩ (by (repeat (first | exact Sub.nil | apply Sub.cons rfl))) (fun _ h => by simpa only [fillN_zero] using h) ?_
  rintro ⟨i, c⟩ ⟨hi16, hc1, hic⟩
  simp only at hi16 hc1 hic ⊢
  have hA := dlt16 a i
  by_cases hlt : i < 16
  · obtain ⟨p1, p2⟩ := twice16 hic
    repeat' (first | (apply Wl.indexA; exact rfl; exact rfl; exact rfl; (omega)) | (apply Wl.loadN; exact rfl; exact rfl; (repeat (first | exact List.Mem.head _ | apply List.Mem.tail)); (omega)) | (apply Wl.storeN; exact rfl; exact rfl; (repeat (first | apply HSet.here | apply HSet.there)); (omega)) | (apply Wl.addNU; exact rfl; exact rfl; exact rfl; (first | assumption | omega)) | (apply Wl.mulNU (m := 2); exact rfl; exact rfl; exact rfl; (omega)) | (apply Wl.quoN (n := 65536); exact rfl; exact rfl; exact rfl; (decide); (first | exact IntWalk.u64_in _ (by omega) | exact IntWalk.i64_in _ (by omega))) | (apply Wl.remN (n := 65536); exact rfl; exact rfl; exact rfl; (decide)) | (apply Wl.move; exact rfl; exact rfl) | (apply Wl.assign; exact rfl; exact rfl) | (apply Wl.lss; exact rfl; exact rfl; exact rfl) | (apply Wl.addI; exact rfl; exact rfl; exact rfl; (constructor <;> omega)) | (apply Wl.nil) | (apply St.seq) | (apply St.block) | (apply St.region) | (apply St.skip) | (apply Gt.next) | (apply Gt.inNormal) | (apply Wl.splitP; exact rfl; exact rfl; all_goals (intros; try (exfalso; omega))) | (apply Wl.splitB; exact rfl; exact rfl; all_goals intros) | (apply St.condP; exact rfl; all_goals (intros; try (exfalso; omega))) | (apply St.condB; exact rfl; all_goals intros))
    rw [p1]
    apply Gt.round (i + 1, (2 * dg D16 a i + c) / 65536)
    rotate_left
    · simp only; omega
    · (repeat (first | exact Sub.nil | apply Sub.cons rfl))
    · exact fun _ h => by rw [fillN_step] at h; exact h
    · exact ⟨by simp only; omega, by simp only; omega, p2⟩
  · have hie : i = 16 := by omega
    subst hie
    have hc : c = dg D16 (2 * a + bit) 16 := by
      rw [hi16_lt (show a < W256 by omega), Nat.mul_zero, Nat.zero_add] at hic
      unfold dg
      rw [hic, Nat.mod_eq_of_lt (by unfold D16; omega)]
    repeat' (first | (apply Wl.indexA (j := 16); exact rfl; exact rfl; exact rfl; (decide)) | (apply Wl.storeN; exact rfl; exact rfl; (repeat (first | apply HSet.here | apply HSet.there)); (omega)) | (apply Wl.loadW; exact rfl; exact rfl; (repeat (first | exact List.Mem.head _ | apply List.Mem.tail)); exact rfl) | (apply Wl.move; exact rfl; exact rfl) | (apply Wl.lss; exact rfl; exact rfl; exact rfl) | (apply Wl.nil) | (apply St.seq) | (apply St.region) | (apply St.condF; exact rfl; (first | with_reducible rfl | with_reducible assumption | decide)) | (apply St.exit) | (apply Gt.next) | (apply Gt.thenExit) | (apply Gt.inExit) | (apply Wl.splitP; exact rfl; exact rfl; all_goals (intros; try (exfalso; omega))) | (apply Wl.splitB; exact rfl; exact rfl; all_goals intros) | (apply St.condP; exact rfl; all_goals (intros; try (exfalso; omega))) | (apply St.condB; exact rfl; all_goals intros))
    subst hc
    rw [fillN_step, fillN_end]
    apply Wl.callQ
    exact rfl
    (repeat (first | exact Evs.nil | apply Evs.cons rfl))
    · intro wq hq
      refine (refLess (2 * a + bit) m wq hm hT).mono ?_
      rintro e wr ⟨rfl, hr⟩
      exact ⟨rfl, hq.keep hr⟩
    by_cases hTm : 2 * a + bit < m
    · have ht : decide (2 * a + bit < m) = true := by simp [hTm]
      rw [ht]
      repeat' (first | (apply Wl.sliceArrF (h' := 16); exact rfl; exact rfl; exact rfl; (decide); (decide)) | (apply Wl.sliceToArr; exact rfl; exact rfl; (decide)) | (apply Wl.loadT; exact rfl; exact rfl; (repeat (first | exact List.Mem.head _ | apply List.Mem.tail)); (decide)) | (apply Gt.outN; exact rfl; infer_instance; exact rfl; (repeat (first | exact List.Mem.head _ | apply List.Mem.tail)); exact rfl; intro w' hp) | (apply Wl.storeW; exact rfl; exact rfl; (repeat (first | apply HSet.here | apply HSet.there)); exact rfl; (first | exact cellsN_len _ _ _ | exact rfl)) | (apply Wl.not; exact rfl; exact rfl) | (apply Wl.nil) | (apply St.seq) | (apply St.region) | (apply St.condF; exact rfl; (first | with_reducible rfl | with_reducible assumption | decide)) | (apply St.ret) | (apply St.skip) | (apply Gt.next) | (apply Wl.splitP; exact rfl; exact rfl; all_goals (intros; try (exfalso; omega))) | (apply Wl.splitB; exact rfl; exact rfl; all_goals intros) | (apply St.condP; exact rfl; all_goals (intros; try (exfalso; omega))) | (apply St.condB; exact rfl; all_goals intros))
      refine ⟨?_, hp.drop (by simp; omega)⟩
      rw [hon, if_neg (by omega)]
    · have ht : decide (2 * a + bit < m) = false := by simp [hTm]
      rw [ht]
      repeat' (first | (apply Wl.loadW; exact rfl; exact rfl; (repeat (first | exact List.Mem.head _ | apply List.Mem.tail)); exact rfl) | (apply Wl.not; exact rfl; exact rfl) | (apply Wl.nil) | (apply St.region) | (apply St.condT; exact rfl; (first | with_reducible rfl | with_reducible assumption | decide)) | (apply Gt.next) | (apply Wl.splitP; exact rfl; exact rfl; all_goals (intros; try (exfalso; omega))) | (apply Wl.splitB; exact rfl; exact rfl; all_goals intros) | (apply St.condP; exact rfl; all_goals (intros; try (exfalso; omega))) | (apply St.condB; exact rfl; all_goals intros))
      apply Wl.callQ
      exact rfl
      (repeat (first | exact Evs.nil | apply Evs.cons rfl))
      · intro wq hq
        refine (refTake (2 * a + bit) m wq hm hT (by omega)).mono ?_
        rintro e wr ⟨rfl, hr⟩
        exact ⟨rfl, hq.keep hr⟩
      repeat' (first | (apply Wl.sliceArrF (h' := 16); exact rfl; exact rfl; exact rfl; (decide); (decide)) | (apply Wl.sliceToArr; exact rfl; exact rfl; (decide)) | (apply Wl.loadT; exact rfl; exact rfl; (repeat (first | exact List.Mem.head _ | apply List.Mem.tail)); (decide)) | (apply Gt.outN; exact rfl; infer_instance; exact rfl; (repeat (first | exact List.Mem.head _ | apply List.Mem.tail)); exact rfl; intro w' hp) | (apply Wl.storeW; exact rfl; exact rfl; (repeat (first | apply HSet.here | apply HSet.there)); exact rfl; (first | exact cellsN_len _ _ _ | exact rfl)) | (apply Wl.nil) | (apply St.seq) | (apply St.region) | (apply St.ret) | (apply Gt.next) | (apply Wl.splitP; exact rfl; exact rfl; all_goals (intros; try (exfalso; omega))) | (apply Wl.splitB; exact rfl; exact rfl; all_goals intros) | (apply St.condP; exact rfl; all_goals (intros; try (exfalso; omega))) | (apply St.condB; exact rfl; all_goals intros))
      refine ⟨?_, hp.drop (by simp; omega)⟩
      rw [hon, if_pos (by omega)]
end Go.Proofs.Ytfaobdakpbpkbaa
