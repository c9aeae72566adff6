/-
  porticoref03: Sub, Half, Over. Conditions: numbers are below 2^256, and below the modulus where the document says so.
-/
import Derived.Test.YthmechgccfjmdaaRef3c
namespace Go.Pt
theorem own_sub {w : World} {H H' : List Blk} (hs : H'.Sublist H) (h : Own w H) : Own w H' := by
  induction hs with
  | slnil => exact h
  | cons a _ ih => exact ih h.2
  | cons_cons a _ ih => exact ⟨h.1, ih h.2⟩
theorem off_sub {H H' : List Blk} {k : Nat} (hs : H'.Sublist H) (h : Off H k) : Off H' k := by
  induction hs with
  | slnil => exact h
  | cons a _ ih => exact ih h.2
  | cons_cons a _ ih => exact ⟨h.1, ih h.2⟩
theorem apart_sub {H H' : List Blk} (hs : H'.Sublist H) (h : Apart H) : Apart H' := by
  induction hs with
  | slnil => exact h
  | cons a _ ih => exact ih h.2
  | cons_cons a hs ih => exact ⟨off_sub hs h.1, ih h.2⟩
theorem hpSub {w0 w : World} {H H' : List Blk} (h : Hp w0 H w) (hs : H'.Sublist H) (hH : ∀ y ∈ H, w0.heap.size ≤ y.b) : Hp w0 H' w :=
  ⟨h.upd.mono fun k hk hn _ => hn (Off.of fun y hy e => by have := hH y hy; omega), own_sub hs h.own, apart_sub hs h.apart⟩
end Go.Pt
namespace Go.Proofs.Ythmechgccfjmdaa
open Go.RowKit Go.Pt
set_option maxHeartbeats 2000000 in
theorem refSub (a b m : Nat) (w : World) (hm : m < W256) (ha : a < m) (hb : b < m) :
    Calls Try.prog 33 #[num16 a, num16 b, num16 m] w fun e w' => e = .returned (num16 ((a + m - b) % m)) ∧ Hp w [] w' := by
  refine enter (args := [_, _, _]) (Γ := [(0, _), (1, _), (2, _)]) Try.func33 Try.ntmps33 rfl (of_decide_eq_true rfl) (.cons rfl (.cons rfl (.cons rfl .nil))) ?_
  have hm17 : m < D16 ^ 17 := Nat.lt_of_lt_of_le hm (by decide)
  have hd16 : dg D16 m 16 = 0 := by unfold dg; rw [hi16_lt hm]; rfl
  repeat' (first | (apply Wl.boxN; exact rfl; exact rfl; intro c hc ho) | (apply Wl.allocN; exact rfl; (first | exact z8 | exact z16 | exact z17 | exact z33 | exact z10); intro c hc ho) | (apply Wl.assign; exact rfl; exact rfl) | (apply Wl.nil) | (apply St.seq) | (apply St.block) | (apply St.region) | (apply Gt.next) | (apply Wl.splitP; exact rfl; exact rfl; all_goals (intros; try (exfalso; omega))) | (apply Wl.splitB; exact rfl; exact rfl; all_goals intros) | (apply St.condP; exact rfl; all_goals (intros; try (exfalso; omega))) | (apply St.condB; exact rfl; all_goals intros))
  rename_i ca hca hoa cb hcb hob cm hcm hom cr hcr hor
  generalize c = ct at *
  refine St.loop (σ := Nat) (fun i => i ≤ 16)
    (fun i => [(3, mp ca), (4, mp cb), (5, mp cm), (6, mp cr), (7, mp ct), (8, .int .i64 i)])
    (fun i => Hp w [⟨ct, cellsN .u64 17 (fillN (fun _ => 0) (dg D16 m) i), 79⟩, ⟨cr, cellsN .u64 16 fun _ => 0, 32⟩, ⟨cm, cellsN .u64 16 (dg D16 m), 32⟩, ⟨cb, cellsN .u64 16 (dg D16 b), 32⟩, ⟨ca, cellsN .u64 16 (dg D16 a), 32⟩])
    (fun i => 16 - i) 0 (by simp) (by (repeat (first | exact Sub.nil | apply Sub.cons rfl))) (fun _ h => by simpa only [fillN_zero] using h) ?_
  intro i hi16
  by_cases hlt : i < 16
  · repeat' (first | (apply Wl.indexA; exact rfl; exact rfl; exact rfl; (omega)) | (apply Wl.loadN; exact rfl; exact rfl; (repeat (first | exact List.Mem.head _ | apply List.Mem.tail)); (omega)) | (apply Wl.storeN; exact rfl; exact rfl; (repeat (first | apply HSet.here | apply HSet.there)); (omega)) | (apply Wl.move; exact rfl; exact rfl) | (apply Wl.assign; exact rfl; exact rfl) | (apply Wl.lss; exact rfl; exact rfl; exact rfl) | (apply Wl.addI; exact rfl; exact rfl; exact rfl; (constructor <;> omega)) | (apply Wl.nil) | (apply St.seq) | (apply St.block) | (apply St.region) | (apply St.skip) | (apply Gt.next) | (apply Gt.inNormal) | (apply Wl.splitP; exact rfl; exact rfl; all_goals (intros; try (exfalso; omega))) | (apply Wl.splitB; exact rfl; exact rfl; all_goals intros) | (apply St.condP; exact rfl; all_goals (intros; try (exfalso; omega))) | (apply St.condB; exact rfl; all_goals intros))
    apply Gt.round (i + 1)
    rotate_left
    · omega
    · (repeat (first | exact Sub.nil | apply Sub.cons rfl))
    · exact fun _ h => by rw [fillN_step] at h; exact h
    · omega
  · have hie : i = 16 := by omega
    subst hie
    have ec : cellsN .u64 17 (fillN (fun _ => 0) (dg D16 m) 16) = cellsN .u64 17 (dg D16 m) := cellsN_congr fun j hj => by
      unfold fillN
      split
      · rfl
      · have : j = 16 := by omega
        rw [this, hd16]
    rw [ec]
    repeat' (first | (apply Wl.loadW; exact rfl; exact rfl; (repeat (first | exact List.Mem.head _ | apply List.Mem.tail)); exact rfl) | (apply Wl.move; exact rfl; exact rfl) | (apply Wl.lss; exact rfl; exact rfl; exact rfl) | (apply Wl.nil) | (apply St.seq) | (apply St.region) | (apply St.condF; exact rfl; (first | with_reducible rfl | with_reducible assumption | decide)) | (apply St.exit) | (apply Gt.next) | (apply Gt.thenExit) | (apply Gt.inExit) | (apply Wl.splitP; exact rfl; exact rfl; all_goals (intros; try (exfalso; omega))) | (apply Wl.splitB; exact rfl; exact rfl; all_goals intros) | (apply St.condP; exact rfl; all_goals (intros; try (exfalso; omega))) | (apply St.condB; exact rfl; all_goals intros))
    apply Wl.callQ
    exact rfl
    (repeat (first | exact Evs.nil | apply Evs.cons rfl))
    · intro wq hq
      refine (refTake m b wq (by omega) hm17 (by omega)).mono ?_
      rintro e wr ⟨rfl, hr⟩
      exact ⟨rfl, hq.keep hr⟩
    repeat' (first | (apply Wl.storeW; exact rfl; exact rfl; (repeat (first | apply HSet.here | apply HSet.there)); exact rfl; (first | exact cellsN_len _ _ _ | exact rfl)) | (apply Wl.allocN; exact rfl; (first | exact z8 | exact z16 | exact z17 | exact z33 | exact z10); intro c hc ho) | (apply Wl.nil) | (apply St.seq) | (apply Gt.next) | (apply Wl.splitP; exact rfl; exact rfl; all_goals (intros; try (exfalso; omega))) | (apply Wl.splitB; exact rfl; exact rfl; all_goals intros) | (apply St.condP; exact rfl; all_goals (intros; try (exfalso; omega))) | (apply St.condB; exact rfl; all_goals intros))
    generalize c = cn at *
    refine St.tree (Hp w [⟨cn, cellsN .u64 17 (dg D16 (m - b)), 79⟩, ⟨cm, cellsN .u64 16 (dg D16 m), 32⟩, ⟨ca, cellsN .u64 16 (dg D16 a), 32⟩]) mixed (fun _ h => ⟨Hp.drew h, hpSub (Hp.drew h) (.cons_cons _ (.cons _ (.cons _ (.cons_cons _ (.cons _ (.cons_cons _ .slnil)))))) (by simp; omega)⟩) ?_
    refine Mt.pure 0 (by decide +kernel) (by exact rfl) (by exact rfl) (by decide +kernel) (by decide +kernel) ?_
    repeat' (first | (apply Wl.loadT; exact rfl; exact rfl; (repeat (first | exact List.Mem.head _ | apply List.Mem.tail)); (decide)) | (apply Wl.nilM) | (apply Wl.splitP; exact rfl; exact rfl; all_goals (intros; try (exfalso; omega))) | (apply Wl.splitB; exact rfl; exact rfl; all_goals intros) | (apply St.condP; exact rfl; all_goals (intros; try (exfalso; omega))) | (apply St.condB; exact rfl; all_goals intros))
    apply Mt.back
    refine Mt.pure 1 (by decide +kernel) (by exact rfl) (by exact rfl) (by decide +kernel) (by decide +kernel) ?_
    repeat' (first | (apply Wl.sliceArrF (h' := 16); exact rfl; exact rfl; exact rfl; (decide); (decide)) | (apply Wl.nilM) | (apply Wl.splitP; exact rfl; exact rfl; all_goals (intros; try (exfalso; omega))) | (apply Wl.splitB; exact rfl; exact rfl; all_goals intros) | (apply St.condP; exact rfl; all_goals (intros; try (exfalso; omega))) | (apply St.condB; exact rfl; all_goals intros))
    apply Mt.back
    refine Mt.pure 2 (by decide +kernel) (by exact rfl) (by exact rfl) (by decide +kernel) (by decide +kernel) ?_
    repeat' (first | (apply Wl.sliceToArr; exact rfl; exact rfl; (decide)) | (apply Wl.nilM) | (apply Wl.splitP; exact rfl; exact rfl; all_goals (intros; try (exfalso; omega))) | (apply Wl.splitB; exact rfl; exact rfl; all_goals intros) | (apply St.condP; exact rfl; all_goals (intros; try (exfalso; omega))) | (apply St.condB; exact rfl; all_goals intros))
    apply Mt.back
    refine Mt.pure 3 (by decide +kernel) (by exact rfl) (by exact rfl) (by decide +kernel) (by decide +kernel) ?_
    repeat' (first | (apply Wl.loadT; exact rfl; exact rfl; (repeat (first | exact List.Mem.head _ | apply List.Mem.tail)); (decide)) | (apply Wl.nilM) | (apply Wl.splitP; exact rfl; exact rfl; all_goals (intros; try (exfalso; omega))) | (apply Wl.splitB; exact rfl; exact rfl; all_goals intros) | (apply St.condP; exact rfl; all_goals (intros; try (exfalso; omega))) | (apply St.condB; exact rfl; all_goals intros))
    apply Mt.back
    refine Mt.pure 4 (by decide +kernel) (by exact rfl) (by exact rfl) (by decide +kernel) (by decide +kernel) ?_
    repeat' (first | (apply Wl.loadT; exact rfl; exact rfl; (repeat (first | exact List.Mem.head _ | apply List.Mem.tail)); (decide)) | (apply Wl.nilM) | (apply Wl.splitP; exact rfl; exact rfl; all_goals (intros; try (exfalso; omega))) | (apply Wl.splitB; exact rfl; exact rfl; all_goals intros) | (apply St.condP; exact rfl; all_goals (intros; try (exfalso; omega))) | (apply St.condB; exact rfl; all_goals intros))
    apply Mt.back
    refine Mt.pure 6 (by decide +kernel) (by exact rfl) (by exact rfl) (by decide +kernel) (by decide +kernel) ?_
    repeat' (first | (apply Wl.loadT; exact rfl; exact rfl; (repeat (first | exact List.Mem.head _ | apply List.Mem.tail)); (decide)) | (apply Wl.nilM) | (apply Wl.splitP; exact rfl; exact rfl; all_goals (intros; try (exfalso; omega))) | (apply Wl.splitB; exact rfl; exact rfl; all_goals intros) | (apply St.condP; exact rfl; all_goals (intros; try (exfalso; omega))) | (apply St.condB; exact rfl; all_goals intros))
    apply Mt.back
    refine Mt.eff1 (i := 5) (by decide +kernel) (by exact rfl) ?_
    apply Wl.callQ
    exact rfl
    (repeat (first | exact Evs.nil | apply Evs.cons rfl))
    · intro wq hq
      refine (refReduce (m - b) m wq (by omega) hm (by omega)).mono ?_
      rintro e wr ⟨rfl, hr⟩
      exact ⟨rfl, hq.keep hr⟩
    repeat' (first | (apply Wl.nil) | (apply Wl.splitP; exact rfl; exact rfl; all_goals (intros; try (exfalso; omega))) | (apply Wl.splitB; exact rfl; exact rfl; all_goals intros) | (apply St.condP; exact rfl; all_goals (intros; try (exfalso; omega))) | (apply St.condB; exact rfl; all_goals intros))
    refine Mt.backE (fun _ h => hpSub h (.cons_cons _ (.cons _ (.cons _ (.cons_cons _ (.cons _ (.cons_cons _ .slnil)))))) (by simp; omega)) ?_
    refine Mt.eff1 (i := 7) (by decide +kernel) (by exact rfl) ?_
    apply Wl.callQ
    exact rfl
    (repeat (first | exact Evs.nil | apply Evs.cons rfl))
    · intro wq hq
      refine (refAdd a ((m - b) % m) m wq hm ha (Nat.mod_lt _ (by omega))).mono ?_
      rintro e wr ⟨rfl, hr⟩
      exact ⟨rfl, hq.keep hr⟩
    have e : (a + (m - b) % m) % m = (a + m - b) % m := by rw [Nat.add_mod_mod]; congr 1; omega
    rw [e]
    repeat' (first | (apply Wl.nil) | (apply Wl.splitP; exact rfl; exact rfl; all_goals (intros; try (exfalso; omega))) | (apply Wl.splitB; exact rfl; exact rfl; all_goals intros) | (apply St.condP; exact rfl; all_goals (intros; try (exfalso; omega))) | (apply St.condB; exact rfl; all_goals intros))
    refine Mt.backE (fun _ h => hpSub h (.cons_cons _ (.cons _ (.cons _ (.cons_cons _ (.cons _ (.cons_cons _ .slnil)))))) (by simp; omega)) ?_
    refine Mt.eff1 (i := 8) (by decide +kernel) (by exact rfl) ?_
    repeat' (first | (apply Wl.storeW; exact rfl; exact rfl; (repeat (first | apply HSet.here | apply HSet.there)); exact rfl; (first | exact cellsN_len _ _ _ | exact rfl)) | (apply Wl.nil) | (apply Wl.splitP; exact rfl; exact rfl; all_goals (intros; try (exfalso; omega))) | (apply Wl.splitB; exact rfl; exact rfl; all_goals intros) | (apply St.condP; exact rfl; all_goals (intros; try (exfalso; omega))) | (apply St.condB; exact rfl; all_goals intros))
    refine Mt.backE (fun _ h => hpSub h (.cons_cons _ (.cons _ (.cons _ (.cons_cons _ (.cons _ (.cons_cons _ .slnil)))))) (by simp; omega)) ?_
    refine Mt.toGt (by decide +kernel) ?_
    repeat' (first | (apply Gt.outN; exact rfl; infer_instance; exact rfl; (repeat (first | exact List.Mem.head _ | apply List.Mem.tail)); exact rfl; intro w' hp) | (apply St.ret) | (apply Gt.next) | (apply Wl.splitP; exact rfl; exact rfl; all_goals (intros; try (exfalso; omega))) | (apply Wl.splitB; exact rfl; exact rfl; all_goals intros) | (apply St.condP; exact rfl; all_goals (intros; try (exfalso; omega))) | (apply St.condB; exact rfl; all_goals intros))
    exact ⟨rfl, hp.drop (by simp; omega)⟩
set_option maxHeartbeats 2000000 in
theorem refHalf (a m : Nat) (w : World) (hm : m < W256) (hodd : m % 2 = 1) (ha : a < m) :
    Calls Try.prog 44 #[num16 a, num16 m] w fun e w' => e = .returned (num16 (a * half m % m)) ∧ Hp w [] w' := by
  refine enter (args := [_, _]) (Γ := [(0, _), (1, _)]) Try.func44 Try.ntmps44 rfl (of_decide_eq_true rfl) (.cons rfl (.cons rfl .nil)) ?_
  have hod : a % 2 ≤ 1 := by omega
  have hdm (j : Nat) : dg D16 (a % 2 * m) j = a % 2 * dg D16 m j := by
    rcases Nat.mod_two_eq_zero_or_one a with h | h <;> rw [h]
    · simp [dg, hi]
    · simp
  have hlt2 : a % 2 * m < W256 := Nat.lt_of_le_of_lt (Nat.mul_le_mul_right m hod) (by omega)
  have hpar : dg D16 a 0 % 2 = a % 2 := by unfold dg; rw [hi_zero]; show a % 65536 % 2 = a % 2; omega
  have hstep := half_step hodd ha
  generalize hM : a % 2 * m = M at *
  repeat' (first | (apply Wl.indexA (j := 0); exact rfl; exact rfl; exact rfl; (decide)) | (apply Wl.loadN; exact rfl; exact rfl; (repeat (first | exact List.Mem.head _ | apply List.Mem.tail)); (omega)) | (apply Wl.boxN; exact rfl; exact rfl; intro c hc ho) | (apply Wl.allocN; exact rfl; (first | exact z8 | exact z16 | exact z17 | exact z33 | exact z10); intro c hc ho) | (apply Wl.remN (n := 2); exact rfl; exact rfl; exact rfl; (decide)) | (apply Wl.assign; exact rfl; exact rfl) | (apply Wl.nil) | (apply St.seq) | (apply St.block) | (apply St.region) | (apply Gt.next) | (apply Wl.splitP; exact rfl; exact rfl; all_goals (intros; try (exfalso; omega))) | (apply Wl.splitB; exact rfl; exact rfl; all_goals intros) | (apply St.condP; exact rfl; all_goals (intros; try (exfalso; omega))) | (apply St.condB; exact rfl; all_goals intros))
  rename_i ca hca hoa cm hcm hom cr hcr hor
  generalize c = ct at *
  rw [hpar]
  refine St.loop (σ := Nat × Nat) (fun τ => τ.1 ≤ 16 ∧ τ.2 ≤ 1 ∧ hi D16 (a + M) τ.1 = hi D16 a τ.1 + hi D16 M τ.1 + τ.2)
    (fun τ => [(2, mp ca), (3, mp cm), (4, mp cr), (5, mp ct), (6, .int .u64 τ.2), (7, .int .u64 (a % 2 : Nat)), (8, .int .i64 τ.1)])
    (fun τ => Hp w [⟨ct, cellsN .u64 17 (fillN (fun _ => 0) (dg D16 (a + M)) τ.1), 79⟩, ⟨cr, cellsN .u64 16 fun _ => 0, 32⟩, ⟨cm, cellsN .u64 16 (dg D16 m), 32⟩, ⟨ca, cellsN .u64 16 (dg D16 a), 32⟩])
    (fun τ => 16 - τ.1) (0, 0) ⟨by simp, by simp, by simp [hi_zero]⟩ (by (repeat (first | exact Sub.nil | apply Sub.cons rfl))) (fun _ h => by simpa only [fillN_zero] using h) ?_
  rintro ⟨i, c⟩ ⟨hi16, hc1, hic⟩
  simp only at hi16 hc1 hic ⊢
  have hA := dlt16 a i
  have hB := dlt16 m i
  have hAM := dlt16 M i
  by_cases hlt : i < 16
  · obtain ⟨p1, p2⟩ := add16 hic
    rw [hdm] at p1 p2 hAM
    have hq : a % 2 * dg D16 m i < 18446744073709551616 := by omega
    repeat' (first | (apply Wl.indexA; exact rfl; exact rfl; exact rfl; (omega)) | (apply Wl.loadN; exact rfl; exact rfl; (repeat (first | exact List.Mem.head _ | apply List.Mem.tail)); (omega)) | (apply Wl.storeN; exact rfl; exact rfl; (repeat (first | apply HSet.here | apply HSet.there)); (omega)) | (apply Wl.addNU; exact rfl; exact rfl; exact rfl; (first | assumption | omega)) | (apply Wl.mulNU; exact rfl; exact rfl; exact rfl; (first | assumption | omega)) | (apply Wl.quoN (n := 65536); exact rfl; exact rfl; exact rfl; (decide); (first | exact IntWalk.u64_in _ (by omega) | exact IntWalk.i64_in _ (by omega))) | (apply Wl.remN (n := 65536); exact rfl; exact rfl; exact rfl; (decide)) | (apply Wl.move; exact rfl; exact rfl) | (apply Wl.assign; exact rfl; exact rfl) | (apply Wl.lss; exact rfl; exact rfl; exact rfl) | (apply Wl.addI; exact rfl; exact rfl; exact rfl; (constructor <;> omega)) | (apply Wl.nil) | (apply Wl.nilQ) | (apply St.seq) | (apply St.block) | (apply St.region) | (apply St.draw; exact mixed; (kernel_rfl); exact (fun _ h => Hp.drew h)) | (apply St.skip) | (apply Gt.next) | (apply Gt.inNormal) | (apply Wl.splitP; exact rfl; exact rfl; all_goals (intros; try (exfalso; omega))) | (apply Wl.splitB; exact rfl; exact rfl; all_goals intros) | (apply St.condP; exact rfl; all_goals (intros; try (exfalso; omega))) | (apply St.condB; exact rfl; all_goals intros))
    rw [p1]
    apply Gt.round (i + 1, (dg D16 a i + a % 2 * dg D16 m i + c) / 65536)
    rotate_left
    · simp only; omega
    · (repeat (first | exact Sub.nil | apply Sub.cons rfl))
    · exact fun _ h => by rw [fillN_step] at h; exact h
    · exact ⟨by simp only; omega, by simp only; omega, p2⟩
  · have hie : i = 16 := by omega
    subst hie
    have hcc : c = dg D16 (a + M) 16 := by
      rw [hi16_lt (show a < W256 by omega), hi16_lt hlt2, Nat.zero_add] at hic
      unfold dg
      rw [hic, Nat.mod_eq_of_lt (by unfold D16; omega)]
      try omega
    repeat' (first | (apply Wl.indexA (j := 16); exact rfl; exact rfl; exact rfl; (decide)) | (apply Wl.storeN; exact rfl; exact rfl; (repeat (first | apply HSet.here | apply HSet.there)); (omega)) | (apply Wl.allocN; exact rfl; (first | exact z8 | exact z16 | exact z17 | exact z33 | exact z10); intro c hc ho) | (apply Wl.move; exact rfl; exact rfl) | (apply Wl.assign; exact rfl; exact rfl) | (apply Wl.lss; exact rfl; exact rfl; exact rfl) | (apply Wl.nil) | (apply St.seq) | (apply St.block) | (apply St.region) | (apply St.condF; exact rfl; (first | with_reducible rfl | with_reducible assumption | decide)) | (apply St.exit) | (apply Gt.next) | (apply Gt.thenExit) | (apply Gt.inExit) | (apply Wl.splitP; exact rfl; exact rfl; all_goals (intros; try (exfalso; omega))) | (apply Wl.splitB; exact rfl; exact rfl; all_goals intros) | (apply St.condP; exact rfl; all_goals (intros; try (exfalso; omega))) | (apply St.condB; exact rfl; all_goals intros))
    subst hcc
    rw [fillN_step, fillN_end]
    generalize c = cx at *
    refine St.loop (σ := Nat) (fun i => i ≤ 16)
      (fun i => [(4, mp cr), (5, mp ct), (10, mp cx), (11, .int .i64 i)])
      (fun i => Hp w [⟨cx, cellsN .u64 16 (fillN (fun _ => 0) (dg D16 ((a + M) / 2)) i), 32⟩, ⟨ct, cellsN .u64 17 (dg D16 (a + M)), 79⟩, ⟨cr, cellsN .u64 16 fun _ => 0, 32⟩, ⟨cm, cellsN .u64 16 (dg D16 m), 32⟩, ⟨ca, cellsN .u64 16 (dg D16 a), 32⟩])
      (fun i => 16 - i) 0 (by simp) (by (repeat (first | exact Sub.nil | apply Sub.cons rfl))) (fun _ h => by simpa only [fillN_zero] using h) ?_
    intro i hi16
    by_cases hlt : i < 16
    · have h1 := dlt16 (a + M) i
      have h2 := dlt16 (a + M) (i + 1)
      repeat' (first | (apply Wl.move; exact rfl; exact rfl) | (apply Wl.lss; exact rfl; exact rfl; exact rfl) | (apply Wl.nil) | (apply St.seq) | (apply St.block) | (apply St.region) | (apply St.skip) | (apply Gt.next) | (apply Wl.splitP; exact rfl; exact rfl; all_goals (intros; try (exfalso; omega))) | (apply Wl.splitB; exact rfl; exact rfl; all_goals intros) | (apply St.condP; exact rfl; all_goals (intros; try (exfalso; omega))) | (apply St.condB; exact rfl; all_goals intros))
      refine St.tree (Hp w [_, _, _, _]) mixed (fun _ h => ⟨Hp.drew h, hpPop (Hp.drew h) (by simp only; omega)⟩) ?_
      refine Mt.pure 0 (by decide +kernel) (by exact rfl) (by exact rfl) (by decide +kernel) (by decide +kernel) ?_
      repeat' (first | (apply Wl.move; exact rfl; exact rfl) | (apply Wl.nilM) | (apply Wl.splitP; exact rfl; exact rfl; all_goals (intros; try (exfalso; omega))) | (apply Wl.splitB; exact rfl; exact rfl; all_goals intros) | (apply St.condP; exact rfl; all_goals (intros; try (exfalso; omega))) | (apply St.condB; exact rfl; all_goals intros))
      apply Mt.back
      refine Mt.pure 1 (by decide +kernel) (by exact rfl) (by exact rfl) (by decide +kernel) (by decide +kernel) ?_
      repeat' (first | (apply Wl.move; exact rfl; exact rfl) | (apply Wl.nilM) | (apply Wl.splitP; exact rfl; exact rfl; all_goals (intros; try (exfalso; omega))) | (apply Wl.splitB; exact rfl; exact rfl; all_goals intros) | (apply St.condP; exact rfl; all_goals (intros; try (exfalso; omega))) | (apply St.condB; exact rfl; all_goals intros))
      apply Mt.back
      refine Mt.pure 2 (by decide +kernel) (by exact rfl) (by exact rfl) (by decide +kernel) (by decide +kernel) ?_
      repeat' (first | (apply Wl.indexA; exact rfl; exact rfl; exact rfl; (omega)) | (apply Wl.nilM) | (apply Wl.splitP; exact rfl; exact rfl; all_goals (intros; try (exfalso; omega))) | (apply Wl.splitB; exact rfl; exact rfl; all_goals intros) | (apply St.condP; exact rfl; all_goals (intros; try (exfalso; omega))) | (apply St.condB; exact rfl; all_goals intros))
      apply Mt.back
      refine Mt.pure 3 (by decide +kernel) (by exact rfl) (by exact rfl) (by decide +kernel) (by decide +kernel) ?_
      repeat' (first | (apply Wl.loadN; exact rfl; exact rfl; (repeat (first | exact List.Mem.head _ | apply List.Mem.tail)); (omega)) | (apply Wl.nilM) | (apply Wl.splitP; exact rfl; exact rfl; all_goals (intros; try (exfalso; omega))) | (apply Wl.splitB; exact rfl; exact rfl; all_goals intros) | (apply St.condP; exact rfl; all_goals (intros; try (exfalso; omega))) | (apply St.condB; exact rfl; all_goals intros))
      apply Mt.back
      refine Mt.pure 4 (by decide +kernel) (by exact rfl) (by exact rfl) (by decide +kernel) (by decide +kernel) ?_
      repeat' (first | (apply Wl.quoN (n := 2); exact rfl; exact rfl; exact rfl; (decide); (first | exact IntWalk.u64_in _ (by omega) | exact IntWalk.i64_in _ (by omega))) | (apply Wl.nilM) | (apply Wl.splitP; exact rfl; exact rfl; all_goals (intros; try (exfalso; omega))) | (apply Wl.splitB; exact rfl; exact rfl; all_goals intros) | (apply St.condP; exact rfl; all_goals (intros; try (exfalso; omega))) | (apply St.condB; exact rfl; all_goals intros))
      apply Mt.back
      refine Mt.pure 5 (by decide +kernel) (by exact rfl) (by exact rfl) (by decide +kernel) (by decide +kernel) ?_
      repeat' (first | (apply Wl.move; exact rfl; exact rfl) | (apply Wl.nilM) | (apply Wl.splitP; exact rfl; exact rfl; all_goals (intros; try (exfalso; omega))) | (apply Wl.splitB; exact rfl; exact rfl; all_goals intros) | (apply St.condP; exact rfl; all_goals (intros; try (exfalso; omega))) | (apply St.condB; exact rfl; all_goals intros))
      apply Mt.back
      refine Mt.pure 6 (by decide +kernel) (by exact rfl) (by exact rfl) (by decide +kernel) (by decide +kernel) ?_
      repeat' (first | (apply Wl.addNI (n := 1); exact rfl; exact rfl; exact rfl; (omega)) | (apply Wl.nilM) | (apply Wl.splitP; exact rfl; exact rfl; all_goals (intros; try (exfalso; omega))) | (apply Wl.splitB; exact rfl; exact rfl; all_goals intros) | (apply St.condP; exact rfl; all_goals (intros; try (exfalso; omega))) | (apply St.condB; exact rfl; all_goals intros))
      apply Mt.back
      refine Mt.pure 7 (by decide +kernel) (by exact rfl) (by exact rfl) (by decide +kernel) (by decide +kernel) ?_
      repeat' (first | (apply Wl.indexA; exact rfl; exact rfl; exact rfl; (omega)) | (apply Wl.nilM) | (apply Wl.splitP; exact rfl; exact rfl; all_goals (intros; try (exfalso; omega))) | (apply Wl.splitB; exact rfl; exact rfl; all_goals intros) | (apply St.condP; exact rfl; all_goals (intros; try (exfalso; omega))) | (apply St.condB; exact rfl; all_goals intros))
      apply Mt.back
      refine Mt.pure 8 (by decide +kernel) (by exact rfl) (by exact rfl) (by decide +kernel) (by decide +kernel) ?_
      repeat' (first | (apply Wl.loadN; exact rfl; exact rfl; (repeat (first | exact List.Mem.head _ | apply List.Mem.tail)); (omega)) | (apply Wl.nilM) | (apply Wl.splitP; exact rfl; exact rfl; all_goals (intros; try (exfalso; omega))) | (apply Wl.splitB; exact rfl; exact rfl; all_goals intros) | (apply St.condP; exact rfl; all_goals (intros; try (exfalso; omega))) | (apply St.condB; exact rfl; all_goals intros))
      apply Mt.back
      refine Mt.pure 9 (by decide +kernel) (by exact rfl) (by exact rfl) (by decide +kernel) (by decide +kernel) ?_
      repeat' (first | (apply Wl.remN (n := 2); exact rfl; exact rfl; exact rfl; (decide)) | (apply Wl.nilM) | (apply Wl.splitP; exact rfl; exact rfl; all_goals (intros; try (exfalso; omega))) | (apply Wl.splitB; exact rfl; exact rfl; all_goals intros) | (apply St.condP; exact rfl; all_goals (intros; try (exfalso; omega))) | (apply St.condB; exact rfl; all_goals intros))
      apply Mt.back
      refine Mt.pure 10 (by decide +kernel) (by exact rfl) (by exact rfl) (by decide +kernel) (by decide +kernel) ?_
      repeat' (first | (apply Wl.mulNU (n := 32768); exact rfl; exact rfl; exact rfl; (omega)) | (apply Wl.nilM) | (apply Wl.splitP; exact rfl; exact rfl; all_goals (intros; try (exfalso; omega))) | (apply Wl.splitB; exact rfl; exact rfl; all_goals intros) | (apply St.condP; exact rfl; all_goals (intros; try (exfalso; omega))) | (apply St.condB; exact rfl; all_goals intros))
      apply Mt.back
      refine Mt.pure 11 (by decide +kernel) (by exact rfl) (by exact rfl) (by decide +kernel) (by decide +kernel) ?_
      repeat' (first | (apply Wl.addNU; exact rfl; exact rfl; exact rfl; (first | assumption | omega)) | (apply Wl.nilM) | (apply Wl.splitP; exact rfl; exact rfl; all_goals (intros; try (exfalso; omega))) | (apply Wl.splitB; exact rfl; exact rfl; all_goals intros) | (apply St.condP; exact rfl; all_goals (intros; try (exfalso; omega))) | (apply St.condB; exact rfl; all_goals intros))
      apply Mt.back
      refine Mt.pure 12 (by decide +kernel) (by exact rfl) (by exact rfl) (by decide +kernel) (by decide +kernel) ?_
      repeat' (first | (apply Wl.indexA; exact rfl; exact rfl; exact rfl; (omega)) | (apply Wl.nilM) | (apply Wl.splitP; exact rfl; exact rfl; all_goals (intros; try (exfalso; omega))) | (apply Wl.splitB; exact rfl; exact rfl; all_goals intros) | (apply St.condP; exact rfl; all_goals (intros; try (exfalso; omega))) | (apply St.condB; exact rfl; all_goals intros))
      apply Mt.back
      refine Mt.eff1 (i := 13) (by decide +kernel) (by exact rfl) ?_
      repeat' (first | (apply Wl.storeN; exact rfl; exact rfl; (repeat (first | apply HSet.here | apply HSet.there)); (omega)) | (apply Wl.nil) | (apply Wl.splitP; exact rfl; exact rfl; all_goals (intros; try (exfalso; omega))) | (apply Wl.splitB; exact rfl; exact rfl; all_goals intros) | (apply St.condP; exact rfl; all_goals (intros; try (exfalso; omega))) | (apply St.condB; exact rfl; all_goals intros))
      refine Mt.backE (fun _ h => by first | exact h | exact hpPop h (by simp only; omega)) ?_
      refine Mt.toGt (by decide +kernel) ?_
      rw [half16]
      repeat' (first | (apply Wl.move; exact rfl; exact rfl) | (apply Wl.assign; exact rfl; exact rfl) | (apply Wl.addI; exact rfl; exact rfl; exact rfl; (constructor <;> omega)) | (apply Wl.nil) | (apply St.region) | (apply Gt.next) | (apply Gt.inNormal) | (apply Wl.splitP; exact rfl; exact rfl; all_goals (intros; try (exfalso; omega))) | (apply Wl.splitB; exact rfl; exact rfl; all_goals intros) | (apply St.condP; exact rfl; all_goals (intros; try (exfalso; omega))) | (apply St.condB; exact rfl; all_goals intros))
      apply Gt.round (i + 1)
      rotate_left
      · omega
      · (repeat (first | exact Sub.nil | apply Sub.cons rfl))
      · exact fun _ h => by rw [fillN_step] at h; exact h
      · omega
    · have hie : i = 16 := by omega
      subst hie
      repeat' (first | (apply Gt.outN; exact rfl; infer_instance; exact rfl; (repeat (first | exact List.Mem.head _ | apply List.Mem.tail)); exact rfl; intro w' hp) | (apply Wl.loadW; exact rfl; exact rfl; (repeat (first | exact List.Mem.head _ | apply List.Mem.tail)); exact rfl) | (apply Wl.storeW; exact rfl; exact rfl; (repeat (first | apply HSet.here | apply HSet.there)); exact rfl; (first | exact cellsN_len _ _ _ | exact rfl)) | (apply Wl.move; exact rfl; exact rfl) | (apply Wl.lss; exact rfl; exact rfl; exact rfl) | (apply Wl.nil) | (apply St.seq) | (apply St.region) | (apply St.condF; exact rfl; (first | with_reducible rfl | with_reducible assumption | decide)) | (apply St.ret) | (apply St.exit) | (apply Gt.next) | (apply Gt.thenExit) | (apply Gt.inExit) | (apply Wl.splitP; exact rfl; exact rfl; all_goals (intros; try (exfalso; omega))) | (apply Wl.splitB; exact rfl; exact rfl; all_goals intros) | (apply St.condP; exact rfl; all_goals (intros; try (exfalso; omega))) | (apply St.condB; exact rfl; all_goals intros))
      exact ⟨by rw [fillN_end, hstep], hp.drop (by simp; omega)⟩
set_option maxHeartbeats 2000000 in
theorem refOver (a m : Nat) (w : World) (hm : m < W256) (hodd : m % 2 = 1) (ha : a < m) :
    Calls Try.prog 25 #[num16 a, num16 m] w fun e w' => e = .returned (num16 (a * rinv m % m)) ∧ Hp w [] w' := by
  refine enter (args := [_, _]) (Γ := [(0, _), (1, _)]) Try.func25 Try.ntmps25 rfl (of_decide_eq_true rfl) (.cons rfl (.cons rfl .nil)) ?_
  repeat' (first | (apply Wl.boxN; exact rfl; exact rfl; intro c hc ho) | (apply Wl.allocN; exact rfl; (first | exact z8 | exact z16 | exact z17 | exact z33 | exact z10); intro c hc ho) | (apply Wl.assign; exact rfl; exact rfl) | (apply Wl.nil) | (apply St.seq) | (apply St.block) | (apply St.region) | (apply Gt.next) | (apply Wl.splitP; exact rfl; exact rfl; all_goals (intros; try (exfalso; omega))) | (apply Wl.splitB; exact rfl; exact rfl; all_goals intros) | (apply St.condP; exact rfl; all_goals (intros; try (exfalso; omega))) | (apply St.condB; exact rfl; all_goals intros))
  rename_i ca hca hoa cm hcm hom
  generalize c = cr at *
  refine St.loop (σ := Nat) (fun i => i ≤ 256)
    (fun i => [(2, mp ca), (3, mp cm), (4, mp cr), (5, .int .i64 i)])
    (fun i => Hp w [⟨cr, cellsN .u64 16 fun _ => 0, 32⟩, ⟨cm, cellsN .u64 16 (dg D16 m), 32⟩, ⟨ca, cellsN .u64 16 (dg D16 (a * half m ^ i % m)), 32⟩])
    (fun i => 256 - i) 0 (by simp) (by (repeat (first | exact Sub.nil | apply Sub.cons rfl))) (fun _ h => by
      show Hp w [_, _, ⟨ca, cellsN .u64 16 (dg D16 (a * half m ^ 0 % m)), _⟩] _
      rw [Nat.pow_zero, Nat.mul_one, Nat.mod_eq_of_lt ha]; exact h) ?_
  intro i hi
  have hr : a * half m ^ i % m < m := Nat.mod_lt _ (by omega)
  have e2 : a * half m ^ i % m * half m % m = a * half m ^ (i + 1) % m := by rw [Nat.mod_mul_mod, Nat.pow_succ, Nat.mul_assoc]
  by_cases hlt : i < 256
  · repeat' (first | (apply Wl.loadW; exact rfl; exact rfl; (repeat (first | exact List.Mem.head _ | apply List.Mem.tail)); exact rfl) | (apply Wl.move; exact rfl; exact rfl) | (apply Wl.lss; exact rfl; exact rfl; exact rfl) | (apply Wl.nil) | (apply St.seq) | (apply St.block) | (apply St.region) | (apply St.skip) | (apply Gt.next) | (apply Wl.splitP; exact rfl; exact rfl; all_goals (intros; try (exfalso; omega))) | (apply Wl.splitB; exact rfl; exact rfl; all_goals intros) | (apply St.condP; exact rfl; all_goals (intros; try (exfalso; omega))) | (apply St.condB; exact rfl; all_goals intros))
    apply Wl.callQ
    exact rfl
    (repeat (first | exact Evs.nil | apply Evs.cons rfl))
    · intro wq hq
      refine (refHalf (a * half m ^ i % m) m wq hm hodd hr).mono ?_
      rintro e wr ⟨rfl, hr⟩
      exact ⟨rfl, hq.keep hr⟩
    rw [e2]
    repeat' (first | (apply Wl.storeW; exact rfl; exact rfl; (repeat (first | apply HSet.here | apply HSet.there)); exact rfl; (first | exact cellsN_len _ _ _ | exact rfl)) | (apply Wl.move; exact rfl; exact rfl) | (apply Wl.assign; exact rfl; exact rfl) | (apply Wl.addI; exact rfl; exact rfl; exact rfl; (constructor <;> omega)) | (apply Wl.nil) | (apply St.region) | (apply Gt.next) | (apply Gt.inNormal) | (apply Wl.splitP; exact rfl; exact rfl; all_goals (intros; try (exfalso; omega))) | (apply Wl.splitB; exact rfl; exact rfl; all_goals intros) | (apply St.condP; exact rfl; all_goals (intros; try (exfalso; omega))) | (apply St.condB; exact rfl; all_goals intros))
    apply Gt.round (i + 1)
    rotate_left
    · omega
    · (repeat (first | exact Sub.nil | apply Sub.cons rfl))
    · exact fun _ h => h
    · omega
  · have hie : i = 256 := by omega
    rw [hie] at *
    repeat' (first | (apply Gt.outN; exact rfl; infer_instance; exact rfl; (repeat (first | exact List.Mem.head _ | apply List.Mem.tail)); exact rfl; intro w' hp) | (apply Wl.loadW; exact rfl; exact rfl; (repeat (first | exact List.Mem.head _ | apply List.Mem.tail)); exact rfl) | (apply Wl.storeW; exact rfl; exact rfl; (repeat (first | apply HSet.here | apply HSet.there)); exact rfl; (first | exact cellsN_len _ _ _ | exact rfl)) | (apply Wl.move; exact rfl; exact rfl) | (apply Wl.lss; exact rfl; exact rfl; exact rfl) | (apply Wl.nil) | (apply St.seq) | (apply St.region) | (apply St.condF; exact rfl; (first | with_reducible rfl | with_reducible assumption | decide)) | (apply St.ret) | (apply St.exit) | (apply Gt.next) | (apply Gt.thenExit) | (apply Gt.inExit) | (apply Wl.splitP; exact rfl; exact rfl; all_goals (intros; try (exfalso; omega))) | (apply Wl.splitB; exact rfl; exact rfl; all_goals intros) | (apply St.condP; exact rfl; all_goals (intros; try (exfalso; omega))) | (apply St.condB; exact rfl; all_goals intros))
    exact ⟨rfl, hp.drop (by simp; omega)⟩
end Go.Proofs.Ythmechgccfjmdaa
