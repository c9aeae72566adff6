/-
  porticoref04: low, neg, Add, Sub. Conditions: numbers are below 2^256, and less than twice the modulus.
-/
import Derived.Test.YtfaobdakpbpkbaaRef4
import Derived.Test.YtfaobdakpbpkbaaFold
namespace Go.Proofs.Ytfaobdakpbpkbaa
open Go.RowKit Go.Pt
set_option maxHeartbeats 4000000 in
theorem refLow (a m : Nat) (w : World) (ha : a < W256) (hm : m < W256) (h2 : a < 2 * m) :
    Calls Try.prog 59 #[num16 a, num16 m] w fun e w' => e = .returned (num16 (a % m)) ∧ Hp w [] w' := by
  refine enter (args := [_, _]) (Γ := [(0, _), (1, _)]) Try.func59 Try.ntmps59 rfl (of_decide_eq_true rfl) (.cons rfl (.cons rfl .nil)) ?_
  apply St.seq
  repeat' (first | (apply Wl.boxN; exact rfl; exact rfl; intro c hc ho) | (apply Wl.allocN; exact rfl; (first | exact z8 | exact z16 | exact z17 | exact z33 | exact z10); intro c hc ho) | (apply Wl.nil) | (apply St.region) | (apply Gt.next) | (apply Wl.splitP; exact rfl; exact rfl; all_goals (intros; try (exfalso; omega))) | (apply Wl.splitB; exact rfl; exact rfl; all_goals intros) | (apply St.condP; exact rfl; all_goals (intros; try (exfalso; omega))) | (apply St.condB; exact rfl; all_goals intros))
  rename_i ca hca hoa cm hcm hom
  generalize c = cr at *
  refine St.cut (σ := Unit) (fun _ => m ≤ a) (fun _ => [(2, mp ca), (3, mp cm), (4, mp cr)])
    (fun _ => Hp w [⟨cr, cellsN .u64 16 fun _ => 0, 32⟩, ⟨cm, cellsN .u64 16 (dg D16 m), 32⟩, ⟨ca, cellsN .u64 16 (dg D16 a), 32⟩]) ?_ ?_
  · repeat' (first | (apply Wl.assign; exact rfl; exact rfl) | (apply Wl.nil) | (apply St.seq) | (apply St.block) | (apply St.region) | (apply Gt.next) | (apply Wl.splitP; exact rfl; exact rfl; all_goals (intros; try (exfalso; omega))) | (apply Wl.splitB; exact rfl; exact rfl; all_goals intros) | (apply St.condP; exact rfl; all_goals (intros; try (exfalso; omega))) | (apply St.condB; exact rfl; all_goals intros))
    refine St.loop (σ := Nat) (fun n => n ≤ 16 ∧ hi D16 a n = hi D16 m n)
      (fun n => [(2, mp ca), (3, mp cm), (4, mp cr), (5, .int .i64 ((n : Int) - 1))])
      (fun _ => Hp w [⟨cr, cellsN .u64 16 fun _ => 0, 32⟩, ⟨cm, cellsN .u64 16 (dg D16 m), 32⟩, ⟨ca, cellsN .u64 16 (dg D16 a), 32⟩])
      (fun n => n) 16 ⟨by simp, by rw [hi16_lt ha, hi16_lt hm]⟩ (by (repeat (first | exact Sub.nil | apply Sub.cons rfl))) (fun _ h => h) ?_
    rintro i ⟨hi16, hic⟩
    cases i with
    | zero =>
      rw [hi_zero, hi_zero] at hic
      repeat' (first | (apply Wl.move; exact rfl; exact rfl) | (apply Wl.geq; exact rfl; exact rfl; exact rfl) | (apply Wl.nil) | (apply St.seq) | (apply St.region) | (apply St.condF; exact rfl; (first | with_reducible rfl | with_reducible assumption | decide)) | (apply St.exit) | (apply Gt.next) | (apply Gt.thenExit) | (apply Gt.inExit) | (apply Wl.splitP; exact rfl; exact rfl; all_goals (intros; try (exfalso; omega))) | (apply Wl.splitB; exact rfl; exact rfl; all_goals intros) | (apply St.condP; exact rfl; all_goals (intros; try (exfalso; omega))) | (apply St.condB; exact rfl; all_goals intros))
      exact Gt.meet () (by omega) (by (repeat (first | exact Sub.nil | apply Sub.cons rfl))) fun _ h => h
    | succ i =>
      have e : (((i + 1 : Nat) : Int) - 1) = (i : Int) := by omega
      rw [e]
      have ea := hi_eq D16 a i
      have eb := hi_eq D16 m i
      rw [hic] at ea
      repeat' (first | (apply Gt.outN; exact rfl; infer_instance; exact rfl; (repeat (first | exact List.Mem.head _ | apply List.Mem.tail)); exact rfl; intro w' hp) | (apply Wl.indexA; exact rfl; exact rfl; exact rfl; (omega)) | (apply Wl.loadN; exact rfl; exact rfl; (repeat (first | exact List.Mem.head _ | apply List.Mem.tail)); (omega)) | (apply Wl.loadW; exact rfl; exact rfl; (repeat (first | exact List.Mem.head _ | apply List.Mem.tail)); exact rfl) | (apply Wl.storeW; exact rfl; exact rfl; (repeat (first | apply HSet.here | apply HSet.there)); exact rfl; (first | exact cellsN_len _ _ _ | exact rfl)) | (apply Wl.move; exact rfl; exact rfl) | (apply Wl.assign; exact rfl; exact rfl) | (apply Wl.lss; exact rfl; exact rfl; exact rfl) | (apply Wl.gtr; exact rfl; exact rfl; exact rfl) | (apply Wl.geq; exact rfl; exact rfl; exact rfl) | (apply Wl.subI; exact rfl; exact rfl; exact rfl; (constructor <;> omega)) | (apply Wl.nil) | (apply Wl.nilQ) | (apply St.seq) | (apply St.block) | (apply St.region) | (apply St.draw; exact mixed; (kernel_rfl); exact (fun _ h => Hp.drew h)) | (apply St.ret) | (apply St.skip) | (apply St.exit) | (apply Gt.next) | (apply Gt.thenRet) | (apply Gt.thenExit) | (apply Gt.inNormal) | (apply Gt.inRet) | (apply Gt.inExit) | (apply Gt.inOther; exact rfl) | (apply Wl.splitP; exact rfl; exact rfl; all_goals (intros; try (exfalso; omega))) | (apply Wl.splitB; exact rfl; exact rfl; all_goals intros) | (apply St.condP; exact rfl; all_goals (intros; try (exfalso; omega))) | (apply St.condB; exact rfl; all_goals intros))
      · refine ⟨?_, hp.drop (by simp; omega)⟩
        rw [Nat.mod_eq_of_lt (lt_of_hi (B := D16) (i := i) (by omega))]
      · exact Gt.meet () (Nat.le_of_lt (lt_of_hi (B := D16) (i := i) (by omega))) (by (repeat (first | exact Sub.nil | apply Sub.cons rfl))) fun _ h => h
      · apply Gt.round i
        rotate_left
        · simp
        · (repeat (first | exact Sub.nil | apply Sub.cons rfl))
        · exact fun _ h => h
        · exact ⟨by omega, by omega⟩
  · intro _ hle
    repeat' (first | (apply Wl.assign; exact rfl; exact rfl) | (apply Wl.nil) | (apply St.seq) | (apply St.block) | (apply St.region) | (apply Gt.next) | (apply Wl.splitP; exact rfl; exact rfl; all_goals (intros; try (exfalso; omega))) | (apply Wl.splitB; exact rfl; exact rfl; all_goals intros) | (apply St.condP; exact rfl; all_goals (intros; try (exfalso; omega))) | (apply St.condB; exact rfl; all_goals intros))
    refine St.loop (σ := Nat × Nat) (fun τ => τ.1 ≤ 16 ∧ τ.2 ≤ 1 ∧ hi D16 (a - m) τ.1 + hi D16 m τ.1 + τ.2 = hi D16 a τ.1)
      (fun τ => [(2, mp ca), (3, mp cm), (4, mp cr), (6, .int .u64 τ.2), (7, .int .i64 τ.1)])
      (fun τ => Hp w [⟨cr, cellsN .u64 16 fun _ => 0, 32⟩, ⟨cm, cellsN .u64 16 (dg D16 m), 32⟩, ⟨ca, cellsN .u64 16 (fillN (dg D16 a) (dg D16 (a - m)) τ.1), 32⟩])
      (fun τ => 16 - τ.1) (0, 0) ⟨by simp, by simp, by simp only [hi_zero]; omega⟩ (by (repeat (first | exact Sub.nil | apply Sub.cons rfl))) (fun _ h => by simpa only [fillN_zero] using h) ?_
    rintro ⟨i, c⟩ ⟨hi16, hc1, hic⟩
    simp only at hi16 hc1 hic ⊢
    have hf : fillN (dg D16 a) (dg D16 (a - m)) i i = dg D16 a i := fillN_at (Nat.le_refl _)
    have hA := dlt16 a i
    have hB := dlt16 m i
    obtain ⟨p0, p1, p2, p3⟩ := take16 hc1 hic
    have hnext : (1 + 18446744073709551616 - (dg D16 a i + 65536 - dg D16 m i - c) / 65536) % 18446744073709551616 = 1 - (dg D16 a i + 65536 - dg D16 m i - c) / 65536 := by omega
    have hx : ((dg D16 a i + 65536 + 18446744073709551616 - dg D16 m i) % 18446744073709551616 + 18446744073709551616 - c) % 18446744073709551616 = dg D16 a i + 65536 - dg D16 m i - c := by omega
    by_cases hlt : i < 16
    · have hF := hA
      rw [← hf] at hF
      repeat' (first | (apply Wl.indexA; exact rfl; exact rfl; exact rfl; (omega)) | (apply Wl.loadN; exact rfl; exact rfl; (repeat (first | exact List.Mem.head _ | apply List.Mem.tail)); (omega)) | (apply Wl.storeN; exact rfl; exact rfl; (repeat (first | apply HSet.here | apply HSet.there)); (omega)) | (apply Wl.addNU (n := 65536); exact rfl; exact rfl; exact rfl; (omega)) | (apply Wl.subNU; exact rfl; exact rfl; exact rfl; (omega)) | (apply Wl.quoN (n := 65536); exact rfl; exact rfl; exact rfl; (decide); (first | exact IntWalk.u64_in _ (by omega) | exact IntWalk.i64_in _ (by omega))) | (apply Wl.remN (n := 65536); exact rfl; exact rfl; exact rfl; (decide)) | (apply Wl.move; exact rfl; exact rfl) | (apply Wl.assign; exact rfl; exact rfl) | (apply Wl.lss; exact rfl; exact rfl; exact rfl) | (apply Wl.addI; exact rfl; exact rfl; exact rfl; (constructor <;> omega)) | (apply Wl.nil) | (apply Wl.nilQ) | (apply St.seq) | (apply St.block) | (apply St.region) | (apply St.draw; exact mixed; (kernel_rfl); exact (fun _ h => Hp.drew h)) | (apply St.skip) | (apply Gt.next) | (apply Gt.inNormal) | (apply Wl.splitP; exact rfl; exact rfl; all_goals (intros; try (exfalso; omega))) | (apply Wl.splitB; exact rfl; exact rfl; all_goals intros) | (apply St.condP; exact rfl; all_goals (intros; try (exfalso; omega))) | (apply St.condB; exact rfl; all_goals intros))
      rw [hf, hx, p1, hnext]
      apply Gt.round (i + 1, 1 - (dg D16 a i + 65536 - dg D16 m i - c) / 65536)
      rotate_left
      · simp only; omega
      · (repeat (first | exact Sub.nil | apply Sub.cons rfl))
      · exact fun _ h => by rw [fillN_step] at h; exact h
      · exact ⟨by simp only; omega, by simp only; omega, p3⟩
    · have hie : i = 16 := by omega
      subst hie
      repeat' (first | (apply Gt.outN; exact rfl; infer_instance; exact rfl; (repeat (first | exact List.Mem.head _ | apply List.Mem.tail)); exact rfl; intro w' hp) | (apply Wl.loadW; exact rfl; exact rfl; (repeat (first | exact List.Mem.head _ | apply List.Mem.tail)); exact rfl) | (apply Wl.storeW; exact rfl; exact rfl; (repeat (first | apply HSet.here | apply HSet.there)); exact rfl; (first | exact cellsN_len _ _ _ | exact rfl)) | (apply Wl.move; exact rfl; exact rfl) | (apply Wl.lss; exact rfl; exact rfl; exact rfl) | (apply Wl.nil) | (apply St.seq) | (apply St.region) | (apply St.condF; exact rfl; (first | with_reducible rfl | with_reducible assumption | decide)) | (apply St.ret) | (apply St.exit) | (apply Gt.next) | (apply Gt.thenExit) | (apply Gt.inExit) | (apply Wl.splitP; exact rfl; exact rfl; all_goals (intros; try (exfalso; omega))) | (apply Wl.splitB; exact rfl; exact rfl; all_goals intros) | (apply St.condP; exact rfl; all_goals (intros; try (exfalso; omega))) | (apply St.condB; exact rfl; all_goals intros))
      refine ⟨?_, hp.drop (by simp; omega)⟩
      rw [fillN_end, Nat.mod_eq_sub_mod hle, Nat.mod_eq_of_lt (by omega)]
/-- a field of the document -/
structure FldV (w : World) (b m : Nat) : Prop where
  mod : ArrAt w b 0 .u64 16 (dg D16 m)
  rows : ∀ k i, k < 16 → i < 16 → w.cell? ⟨b, 16 + k * 16 + i, none⟩ = some (.int .u64 (dg D16 (rowR m k) i))
  lt : m < W256
  gt : W256 ≤ 2 * m
  r0 : rowR m 0 < 2 ^ 225
  r1 : rowR m 1 < 2 ^ 241
theorem FldV.upd {S : Nat → Prop} {w w' : World} {b m : Nat} (h : FldV w b m) (u : Upd S w w') (hs : ¬ S b) : FldV w' b m :=
  ⟨h.mod.upd u hs, fun k i hk hi => u.cell (h.rows k i hk hi) hs, h.lt, h.gt, h.r0, h.r1⟩
theorem FldV.hp {w w' : World} {H : List Blk} {b m : Nat} (h : FldV w b m) (u : Hp w H w') (hs : Off H b) : FldV w' b m := h.upd u.upd fun y => y hs
theorem FldV.blk {w : World} {b m : Nat} (h : FldV w b m) : b < w.heap.size := h.mod.lt (by decide)
set_option maxHeartbeats 4000000 in
theorem refNeg (b m y : Nat) (w : World) (hF : FldV w b m) (hy : y ≤ m) :
    Calls Try.prog 60 #[mp b, num16 y] w fun e w' => e = .returned (num16 (m - y)) ∧ Hp w [] w' := by
  have hb := hF.blk
  have hM := hF.mod
  refine enter (args := [_, _]) (Γ := [(0, _), (1, _)]) Try.func60 Try.ntmps60 rfl (of_decide_eq_true rfl) (.cons rfl (.cons rfl .nil)) ?_
  repeat' (first | (apply Wl.boxN; exact rfl; exact rfl; intro c hc ho) | (apply Wl.allocN; exact rfl; (first | exact z8 | exact z16 | exact z17 | exact z33 | exact z10); intro c hc ho) | (apply Wl.assign; exact rfl; exact rfl) | (apply Wl.nil) | (apply St.seq) | (apply St.block) | (apply St.region) | (apply Gt.next) | (apply Wl.splitP; exact rfl; exact rfl; all_goals (intros; try (exfalso; omega))) | (apply Wl.splitB; exact rfl; exact rfl; all_goals intros) | (apply St.condP; exact rfl; all_goals (intros; try (exfalso; omega))) | (apply St.condB; exact rfl; all_goals intros))
  rename_i cy hcy hoy cr hcr hor
  generalize c = co at *
  refine St.loop (σ := Nat × Nat) (fun τ => τ.1 ≤ 16 ∧ τ.2 ≤ 1 ∧ hi D16 (m - y) τ.1 + hi D16 y τ.1 + τ.2 = hi D16 m τ.1)
    (fun τ => [(0, mp b), (3, mp cy), (4, mp cr), (5, mp co), (6, .int .u64 τ.2), (7, .int .i64 τ.1)])
    (fun τ => Hp w [⟨co, cellsN .u64 16 (fillN (fun _ => 0) (dg D16 (m - y)) τ.1), 32⟩, ⟨cr, cellsN .u64 16 fun _ => 0, 32⟩, ⟨cy, cellsN .u64 16 (dg D16 y), 32⟩])
    (fun τ => 16 - τ.1) (0, 0) ⟨by simp, by simp, by simp only [hi_zero]; omega⟩ (by (repeat (first | exact Sub.nil | apply Sub.cons rfl))) (fun _ h => by simpa only [fillN_zero] using h) ?_
  rintro ⟨i, c⟩ ⟨hi16, hc1, hic⟩
  simp only at hi16 hc1 hic ⊢
  have hA := dlt16 m i
  have hB := dlt16 y i
  obtain ⟨p0, p1, p2, p3⟩ := take16 hc1 hic
  have hnext : (1 + 18446744073709551616 - (dg D16 m i + 65536 - dg D16 y i - c) / 65536) % 18446744073709551616 = 1 - (dg D16 m i + 65536 - dg D16 y i - c) / 65536 := by omega
  have hx : ((dg D16 m i + 65536 + 18446744073709551616 - dg D16 y i) % 18446744073709551616 + 18446744073709551616 - c) % 18446744073709551616 = dg D16 m i + 65536 - dg D16 y i - c := by omega
  by_cases hlt : i < 16
  · have hc : w.cell? ⟨b, 0 + i, none⟩ = some (.int .u64 (dg D16 m i)) := hM i hlt
    repeat' (first | (apply Wl.loadME; exact rfl; exact rfl; exact hM; (apply Off.of; simp; omega); (omega)) | (apply Wl.indexA; exact rfl; exact rfl; exact rfl; (omega)) | (apply Wl.loadN; exact rfl; exact rfl; (repeat (first | exact List.Mem.head _ | apply List.Mem.tail)); (omega)) | (apply Wl.storeN; exact rfl; exact rfl; (repeat (first | apply HSet.here | apply HSet.there)); (omega)) | (apply Wl.addNU (n := 65536); exact rfl; exact rfl; exact rfl; (omega)) | (apply Wl.subNU; exact rfl; exact rfl; exact rfl; (omega)) | (apply Wl.quoN (n := 65536); exact rfl; exact rfl; exact rfl; (decide); (first | exact IntWalk.u64_in _ (by omega) | exact IntWalk.i64_in _ (by omega))) | (apply Wl.remN (n := 65536); exact rfl; exact rfl; exact rfl; (decide)) | (apply Wl.move; exact rfl; exact rfl) | (apply Wl.assign; exact rfl; exact rfl) | (apply Wl.nilCheck; exact rfl; exact rfl) | (apply Wl.fieldAddr0; exact rfl; exact rfl) | (apply Wl.lss; exact rfl; exact rfl; exact rfl) | (apply Wl.addI; exact rfl; exact rfl; exact rfl; (constructor <;> omega)) | (apply Wl.nil) | (apply Wl.nilQ) | (apply St.seq) | (apply St.block) | (apply St.region) | (apply St.draw; exact mixed; (kernel_rfl); exact (fun _ h => Hp.drew h)) | (apply St.skip) | (apply Gt.next) | (apply Gt.inNormal) | (apply Wl.splitP; exact rfl; exact rfl; all_goals (intros; try (exfalso; omega))) | (apply Wl.splitB; exact rfl; exact rfl; all_goals intros) | (apply St.condP; exact rfl; all_goals (intros; try (exfalso; omega))) | (apply St.condB; exact rfl; all_goals intros))
    rw [hx, p1, hnext]
    apply Gt.round (i + 1, 1 - (dg D16 m i + 65536 - dg D16 y i - c) / 65536)
    rotate_left
    · simp only; omega
    · (repeat (first | exact Sub.nil | apply Sub.cons rfl))
    · exact fun _ h => by rw [fillN_step] at h; exact h
    · exact ⟨by simp only; omega, by simp only; omega, p3⟩
  · have hie : i = 16 := by omega
    subst hie
    repeat' (first | (apply Gt.outN; exact rfl; infer_instance; exact rfl; (repeat (first | exact List.Mem.head _ | apply List.Mem.tail)); exact rfl; intro w' hp) | (apply Wl.loadW; exact rfl; exact rfl; (repeat (first | exact List.Mem.head _ | apply List.Mem.tail)); exact rfl) | (apply Wl.storeW; exact rfl; exact rfl; (repeat (first | apply HSet.here | apply HSet.there)); exact rfl; (first | exact cellsN_len _ _ _ | exact rfl)) | (apply Wl.move; exact rfl; exact rfl) | (apply Wl.lss; exact rfl; exact rfl; exact rfl) | (apply Wl.nil) | (apply St.seq) | (apply St.region) | (apply St.condF; exact rfl; (first | with_reducible rfl | with_reducible assumption | decide)) | (apply St.ret) | (apply St.exit) | (apply Gt.next) | (apply Gt.thenExit) | (apply Gt.inExit) | (apply Wl.splitP; exact rfl; exact rfl; all_goals (intros; try (exfalso; omega))) | (apply Wl.splitB; exact rfl; exact rfl; all_goals intros) | (apply St.condP; exact rfl; all_goals (intros; try (exfalso; omega))) | (apply St.condB; exact rfl; all_goals intros))
    exact ⟨by rw [fillN_end], hp.drop (by simp; omega)⟩
set_option maxHeartbeats 4000000 in
theorem refFAdd (b m x y : Nat) (w : World) (hF : FldV w b m) (hx : x < m) (hy : y < m) :
    Calls Try.prog 46 #[mp b, num16 x, num16 y] w fun e w' => e = .returned (num16 ((x + y) % m)) ∧ Hp w [] w' := by
  have hb := hF.blk
  refine enter (args := [_, _, _]) (Γ := [(0, _), (1, _), (2, _)]) Try.func46 Try.ntmps46 rfl (of_decide_eq_true rfl) (.cons rfl (.cons rfl (.cons rfl .nil))) ?_
  repeat' (first | (apply St.bagX 7 []; exact mixed; (decide +kernel); kernel_rfl) | (apply OpsX.nil) | (apply OpsX.v; (intro X hX; change Wl [_] _ _ _ _ _ _ _; apply Wl.catX; (repeat (first | apply CatB.nil | apply CatB.cons)))) | (apply Gt.endX; exact rfl) | (apply EndX.on; exact rfl) | (apply EndX.off; exact rfl) | (apply EndX.nil'; apply Wl.catE; (repeat (first | apply CatB.nil | apply CatB.cons))) | (apply Wl.loadM; exact rfl; exact rfl; exact hF.mod; (repeat (first | exact trivial | exact hX.off (by omega) | refine ⟨by first | assumption | omega | (simp only; omega), ?_⟩)); exact rfl) | (apply Wl.callQ (f := 31); exact rfl; (repeat (first | exact Evs.nil | apply Evs.cons rfl)); (intro wq hq; refine (refAdd x y m wq hF.lt hx hy).mono ?_; rintro e wr ⟨rfl, hr⟩; exact ⟨rfl, hq.keep hr⟩)) | (apply Gt.outN; exact rfl; infer_instance; exact rfl; (repeat (first | exact List.Mem.head _ | apply List.Mem.tail)); exact rfl; intro w' hp) | (apply Wl.loadW; exact rfl; exact rfl; (repeat (first | exact List.Mem.head _ | apply List.Mem.tail)); exact rfl) | (apply Wl.storeW; exact rfl; exact rfl; (repeat (first | apply HSet.here | apply HSet.there)); exact rfl; (first | exact cellsN_len _ _ _ | exact rfl)) | (apply Wl.boxN; exact rfl; exact rfl; intro c hc ho) | (apply Wl.allocN; exact rfl; (first | exact z8 | exact z16 | exact z17 | exact z33 | exact z10); intro c hc ho) | (apply Wl.move; exact rfl; exact rfl) | (apply Wl.nilCheck; exact rfl; exact rfl) | (apply Wl.fieldAddr0; exact rfl; exact rfl) | (apply Wl.nil) | (apply St.seq) | (apply St.region) | (apply St.ret) | (apply Gt.next) | (apply Wl.splitP; exact rfl; exact rfl; all_goals (intros; try (exfalso; omega))) | (apply Wl.splitB; exact rfl; exact rfl; all_goals intros) | (apply St.condP; exact rfl; all_goals (intros; try (exfalso; omega))) | (apply St.condB; exact rfl; all_goals intros))
  exact ⟨rfl, hp.drop (by simp; omega)⟩
set_option maxHeartbeats 4000000 in
theorem refFSub (b m x y : Nat) (w : World) (hF : FldV w b m) (hx : x < m) (hy : y < m) :
    Calls Try.prog 45 #[mp b, num16 x, num16 y] w fun e w' => e = .returned (num16 ((x + (m - y)) % m)) ∧ Hp w [] w' := by
  have hb := hF.blk
  have e : (x + (m - y) % m) % m = (x + (m - y)) % m := by rw [Nat.add_mod_mod]
  have hl := Nat.mod_lt (m - y) (show 0 < m by omega)
  have hmW := hF.lt
  refine enter (args := [_, _, _]) (Γ := [(0, _), (1, _), (2, _)]) Try.func45 Try.ntmps45 rfl (of_decide_eq_true rfl) (.cons rfl (.cons rfl (.cons rfl .nil))) ?_
  repeat' (first | (apply St.bagX 14 []; exact mixed; (decide +kernel); kernel_rfl) | (apply OpsX.nil) | (apply OpsX.v; (intro X hX; change Wl [_] _ _ _ _ _ _ _; apply Wl.catX; (repeat (first | apply CatB.nil | apply CatB.cons)))) | (apply Gt.endX; exact rfl) | (apply EndX.on; exact rfl) | (apply EndX.off; exact rfl) | (apply EndX.nil'; apply Wl.catE; (repeat (first | apply CatB.nil | apply CatB.cons))) | (apply Wl.loadM; exact rfl; exact rfl; exact hF.mod; (repeat (first | exact trivial | exact hX.off (by omega) | refine ⟨by first | assumption | omega | (simp only; omega), ?_⟩)); exact rfl) | (apply Wl.callQ (f := 60); exact rfl; (repeat (first | exact Evs.nil | apply Evs.cons rfl)); (intro wq hq; refine (refNeg b m y wq (hF.hp hq (by (repeat (first | exact trivial | exact hX.off (by omega) | refine ⟨by first | assumption | omega | (simp only; omega), ?_⟩)))) (Nat.le_of_lt hy)).mono ?_; rintro e wr ⟨rfl, hr⟩; exact ⟨rfl, hq.keep hr⟩)) | (apply Wl.callQ (f := 59); exact rfl; (repeat (first | exact Evs.nil | apply Evs.cons rfl)); (intro wq hq; refine (refLow (m - y) m wq (by omega) hF.lt (by omega)).mono ?_; rintro e wr ⟨rfl, hr⟩; exact ⟨rfl, hq.keep hr⟩)) | (apply Wl.callQ (f := 31); exact rfl; (repeat (first | exact Evs.nil | apply Evs.cons rfl)); (intro wq hq; refine (refAdd x ((m - y) % m) m wq hF.lt hx hl).mono ?_; rintro e wr ⟨rfl, hr⟩; exact ⟨rfl, hq.keep hr⟩)) | (apply Gt.outN; exact rfl; infer_instance; exact rfl; (repeat (first | exact List.Mem.head _ | apply List.Mem.tail)); exact rfl; intro w' hp) | (apply Wl.loadW; exact rfl; exact rfl; (repeat (first | exact List.Mem.head _ | apply List.Mem.tail)); exact rfl) | (apply Wl.storeW; exact rfl; exact rfl; (repeat (first | apply HSet.here | apply HSet.there)); exact rfl; (first | exact cellsN_len _ _ _ | exact rfl)) | (apply Wl.boxN; exact rfl; exact rfl; intro c hc ho) | (apply Wl.allocN; exact rfl; (first | exact z8 | exact z16 | exact z17 | exact z33 | exact z10); intro c hc ho) | (apply Wl.move; exact rfl; exact rfl) | (apply Wl.nilCheck; exact rfl; exact rfl) | (apply Wl.fieldAddr0; exact rfl; exact rfl) | (apply Wl.nil) | (apply St.seq) | (apply St.region) | (apply St.ret) | (apply Gt.next) | (apply Wl.splitP; exact rfl; exact rfl; all_goals (intros; try (exfalso; omega))) | (apply Wl.splitB; exact rfl; exact rfl; all_goals intros) | (apply St.condP; exact rfl; all_goals (intros; try (exfalso; omega))) | (apply St.condB; exact rfl; all_goals intros))
  rw [e] at hp ⊢
  exact ⟨rfl, hp.drop (by simp; omega)⟩
end Go.Proofs.Ytfaobdakpbpkbaa
