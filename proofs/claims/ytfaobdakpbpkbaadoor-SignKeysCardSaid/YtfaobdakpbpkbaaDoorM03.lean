/-
  13 texts, one behind the other; each says what it proves. Conditions: as each text says.
-/
import Derived.Test.YtfaobdakpbpkbaaDoorM02
import Derived.Test.YtfaobdakpbpkbaaDoorM01
section
/-
  porticoref03: numbers of sixteen digits. Conditions: numbers are below 2^256, and below the modulus where the document says so.
-/
namespace Go.Proofs.YtfaobdakpbpkbaaDoor
open Go.RowKit Go.Pt
abbrev num16 (n : Nat) : Value := .agg (cellsN .u64 16 (dg D16 n)).toArray
abbrev num17 (n : Nat) : Value := .agg (cellsN .u64 17 (dg D16 n)).toArray
set_option maxHeartbeats 1000000 in
theorem refOf (n : Nat) (w : World)  :
    Calls Tryd.prog 71 #[numV n] w fun e w' => e = .returned (num16 n) ∧ Hp w [] w' := by
  refine enter (args := [_]) (Γ := [(0, _)]) Tryd.func71 Tryd.ntmps71 rfl (of_decide_eq_true rfl) (.cons rfl .nil) ?_
  repeat' (first | (apply Wl.boxN; exact rfl; exact rfl; intro c hc ho) | (apply Wl.allocN; exact rfl; (first | exact z8 | exact z16 | exact z17 | exact z33 | exact z10); intro c hc ho) | (apply Wl.assign; exact rfl; exact rfl) | (apply Wl.nil) | (apply St.seq) | (apply St.block) | (apply St.region) | (apply Gt.next) | (apply Wl.splitP; exact rfl; exact rfl; all_goals (intros; try (exfalso; omega))) | (apply Wl.splitB; exact rfl; exact rfl; all_goals intros) | (apply St.condP; exact rfl; all_goals (intros; try (exfalso; omega))) | (apply St.condB; exact rfl; all_goals intros))
  rename_i ca hca hoa cr hcr hor
  generalize c = cx at *
  refine St.loop (σ := Nat) (fun i => i ≤ 16)
    (fun i => [(1, mp ca), (2, mp cr), (3, mp cx), (4, .int .i64 i)])
    (fun i => Hp w [⟨cx, cellsN .u64 16 (fillN (fun _ => 0) (dg D16 n) i), 37⟩, ⟨cr, cellsN .u64 16 fun _ => 0, 37⟩, ⟨ca, cellsN .u32 8 (dg W32 n), 29⟩])
    (fun i => 16 - i) 0 (by simp) (by (repeat (first | exact Sub.nil | apply Sub.cons rfl))) (fun _ h => by simpa only [fillN_zero] using h) ?_
  intro i hi16
  by_cases hlt : i < 16
  · have hw := dlt n (i / 2)
    have h2 : i / 2 < 8 := by omega
    have hq : dg W32 n (i / 2) / 2 ^ (16 * (i % 2)) < 18446744073709551616 := Nat.lt_of_le_of_lt (Nat.div_le_self _ _) (by omega)
    repeat' (first | (apply Wl.indexA; exact rfl; exact rfl; exact rfl; (omega)) | (apply Wl.loadN; exact rfl; exact rfl; (repeat (first | exact List.Mem.head _ | apply List.Mem.tail)); (omega)) | (apply Wl.storeN; exact rfl; exact rfl; (repeat (first | apply HSet.here | apply HSet.there)); (omega)) | (apply Wl.mulNI (m := 16); exact rfl; exact rfl; exact rfl; (omega)) | (apply Wl.convNU; exact rfl; exact rfl; (with_reducible assumption)) | (apply Wl.quoN (n := 2); exact rfl; exact rfl; exact rfl; (decide); (first | exact IntWalk.u64_in _ (by omega) | exact IntWalk.i64_in _ (by omega))) | (apply Wl.remN (n := 2); exact rfl; exact rfl; exact rfl; (decide)) | (apply Wl.remN (n := 65536); exact rfl; exact rfl; exact rfl; (decide)) | (apply Wl.shrV; exact rfl; exact rfl; exact rfl; (first | (show _ ≤ 32; omega) | (show _ ≤ 64; omega))) | (apply Wl.move; exact rfl; exact rfl) | (apply Wl.assign; exact rfl; exact rfl) | (apply Wl.lss; exact rfl; exact rfl; exact rfl) | (apply Wl.addI; exact rfl; exact rfl; exact rfl; (constructor <;> omega)) | (apply Wl.nil) | (apply St.seq) | (apply St.block) | (apply St.region) | (apply St.skip) | (apply Gt.next) | (apply Gt.inNormal) | (apply Wl.splitP; exact rfl; exact rfl; all_goals (intros; try (exfalso; omega))) | (apply Wl.splitB; exact rfl; exact rfl; all_goals intros) | (apply St.condP; exact rfl; all_goals (intros; try (exfalso; omega))) | (apply St.condB; exact rfl; all_goals intros))
    rw [of_step]
    apply Gt.round (i + 1)
    rotate_left
    · omega
    · (repeat (first | exact Sub.nil | apply Sub.cons rfl))
    · exact fun _ h => by rw [fillN_step] at h; exact h
    · omega
  · have : i = 16 := by omega
    subst this
    repeat' (first | (apply Gt.outN; exact rfl; infer_instance; exact rfl; (repeat (first | exact List.Mem.head _ | apply List.Mem.tail)); exact rfl; intro w' hp) | (apply Wl.loadW; exact rfl; exact rfl; (repeat (first | exact List.Mem.head _ | apply List.Mem.tail)); exact rfl) | (apply Wl.storeW; exact rfl; exact rfl; (repeat (first | apply HSet.here | apply HSet.there)); exact rfl; (first | exact cellsN_len _ _ _ | exact rfl)) | (apply Wl.move; exact rfl; exact rfl) | (apply Wl.lss; exact rfl; exact rfl; exact rfl) | (apply Wl.nil) | (apply St.seq) | (apply St.region) | (apply St.condF; exact rfl; (first | with_reducible rfl | with_reducible assumption | decide)) | (apply St.ret) | (apply St.exit) | (apply Gt.next) | (apply Gt.thenExit) | (apply Gt.inExit) | (apply Wl.splitP; exact rfl; exact rfl; all_goals (intros; try (exfalso; omega))) | (apply Wl.splitB; exact rfl; exact rfl; all_goals intros) | (apply St.condP; exact rfl; all_goals (intros; try (exfalso; omega))) | (apply St.condB; exact rfl; all_goals intros))
    exact ⟨by rw [fillN_end], hp.drop (by simp; omega)⟩
set_option maxHeartbeats 1000000 in
theorem refWords (n : Nat) (w : World)  :
    Calls Tryd.prog 12 #[num16 n] w fun e w' => e = .returned (numV n) ∧ Hp w [] w' := by
  refine enter (args := [_]) (Γ := [(0, _)]) Tryd.func12 Tryd.ntmps12 rfl (of_decide_eq_true rfl) (.cons rfl .nil) ?_
  repeat' (first | (apply Wl.boxN; exact rfl; exact rfl; intro c hc ho) | (apply Wl.allocN; exact rfl; (first | exact z8 | exact z16 | exact z17 | exact z33 | exact z10); intro c hc ho) | (apply Wl.assign; exact rfl; exact rfl) | (apply Wl.nil) | (apply St.seq) | (apply St.block) | (apply St.region) | (apply Gt.next) | (apply Wl.splitP; exact rfl; exact rfl; all_goals (intros; try (exfalso; omega))) | (apply Wl.splitB; exact rfl; exact rfl; all_goals intros) | (apply St.condP; exact rfl; all_goals (intros; try (exfalso; omega))) | (apply St.condB; exact rfl; all_goals intros))
  rename_i ca hca hoa cr hcr hor
  generalize c = cx at *
  refine St.loop (σ := Nat) (fun i => i ≤ 16)
    (fun i => [(1, mp ca), (2, mp cr), (3, mp cx), (4, .int .i64 i)])
    (fun i => Hp w [⟨cx, cellsN .u32 8 (wf n i), 29⟩, ⟨cr, cellsN .u32 8 fun _ => 0, 29⟩, ⟨ca, cellsN .u64 16 (dg D16 n), 37⟩])
    (fun i => 16 - i) 0 (by simp) (by (repeat (first | exact Sub.nil | apply Sub.cons rfl))) (fun _ h => by
      show Hp w [⟨cx, cellsN .u32 8 (wf n 0), _⟩, _, _] _
      rw [wf_zero]; exact h) ?_
  intro i hi16
  by_cases hlt : i < 16
  · have hw := dlt16 n i
    have h2 : i / 2 < 8 := by omega
    have hv : dg D16 n i % 4294967296 = dg D16 n i := Nat.mod_eq_of_lt (by omega)
    have hs : updN (wf n i) (i / 2) ((wf n i (i / 2) + dg D16 n i * 2 ^ (16 * (i % 2)) % 4294967296) % 4294967296) = wf n (i + 1) := by
      funext j
      exact wf_step n i j
    repeat' (first | (apply Wl.move; exact rfl; exact rfl) | (apply Wl.lss; exact rfl; exact rfl; exact rfl) | (apply Wl.nil) | (apply St.seq) | (apply St.block) | (apply St.region) | (apply St.skip) | (apply Gt.next) | (apply Wl.splitP; exact rfl; exact rfl; all_goals (intros; try (exfalso; omega))) | (apply Wl.splitB; exact rfl; exact rfl; all_goals intros) | (apply St.condP; exact rfl; all_goals (intros; try (exfalso; omega))) | (apply St.condB; exact rfl; all_goals intros))
    refine St.tree (Hp w [_, _]) mixed (fun _ h => ⟨Hp.drew h, hpPop (Hp.drew h) (by simp only; omega)⟩) ?_
    refine Mt.pure 0 (by decide +kernel) (by exact rfl) (by exact rfl) (by decide +kernel) (by decide +kernel) ?_
    repeat' (first | (apply Wl.move; exact rfl; exact rfl) | (apply Wl.nilM) | (apply Wl.splitP; exact rfl; exact rfl; all_goals (intros; try (exfalso; omega))) | (apply Wl.splitB; exact rfl; exact rfl; all_goals intros) | (apply St.condP; exact rfl; all_goals (intros; try (exfalso; omega))) | (apply St.condB; exact rfl; all_goals intros))
    apply Mt.back
    refine Mt.pure 1 (by decide +kernel) (by exact rfl) (by exact rfl) (by decide +kernel) (by decide +kernel) ?_
    repeat' (first | (apply Wl.quoN (n := 2); exact rfl; exact rfl; exact rfl; (decide); (first | exact IntWalk.u64_in _ (by omega) | exact IntWalk.i64_in _ (by omega))) | (apply Wl.nilM) | (apply Wl.splitP; exact rfl; exact rfl; all_goals (intros; try (exfalso; omega))) | (apply Wl.splitB; exact rfl; exact rfl; all_goals intros) | (apply St.condP; exact rfl; all_goals (intros; try (exfalso; omega))) | (apply St.condB; exact rfl; all_goals intros))
    apply Mt.back
    refine Mt.pure 2 (by decide +kernel) (by exact rfl) (by exact rfl) (by decide +kernel) (by decide +kernel) ?_
    repeat' (first | (apply Wl.indexA; exact rfl; exact rfl; exact rfl; (omega)) | (apply Wl.nilM) | (apply Wl.splitP; exact rfl; exact rfl; all_goals (intros; try (exfalso; omega))) | (apply Wl.splitB; exact rfl; exact rfl; all_goals intros) | (apply St.condP; exact rfl; all_goals (intros; try (exfalso; omega))) | (apply St.condB; exact rfl; all_goals intros))
    apply Mt.back
    refine Mt.pure 4 (by decide +kernel) (by exact rfl) (by exact rfl) (by decide +kernel) (by decide +kernel) ?_
    repeat' (first | (apply Wl.move; exact rfl; exact rfl) | (apply Wl.nilM) | (apply Wl.splitP; exact rfl; exact rfl; all_goals (intros; try (exfalso; omega))) | (apply Wl.splitB; exact rfl; exact rfl; all_goals intros) | (apply St.condP; exact rfl; all_goals (intros; try (exfalso; omega))) | (apply St.condB; exact rfl; all_goals intros))
    apply Mt.back
    refine Mt.pure 5 (by decide +kernel) (by exact rfl) (by exact rfl) (by decide +kernel) (by decide +kernel) ?_
    repeat' (first | (apply Wl.indexA; exact rfl; exact rfl; exact rfl; (omega)) | (apply Wl.nilM) | (apply Wl.splitP; exact rfl; exact rfl; all_goals (intros; try (exfalso; omega))) | (apply Wl.splitB; exact rfl; exact rfl; all_goals intros) | (apply St.condP; exact rfl; all_goals (intros; try (exfalso; omega))) | (apply St.condB; exact rfl; all_goals intros))
    apply Mt.back
    refine Mt.pure 6 (by decide +kernel) (by exact rfl) (by exact rfl) (by decide +kernel) (by decide +kernel) ?_
    repeat' (first | (apply Wl.loadN; exact rfl; exact rfl; (repeat (first | exact List.Mem.head _ | apply List.Mem.tail)); (omega)) | (apply Wl.nilM) | (apply Wl.splitP; exact rfl; exact rfl; all_goals (intros; try (exfalso; omega))) | (apply Wl.splitB; exact rfl; exact rfl; all_goals intros) | (apply St.condP; exact rfl; all_goals (intros; try (exfalso; omega))) | (apply St.condB; exact rfl; all_goals intros))
    apply Mt.back
    refine Mt.pure 7 (by decide +kernel) (by exact rfl) (by exact rfl) (by decide +kernel) (by decide +kernel) ?_
    repeat' (first | (apply Wl.convN32 (k := .u64); exact rfl; exact rfl) | (apply Wl.nilM) | (apply Wl.splitP; exact rfl; exact rfl; all_goals (intros; try (exfalso; omega))) | (apply Wl.splitB; exact rfl; exact rfl; all_goals intros) | (apply St.condP; exact rfl; all_goals (intros; try (exfalso; omega))) | (apply St.condB; exact rfl; all_goals intros))
    apply Mt.back
    refine Mt.pure 8 (by decide +kernel) (by exact rfl) (by exact rfl) (by decide +kernel) (by decide +kernel) ?_
    repeat' (first | (apply Wl.move; exact rfl; exact rfl) | (apply Wl.nilM) | (apply Wl.splitP; exact rfl; exact rfl; all_goals (intros; try (exfalso; omega))) | (apply Wl.splitB; exact rfl; exact rfl; all_goals intros) | (apply St.condP; exact rfl; all_goals (intros; try (exfalso; omega))) | (apply St.condB; exact rfl; all_goals intros))
    apply Mt.back
    refine Mt.pure 9 (by decide +kernel) (by exact rfl) (by exact rfl) (by decide +kernel) (by decide +kernel) ?_
    repeat' (first | (apply Wl.remN (n := 2); exact rfl; exact rfl; exact rfl; (decide)) | (apply Wl.nilM) | (apply Wl.splitP; exact rfl; exact rfl; all_goals (intros; try (exfalso; omega))) | (apply Wl.splitB; exact rfl; exact rfl; all_goals intros) | (apply St.condP; exact rfl; all_goals (intros; try (exfalso; omega))) | (apply St.condB; exact rfl; all_goals intros))
    apply Mt.back
    refine Mt.pure 10 (by decide +kernel) (by exact rfl) (by exact rfl) (by decide +kernel) (by decide +kernel) ?_
    repeat' (first | (apply Wl.mulNI (m := 16); exact rfl; exact rfl; exact rfl; (omega)) | (apply Wl.nilM) | (apply Wl.splitP; exact rfl; exact rfl; all_goals (intros; try (exfalso; omega))) | (apply Wl.splitB; exact rfl; exact rfl; all_goals intros) | (apply St.condP; exact rfl; all_goals (intros; try (exfalso; omega))) | (apply St.condB; exact rfl; all_goals intros))
    apply Mt.back
    refine Mt.pure 11 (by decide +kernel) (by exact rfl) (by exact rfl) (by decide +kernel) (by decide +kernel) ?_
    repeat' (first | (apply Wl.shlV; exact rfl; exact rfl; exact rfl; (omega)) | (apply Wl.nilM) | (apply Wl.splitP; exact rfl; exact rfl; all_goals (intros; try (exfalso; omega))) | (apply Wl.splitB; exact rfl; exact rfl; all_goals intros) | (apply St.condP; exact rfl; all_goals (intros; try (exfalso; omega))) | (apply St.condB; exact rfl; all_goals intros))
    apply Mt.back
    refine Mt.eff1 (i := 3) (by decide +kernel) (by exact rfl) ?_
    repeat' (first | (apply Wl.loadN; exact rfl; exact rfl; (repeat (first | exact List.Mem.head _ | apply List.Mem.tail)); (omega)) | (apply Wl.nil) | (apply Wl.splitP; exact rfl; exact rfl; all_goals (intros; try (exfalso; omega))) | (apply Wl.splitB; exact rfl; exact rfl; all_goals intros) | (apply St.condP; exact rfl; all_goals (intros; try (exfalso; omega))) | (apply St.condB; exact rfl; all_goals intros))
    refine Mt.backE (fun _ h => by first | exact h | exact hpPop h (by simp only; omega)) ?_
    refine Mt.pure 12 (by decide +kernel) (by exact rfl) (by exact rfl) (by decide +kernel) (by decide +kernel) ?_
    repeat' (first | (apply Wl.addN32; exact rfl; exact rfl; exact rfl) | (apply Wl.nilM) | (apply Wl.splitP; exact rfl; exact rfl; all_goals (intros; try (exfalso; omega))) | (apply Wl.splitB; exact rfl; exact rfl; all_goals intros) | (apply St.condP; exact rfl; all_goals (intros; try (exfalso; omega))) | (apply St.condB; exact rfl; all_goals intros))
    apply Mt.back
    refine Mt.pure 13 (by decide +kernel) (by exact rfl) (by exact rfl) (by decide +kernel) (by decide +kernel) ?_
    repeat' (first | (apply Wl.indexA; exact rfl; exact rfl; exact rfl; (omega)) | (apply Wl.nilM) | (apply Wl.splitP; exact rfl; exact rfl; all_goals (intros; try (exfalso; omega))) | (apply Wl.splitB; exact rfl; exact rfl; all_goals intros) | (apply St.condP; exact rfl; all_goals (intros; try (exfalso; omega))) | (apply St.condB; exact rfl; all_goals intros))
    apply Mt.back
    refine Mt.eff1 (i := 14) (by decide +kernel) (by exact rfl) ?_
    repeat' (first | (apply Wl.storeN; exact rfl; exact rfl; (repeat (first | apply HSet.here | apply HSet.there)); (omega)) | (apply Wl.nil) | (apply Wl.splitP; exact rfl; exact rfl; all_goals (intros; try (exfalso; omega))) | (apply Wl.splitB; exact rfl; exact rfl; all_goals intros) | (apply St.condP; exact rfl; all_goals (intros; try (exfalso; omega))) | (apply St.condB; exact rfl; all_goals intros))
    refine Mt.backE (fun _ h => by first | exact h | exact hpPop h (by simp only; omega)) ?_
    refine Mt.toGt (by decide +kernel) ?_
    rw [hv, hs]
    repeat' (first | (apply Wl.move; exact rfl; exact rfl) | (apply Wl.assign; exact rfl; exact rfl) | (apply Wl.addI; exact rfl; exact rfl; exact rfl; (constructor <;> omega)) | (apply Wl.nil) | (apply St.region) | (apply Gt.next) | (apply Gt.inNormal) | (apply Wl.splitP; exact rfl; exact rfl; all_goals (intros; try (exfalso; omega))) | (apply Wl.splitB; exact rfl; exact rfl; all_goals intros) | (apply St.condP; exact rfl; all_goals (intros; try (exfalso; omega))) | (apply St.condB; exact rfl; all_goals intros))
    apply Gt.round (i + 1)
    rotate_left
    · omega
    · (repeat (first | exact Sub.nil | apply Sub.cons rfl))
    · exact fun _ h => h
    · omega
  · have : i = 16 := by omega
    subst this
    repeat' (first | (apply Gt.outN; exact rfl; infer_instance; exact rfl; (repeat (first | exact List.Mem.head _ | apply List.Mem.tail)); exact rfl; intro w' hp) | (apply Wl.loadW; exact rfl; exact rfl; (repeat (first | exact List.Mem.head _ | apply List.Mem.tail)); exact rfl) | (apply Wl.storeW; exact rfl; exact rfl; (repeat (first | apply HSet.here | apply HSet.there)); exact rfl; (first | exact cellsN_len _ _ _ | exact rfl)) | (apply Wl.move; exact rfl; exact rfl) | (apply Wl.lss; exact rfl; exact rfl; exact rfl) | (apply Wl.nil) | (apply St.seq) | (apply St.region) | (apply St.condF; exact rfl; (first | with_reducible rfl | with_reducible assumption | decide)) | (apply St.ret) | (apply St.exit) | (apply Gt.next) | (apply Gt.thenExit) | (apply Gt.inExit) | (apply Wl.splitP; exact rfl; exact rfl; all_goals (intros; try (exfalso; omega))) | (apply Wl.splitB; exact rfl; exact rfl; all_goals intros) | (apply St.condP; exact rfl; all_goals (intros; try (exfalso; omega))) | (apply St.condB; exact rfl; all_goals intros))
    exact ⟨by rw [cellsN_congr (wf_end n)], hp.drop (by simp; omega)⟩
set_option maxHeartbeats 1000000 in
theorem refLess (T m : Nat) (w : World) (hm : m < W256) (hT : T < D16 ^ 17) :
    Calls Tryd.prog 89 #[num17 T, num16 m] w fun e w' => e = .returned (.bool (decide (T < m))) ∧ Hp w [] w' := by
  refine enter (args := [_, _]) (Γ := [(0, _), (1, _)]) Tryd.func89 Tryd.ntmps89 rfl (of_decide_eq_true rfl) (.cons rfl (.cons rfl .nil)) ?_
  have hm16 : hi D16 m 16 = 0 := hi_top (by rw [← W256_eq16]; exact hm)
  have hT17 : hi D16 T 17 = 0 := hi_top hT
  by_cases h16 : dg D16 T 16 = 0
  · have hT16 : hi D16 T 16 = 0 := by rw [hi_eq, hT17, h16]; rfl
    repeat' (first | (apply Wl.indexA (j := 16); exact rfl; exact rfl; exact rfl; (decide)) | (apply Wl.loadN; exact rfl; exact rfl; (repeat (first | exact List.Mem.head _ | apply List.Mem.tail)); (omega)) | (apply Wl.boxN; exact rfl; exact rfl; intro c hc ho) | (apply Wl.assign; exact rfl; exact rfl) | (apply Wl.gtr; exact rfl; exact rfl; exact rfl) | (apply Wl.nil) | (apply St.seq) | (apply St.block) | (apply St.region) | (apply St.skip) | (apply Gt.next) | (apply Wl.splitP; exact rfl; exact rfl; all_goals (intros; try (exfalso; omega))) | (apply Wl.splitB; exact rfl; exact rfl; all_goals intros) | (apply St.condP; exact rfl; all_goals (intros; try (exfalso; omega))) | (apply St.condB; exact rfl; all_goals intros))
    rename_i ca hca hoa _ _
    generalize c = cb at *
    refine St.loop (σ := Nat) (fun i => i ≤ 16 ∧ hi D16 T i = hi D16 m i)
      (fun i => [(2, mp ca), (3, mp cb), (5, .int .i64 ((i : Int) - 1))])
      (fun i => Hp w [⟨cb, cellsN .u64 16 (dg D16 m), 37⟩, ⟨ca, cellsN .u64 17 (dg D16 T), 130⟩])
      (fun i => i) 16 ⟨Nat.le_refl _, hT16.trans hm16.symm⟩ (by (repeat (first | exact Sub.nil | apply Sub.cons rfl))) (fun _ h => h) ?_
    rintro i ⟨hi16, hic⟩
    cases i with
    | zero =>
      rw [hi_zero, hi_zero] at hic
      repeat' (first | (apply Wl.move; exact rfl; exact rfl) | (apply Wl.assign; exact rfl; exact rfl) | (apply Wl.geq; exact rfl; exact rfl; exact rfl) | (apply Wl.nil) | (apply St.seq) | (apply St.region) | (apply St.condF; exact rfl; (first | with_reducible rfl | with_reducible assumption | decide)) | (apply St.ret) | (apply St.exit) | (apply Gt.next) | (apply Gt.thenExit) | (apply Gt.inExit) | (apply Gt.out1; exact rfl; exact rfl; intro w' hp) | (apply Wl.splitP; exact rfl; exact rfl; all_goals (intros; try (exfalso; omega))) | (apply Wl.splitB; exact rfl; exact rfl; all_goals intros) | (apply St.condP; exact rfl; all_goals (intros; try (exfalso; omega))) | (apply St.condB; exact rfl; all_goals intros))
      exact ⟨by rw [decide_eq_false (show ¬ T < m by omega)], hp.drop (by simp; omega)⟩
    | succ i =>
      have e : (((i + 1 : Nat) : Int) - 1) = (i : Int) := by omega
      rw [e]
      have ea := hi_eq D16 T i
      have eb := hi_eq D16 m i
      rw [hic] at ea
      by_cases hne : dg D16 T i = dg D16 m i
      · have hne' : ((dg D16 T i : Nat) : Int) = (dg D16 m i : Nat) := by rw [hne]
        repeat' (first | (apply Wl.indexA; exact rfl; exact rfl; exact rfl; (omega)) | (apply Wl.loadN; exact rfl; exact rfl; (repeat (first | exact List.Mem.head _ | apply List.Mem.tail)); (omega)) | (apply Wl.move; exact rfl; exact rfl) | (apply Wl.assign; exact rfl; exact rfl) | (apply Wl.neqIs; exact rfl; exact rfl; exact rfl; (first | with_reducible assumption | with_reducible rfl)) | (apply Wl.geq; exact rfl; exact rfl; exact rfl) | (apply Wl.subI; exact rfl; exact rfl; exact rfl; (constructor <;> omega)) | (apply Wl.nil) | (apply Wl.nilQ) | (apply St.seq) | (apply St.block) | (apply St.region) | (apply St.draw; exact mixed; (kernel_rfl); exact (fun _ h => Hp.drew h)) | (apply St.condF; exact rfl; (first | with_reducible rfl | with_reducible assumption | decide)) | (apply St.skip) | (apply Gt.next) | (apply Gt.inNormal) | (apply Wl.splitP; exact rfl; exact rfl; all_goals (intros; try (exfalso; omega))) | (apply Wl.splitB; exact rfl; exact rfl; all_goals intros) | (apply St.condP; exact rfl; all_goals (intros; try (exfalso; omega))) | (apply St.condB; exact rfl; all_goals intros))
        apply Gt.round i
        rotate_left
        · simp
        · (repeat (first | exact Sub.nil | apply Sub.cons rfl))
        · exact fun _ h => h
        · exact ⟨by omega, by rw [ea, eb, hne]⟩
      · repeat' (first | (apply Wl.indexA; exact rfl; exact rfl; exact rfl; (omega)) | (apply Wl.loadN; exact rfl; exact rfl; (repeat (first | exact List.Mem.head _ | apply List.Mem.tail)); (omega)) | (apply Wl.move; exact rfl; exact rfl) | (apply Wl.assign; exact rfl; exact rfl) | (apply Wl.neq; exact rfl; exact rfl; exact rfl) | (apply Wl.lss; exact rfl; exact rfl; exact rfl) | (apply Wl.geq; exact rfl; exact rfl; exact rfl) | (apply Wl.nil) | (apply Wl.nilQ) | (apply St.seq) | (apply St.block) | (apply St.region) | (apply St.draw; exact mixed; (kernel_rfl); exact (fun _ h => Hp.drew h)) | (apply St.ret) | (apply St.skip) | (apply Gt.next) | (apply Gt.thenRet) | (apply Gt.inRet) | (apply Gt.out1; exact rfl; exact rfl; intro w' hp) | (apply Wl.splitP; exact rfl; exact rfl; all_goals (intros; try (exfalso; omega))) | (apply Wl.splitB; exact rfl; exact rfl; all_goals intros) | (apply St.condP; exact rfl; all_goals (intros; try (exfalso; omega))) | (apply St.condB; exact rfl; all_goals intros))
        refine ⟨?_, hp.drop (by simp; omega)⟩
        congr 2
        rw [decide_eq_decide]
        constructor
        · exact fun h => lt_of_hi (B := D16) (i := i) (by omega)
        · intro h
          have h1 : hi D16 T i ≤ hi D16 m i := Nat.div_le_div_right (Nat.le_of_lt h)
          omega
  · have hn : ¬ T < m := fun h => h16 (by
      have : hi D16 T 16 = 0 := hi_top (by rw [← W256_eq16]; omega)
      unfold dg; rw [this]; rfl)
    repeat' (first | (apply Wl.indexA (j := 16); exact rfl; exact rfl; exact rfl; (decide)) | (apply Wl.loadN; exact rfl; exact rfl; (repeat (first | exact List.Mem.head _ | apply List.Mem.tail)); (omega)) | (apply Wl.boxN; exact rfl; exact rfl; intro c hc ho) | (apply Wl.assign; exact rfl; exact rfl) | (apply Wl.gtr; exact rfl; exact rfl; exact rfl) | (apply Wl.nil) | (apply St.seq) | (apply St.region) | (apply St.ret) | (apply Gt.next) | (apply Gt.thenRet) | (apply Gt.out1; exact rfl; exact rfl; intro w' hp) | (apply Wl.splitP; exact rfl; exact rfl; all_goals (intros; try (exfalso; omega))) | (apply Wl.splitB; exact rfl; exact rfl; all_goals intros) | (apply St.condP; exact rfl; all_goals (intros; try (exfalso; omega))) | (apply St.condB; exact rfl; all_goals intros))
    exact ⟨by rw [decide_eq_false hn], hp.drop (by simp; omega)⟩
end Go.Proofs.YtfaobdakpbpkbaaDoor
end
section
/-
  porticoref03: take, twice, Add, Sub, Reduce, R. Conditions: numbers are below 2^256, and below the modulus where the document says so.
-/
namespace Go.Proofs.YtfaobdakpbpkbaaDoor
open Go.RowKit Go.Pt
theorem hi16_lt {n : Nat} (h : n < W256) : hi D16 n 16 = 0 := hi_top (by rw [← W256_eq16]; exact h)
theorem d16_mod (n : Nat) : cellsN .u64 16 (dg D16 (n % W256)) = cellsN .u64 16 (dg D16 n) := cellsN_congr fun j hj => by rw [W256_eq16]; exact dg_mod hj
set_option maxHeartbeats 1000000 in
theorem refTake (T b : Nat) (w : World) (hb : b < W256) (hT : T < D16 ^ 17) (hbT : b ≤ T) :
    Calls Tryd.prog 90 #[num17 T, num16 b] w fun e w' => e = .returned (num17 (T - b)) ∧ Hp w [] w' := by
  refine enter (args := [_, _]) (Γ := [(0, _), (1, _)]) Tryd.func90 Tryd.ntmps90 rfl (of_decide_eq_true rfl) (.cons rfl (.cons rfl .nil)) ?_
  repeat' (first | (apply Wl.boxN; exact rfl; exact rfl; intro c hc ho) | (apply Wl.allocN; exact rfl; (first | exact z8 | exact z16 | exact z17 | exact z33 | exact z10); intro c hc ho) | (apply Wl.assign; exact rfl; exact rfl) | (apply Wl.nil) | (apply St.seq) | (apply St.block) | (apply St.region) | (apply Gt.next) | (apply Wl.splitP; exact rfl; exact rfl; all_goals (intros; try (exfalso; omega))) | (apply Wl.splitB; exact rfl; exact rfl; all_goals intros) | (apply St.condP; exact rfl; all_goals (intros; try (exfalso; omega))) | (apply St.condB; exact rfl; all_goals intros))
  rename_i ca hca hoa cb hcb hob
  generalize c = cr at *
  refine St.loop (σ := Nat × Nat) (fun τ => τ.1 ≤ 17 ∧ τ.2 ≤ 1 ∧ hi D16 (T - b) τ.1 + hi D16 b τ.1 + τ.2 = hi D16 T τ.1)
    (fun τ => [(2, mp ca), (3, mp cb), (4, mp cr), (5, .int .u64 τ.2), (6, .int .i64 τ.1)])
    (fun τ => Hp w [⟨cr, cellsN .u64 17 fun _ => 0, 130⟩, ⟨cb, cellsN .u64 16 (dg D16 b), 37⟩, ⟨ca, cellsN .u64 17 (fillN (dg D16 T) (dg D16 (T - b)) τ.1), 130⟩])
    (fun τ => 17 - τ.1) (0, 0) ⟨by simp, by simp, by simp only [hi_zero]; omega⟩ (by (repeat (first | exact Sub.nil | apply Sub.cons rfl))) (fun _ h => by simpa only [fillN_zero] using h) ?_
  rintro ⟨i, c⟩ ⟨hi17, hc1, hic⟩
  simp only at hi17 hc1 hic ⊢
  have hf : fillN (dg D16 T) (dg D16 (T - b)) i i = dg D16 T i := fillN_at (Nat.le_refl _)
  have hA := dlt16 T i
  have hB := dlt16 b i
  obtain ⟨p0, p1, p2, p3⟩ := take16 hc1 hic
  have hnext : (1 + 18446744073709551616 - (dg D16 T i + 65536 - dg D16 b i - c) / 65536) % 18446744073709551616 = 1 - (dg D16 T i + 65536 - dg D16 b i - c) / 65536 := by omega
  have hx : ((dg D16 T i + 65536 + 18446744073709551616 - dg D16 b i) % 18446744073709551616 + 18446744073709551616 - c) % 18446744073709551616 = dg D16 T i + 65536 - dg D16 b i - c := by omega
  by_cases hlt : i < 17
  · have hF := hA
    rw [← hf] at hF
    by_cases h16 : i < 16
    · repeat' (first | (apply Wl.indexA; exact rfl; exact rfl; exact rfl; (omega)) | (apply Wl.loadN; exact rfl; exact rfl; (repeat (first | exact List.Mem.head _ | apply List.Mem.tail)); (omega)) | (apply Wl.storeN; exact rfl; exact rfl; (repeat (first | apply HSet.here | apply HSet.there)); (omega)) | (apply Wl.addNU (n := 65536); exact rfl; exact rfl; exact rfl; (omega)) | (apply Wl.subNU; exact rfl; exact rfl; exact rfl; (omega)) | (apply Wl.quoN (n := 65536); exact rfl; exact rfl; exact rfl; (decide); (first | exact IntWalk.u64_in _ (by omega) | exact IntWalk.i64_in _ (by omega))) | (apply Wl.remN (n := 65536); exact rfl; exact rfl; exact rfl; (decide)) | (apply Wl.move; exact rfl; exact rfl) | (apply Wl.assign; exact rfl; exact rfl) | (apply Wl.lss; exact rfl; exact rfl; exact rfl) | (apply Wl.addI; exact rfl; exact rfl; exact rfl; (constructor <;> omega)) | (apply Wl.nil) | (apply St.seq) | (apply St.block) | (apply St.region) | (apply St.skip) | (apply Gt.next) | (apply Gt.inNormal) | (apply Wl.splitP; exact rfl; exact rfl; all_goals (intros; try (exfalso; omega))) | (apply Wl.splitB; exact rfl; exact rfl; all_goals intros) | (apply St.condP; exact rfl; all_goals (intros; try (exfalso; omega))) | (apply St.condB; exact rfl; all_goals intros))
      rw [hf, hx, p1, hnext]
      apply Gt.round (i + 1, 1 - (dg D16 T i + 65536 - dg D16 b i - c) / 65536)
      rotate_left
      · simp only; omega
      · (repeat (first | exact Sub.nil | apply Sub.cons rfl))
      · exact fun _ h => by rw [fillN_step] at h; exact h
      · exact ⟨by simp only; omega, by simp only; omega, p3⟩
    · have hie : i = 16 := by omega
      have hb0 : dg D16 b i = 0 := by rw [hie]; unfold dg; rw [hi16_lt hb]; rfl
      rw [hb0] at hx p1 p2 p3 hnext
      rw [Nat.sub_zero] at p1 p2 p3 hnext
      have hx' : ((dg D16 T i + 65536 + 18446744073709551616 - 0) % 18446744073709551616 + 18446744073709551616 - c) % 18446744073709551616 = dg D16 T i + 65536 - c := hx
      repeat' (first | (apply Wl.indexA; exact rfl; exact rfl; exact rfl; (omega)) | (apply Wl.loadN; exact rfl; exact rfl; (repeat (first | exact List.Mem.head _ | apply List.Mem.tail)); (omega)) | (apply Wl.storeN; exact rfl; exact rfl; (repeat (first | apply HSet.here | apply HSet.there)); (omega)) | (apply Wl.addNU (n := 65536); exact rfl; exact rfl; exact rfl; (omega)) | (apply Wl.subNU; exact rfl; exact rfl; exact rfl; (omega)) | (apply Wl.subNU (n := 0); exact rfl; exact rfl; exact rfl; (omega)) | (apply Wl.quoN (n := 65536); exact rfl; exact rfl; exact rfl; (decide); (first | exact IntWalk.u64_in _ (by omega) | exact IntWalk.i64_in _ (by omega))) | (apply Wl.remN (n := 65536); exact rfl; exact rfl; exact rfl; (decide)) | (apply Wl.move; exact rfl; exact rfl) | (apply Wl.assign; exact rfl; exact rfl) | (apply Wl.lss; exact rfl; exact rfl; exact rfl) | (apply Wl.addI; exact rfl; exact rfl; exact rfl; (constructor <;> omega)) | (apply Wl.nil) | (apply St.seq) | (apply St.block) | (apply St.region) | (apply St.skip) | (apply Gt.next) | (apply Gt.inNormal) | (apply Wl.splitP; exact rfl; exact rfl; all_goals (intros; try (exfalso; omega))) | (apply Wl.splitB; exact rfl; exact rfl; all_goals intros) | (apply St.condP; exact rfl; all_goals (intros; try (exfalso; omega))) | (apply St.condB; exact rfl; all_goals intros))
      rw [hf, hx', p1, hnext]
      apply Gt.round (i + 1, 1 - (dg D16 T i + 65536 - c) / 65536)
      rotate_left
      · simp only; omega
      · (repeat (first | exact Sub.nil | apply Sub.cons rfl))
      · exact fun _ h => by rw [fillN_step] at h; exact h
      · exact ⟨by simp only; omega, by simp only; omega, p3⟩
  · have hie : i = 17 := by omega
    subst hie
    repeat' (first | (apply Gt.outN; exact rfl; infer_instance; exact rfl; (repeat (first | exact List.Mem.head _ | apply List.Mem.tail)); exact rfl; intro w' hp) | (apply Wl.loadW; exact rfl; exact rfl; (repeat (first | exact List.Mem.head _ | apply List.Mem.tail)); exact rfl) | (apply Wl.storeW; exact rfl; exact rfl; (repeat (first | apply HSet.here | apply HSet.there)); exact rfl; (first | exact cellsN_len _ _ _ | exact rfl)) | (apply Wl.move; exact rfl; exact rfl) | (apply Wl.lss; exact rfl; exact rfl; exact rfl) | (apply Wl.nil) | (apply St.seq) | (apply St.region) | (apply St.condF; exact rfl; (first | with_reducible rfl | with_reducible assumption | decide)) | (apply St.ret) | (apply St.exit) | (apply Gt.next) | (apply Gt.thenExit) | (apply Gt.inExit) | (apply Wl.splitP; exact rfl; exact rfl; all_goals (intros; try (exfalso; omega))) | (apply Wl.splitB; exact rfl; exact rfl; all_goals intros) | (apply St.condP; exact rfl; all_goals (intros; try (exfalso; omega))) | (apply St.condB; exact rfl; all_goals intros))
    exact ⟨by rw [fillN_end], hp.drop (by simp; omega)⟩
set_option maxHeartbeats 1000000 in
theorem refTwice (a m bit : Nat) (w : World) (hm : m < W256) (ha : a < m) (hbit : bit ≤ 1) :
    Calls Tryd.prog 72 #[num16 a, num16 m, .int .u64 bit] w fun e w' => e = .returned (num16 ((2 * a + bit) % m)) ∧ Hp w [] w' := by
  refine enter (args := [_, _, _]) (Γ := [(0, _), (1, _), (2, _)]) Tryd.func72 Tryd.ntmps72 rfl (of_decide_eq_true rfl) (.cons rfl (.cons rfl (.cons rfl .nil))) ?_
  have hT2 : 2 * a + bit < 2 * m := by omega
  have hT : 2 * a + bit < D16 ^ 17 := Nat.lt_of_lt_of_le hT2 (Nat.le_trans (Nat.mul_le_mul_left 2 (Nat.le_of_lt hm)) (by decide))
  have hon := once hT2
  repeat' (first | (apply Wl.boxN; exact rfl; exact rfl; intro c hc ho) | (apply Wl.allocN; exact rfl; (first | exact z8 | exact z16 | exact z17 | exact z33 | exact z10); intro c hc ho) | (apply Wl.move; exact rfl; exact rfl) | (apply Wl.assign; exact rfl; exact rfl) | (apply Wl.nil) | (apply St.seq) | (apply St.block) | (apply St.region) | (apply Gt.next) | (apply Wl.splitP; exact rfl; exact rfl; all_goals (intros; try (exfalso; omega))) | (apply Wl.splitB; exact rfl; exact rfl; all_goals intros) | (apply St.condP; exact rfl; all_goals (intros; try (exfalso; omega))) | (apply St.condB; exact rfl; all_goals intros))
  rename_i ca hca hoa cb hcb hob cr hcr hor
  generalize c = ct at *
  refine St.loop (σ := Nat × Nat) (fun τ => τ.1 ≤ 16 ∧ τ.2 ≤ 1 ∧ hi D16 (2 * a + bit) τ.1 = 2 * hi D16 a τ.1 + τ.2)
    (fun τ => [(3, mp ca), (4, mp cb), (6, mp cr), (7, mp ct), (8, .int .u64 τ.2), (9, .int .i64 τ.1)])
    (fun τ => Hp w [⟨ct, cellsN .u64 17 (fillN (fun _ => 0) (dg D16 (2 * a + bit)) τ.1), 130⟩, ⟨cr, cellsN .u64 16 fun _ => 0, 37⟩, ⟨cb, cellsN .u64 16 (dg D16 m), 37⟩, ⟨ca, cellsN .u64 16 (dg D16 a), 37⟩])
    (fun τ => 16 - τ.1) (0, bit) ⟨by simp, hbit, by simp only [hi_zero]⟩ (by (repeat (first | exact Sub.nil | apply Sub.cons rfl))) (fun _ h => by simpa only [fillN_zero] using h) ?_
  rintro ⟨i, c⟩ ⟨hi16, hc1, hic⟩
  simp only at hi16 hc1 hic ⊢
  have hA := dlt16 a i
  by_cases hlt : i < 16
  · obtain ⟨p1, p2⟩ := twice16 hic
    repeat' (first | (apply Wl.indexA; exact rfl; exact rfl; exact rfl; (omega)) | (apply Wl.loadN; exact rfl; exact rfl; (repeat (first | exact List.Mem.head _ | apply List.Mem.tail)); (omega)) | (apply Wl.storeN; exact rfl; exact rfl; (repeat (first | apply HSet.here | apply HSet.there)); (omega)) | (apply Wl.addNU; exact rfl; exact rfl; exact rfl; (first | assumption | omega)) | (apply Wl.mulNU (m := 2); exact rfl; exact rfl; exact rfl; (omega)) | (apply Wl.quoN (n := 65536); exact rfl; exact rfl; exact rfl; (decide); (first | exact IntWalk.u64_in _ (by omega) | exact IntWalk.i64_in _ (by omega))) | (apply Wl.remN (n := 65536); exact rfl; exact rfl; exact rfl; (decide)) | (apply Wl.move; exact rfl; exact rfl) | (apply Wl.assign; exact rfl; exact rfl) | (apply Wl.lss; exact rfl; exact rfl; exact rfl) | (apply Wl.addI; exact rfl; exact rfl; exact rfl; (constructor <;> omega)) | (apply Wl.nil) | (apply St.seq) | (apply St.block) | (apply St.region) | (apply St.skip) | (apply Gt.next) | (apply Gt.inNormal) | (apply Wl.splitP; exact rfl; exact rfl; all_goals (intros; try (exfalso; omega))) | (apply Wl.splitB; exact rfl; exact rfl; all_goals intros) | (apply St.condP; exact rfl; all_goals (intros; try (exfalso; omega))) | (apply St.condB; exact rfl; all_goals intros))
    rw [p1]
    apply Gt.round (i + 1, (2 * dg D16 a i + c) / 65536)
    rotate_left
    · simp only; omega
    · (repeat (first | exact Sub.nil | apply Sub.cons rfl))
    · exact fun _ h => by rw [fillN_step] at h; exact h
    · exact ⟨by simp only; omega, by simp only; omega, p2⟩
  · have hie : i = 16 := by omega
    subst hie
    have hc : c = dg D16 (2 * a + bit) 16 := by
      rw [hi16_lt (show a < W256 by omega), Nat.mul_zero, Nat.zero_add] at hic
      unfold dg
      rw [hic, Nat.mod_eq_of_lt (by unfold D16; omega)]
    repeat' (first | (apply Wl.indexA (j := 16); exact rfl; exact rfl; exact rfl; (decide)) | (apply Wl.storeN; exact rfl; exact rfl; (repeat (first | apply HSet.here | apply HSet.there)); (omega)) | (apply Wl.loadW; exact rfl; exact rfl; (repeat (first | exact List.Mem.head _ | apply List.Mem.tail)); exact rfl) | (apply Wl.move; exact rfl; exact rfl) | (apply Wl.lss; exact rfl; exact rfl; exact rfl) | (apply Wl.nil) | (apply St.seq) | (apply St.region) | (apply St.condF; exact rfl; (first | with_reducible rfl | with_reducible assumption | decide)) | (apply St.exit) | (apply Gt.next) | (apply Gt.thenExit) | (apply Gt.inExit) | (apply Wl.splitP; exact rfl; exact rfl; all_goals (intros; try (exfalso; omega))) | (apply Wl.splitB; exact rfl; exact rfl; all_goals intros) | (apply St.condP; exact rfl; all_goals (intros; try (exfalso; omega))) | (apply St.condB; exact rfl; all_goals intros))
    subst hc
    rw [fillN_step, fillN_end]
    apply Wl.callQ
    exact rfl
    (repeat (first | exact Evs.nil | apply Evs.cons rfl))
    · intro wq hq
      refine (refLess (2 * a + bit) m wq hm hT).mono ?_
      rintro e wr ⟨rfl, hr⟩
      exact ⟨rfl, hq.keep hr⟩
    by_cases hTm : 2 * a + bit < m
    · have ht : decide (2 * a + bit < m) = true := by simp [hTm]
      rw [ht]
      repeat' (first | (apply Wl.sliceArrF (h' := 16); exact rfl; exact rfl; exact rfl; (decide); (decide)) | (apply Wl.sliceToArr; exact rfl; exact rfl; (decide)) | (apply Wl.loadT; exact rfl; exact rfl; (repeat (first | exact List.Mem.head _ | apply List.Mem.tail)); (decide)) | (apply Gt.outN; exact rfl; infer_instance; exact rfl; (repeat (first | exact List.Mem.head _ | apply List.Mem.tail)); exact rfl; intro w' hp) | (apply Wl.storeW; exact rfl; exact rfl; (repeat (first | apply HSet.here | apply HSet.there)); exact rfl; (first | exact cellsN_len _ _ _ | exact rfl)) | (apply Wl.not; exact rfl; exact rfl) | (apply Wl.nil) | (apply St.seq) | (apply St.region) | (apply St.condF; exact rfl; (first | with_reducible rfl | with_reducible assumption | decide)) | (apply St.ret) | (apply St.skip) | (apply Gt.next) | (apply Wl.splitP; exact rfl; exact rfl; all_goals (intros; try (exfalso; omega))) | (apply Wl.splitB; exact rfl; exact rfl; all_goals intros) | (apply St.condP; exact rfl; all_goals (intros; try (exfalso; omega))) | (apply St.condB; exact rfl; all_goals intros))
      refine ⟨?_, hp.drop (by simp; omega)⟩
      rw [hon, if_neg (by omega)]
    · have ht : decide (2 * a + bit < m) = false := by simp [hTm]
      rw [ht]
      repeat' (first | (apply Wl.loadW; exact rfl; exact rfl; (repeat (first | exact List.Mem.head _ | apply List.Mem.tail)); exact rfl) | (apply Wl.not; exact rfl; exact rfl) | (apply Wl.nil) | (apply St.region) | (apply St.condT; exact rfl; (first | with_reducible rfl | with_reducible assumption | decide)) | (apply Gt.next) | (apply Wl.splitP; exact rfl; exact rfl; all_goals (intros; try (exfalso; omega))) | (apply Wl.splitB; exact rfl; exact rfl; all_goals intros) | (apply St.condP; exact rfl; all_goals (intros; try (exfalso; omega))) | (apply St.condB; exact rfl; all_goals intros))
      apply Wl.callQ
      exact rfl
      (repeat (first | exact Evs.nil | apply Evs.cons rfl))
      · intro wq hq
        refine (refTake (2 * a + bit) m wq hm hT (by omega)).mono ?_
        rintro e wr ⟨rfl, hr⟩
        exact ⟨rfl, hq.keep hr⟩
      repeat' (first | (apply Wl.sliceArrF (h' := 16); exact rfl; exact rfl; exact rfl; (decide); (decide)) | (apply Wl.sliceToArr; exact rfl; exact rfl; (decide)) | (apply Wl.loadT; exact rfl; exact rfl; (repeat (first | exact List.Mem.head _ | apply List.Mem.tail)); (decide)) | (apply Gt.outN; exact rfl; infer_instance; exact rfl; (repeat (first | exact List.Mem.head _ | apply List.Mem.tail)); exact rfl; intro w' hp) | (apply Wl.storeW; exact rfl; exact rfl; (repeat (first | apply HSet.here | apply HSet.there)); exact rfl; (first | exact cellsN_len _ _ _ | exact rfl)) | (apply Wl.nil) | (apply St.seq) | (apply St.region) | (apply St.ret) | (apply Gt.next) | (apply Wl.splitP; exact rfl; exact rfl; all_goals (intros; try (exfalso; omega))) | (apply Wl.splitB; exact rfl; exact rfl; all_goals intros) | (apply St.condP; exact rfl; all_goals (intros; try (exfalso; omega))) | (apply St.condB; exact rfl; all_goals intros))
      refine ⟨?_, hp.drop (by simp; omega)⟩
      rw [hon, if_pos (by omega)]
end Go.Proofs.YtfaobdakpbpkbaaDoor
end
section
/-
  porticoref03: Add, Reduce, R, Half, Over. Conditions: numbers are below 2^256, and below the modulus where the document says so.
-/
namespace Go.Proofs.YtfaobdakpbpkbaaDoor
open Go.RowKit Go.Pt
set_option maxHeartbeats 2000000 in
theorem refAdd (a b m : Nat) (w : World) (hm : m < W256) (ha : a < m) (hb : b < m) :
    Calls Tryd.prog 70 #[num16 a, num16 b, num16 m] w fun e w' => e = .returned (num16 ((a + b) % m)) ∧ Hp w [] w' := by
  refine enter (args := [_, _, _]) (Γ := [(0, _), (1, _), (2, _)]) Tryd.func70 Tryd.ntmps70 rfl (of_decide_eq_true rfl) (.cons rfl (.cons rfl (.cons rfl .nil))) ?_
  have hT2 : a + b < 2 * m := by omega
  have hT : a + b < D16 ^ 17 := Nat.lt_of_lt_of_le hT2 (Nat.le_trans (Nat.mul_le_mul_left 2 (Nat.le_of_lt hm)) (by decide))
  have hon := once hT2
  repeat' (first | (apply Wl.boxN; exact rfl; exact rfl; intro c hc ho) | (apply Wl.allocN; exact rfl; (first | exact z8 | exact z16 | exact z17 | exact z33 | exact z10); intro c hc ho) | (apply Wl.assign; exact rfl; exact rfl) | (apply Wl.nil) | (apply St.seq) | (apply St.block) | (apply St.region) | (apply Gt.next) | (apply Wl.splitP; exact rfl; exact rfl; all_goals (intros; try (exfalso; omega))) | (apply Wl.splitB; exact rfl; exact rfl; all_goals intros) | (apply St.condP; exact rfl; all_goals (intros; try (exfalso; omega))) | (apply St.condB; exact rfl; all_goals intros))
  rename_i ca hca hoa cb hcb hob cm hcm hom cr hcr hor
  generalize c = ct at *
  refine St.loop (σ := Nat × Nat) (fun τ => τ.1 ≤ 16 ∧ τ.2 ≤ 1 ∧ hi D16 (a + b) τ.1 = hi D16 a τ.1 + hi D16 b τ.1 + τ.2)
    (fun τ => [(3, mp ca), (4, mp cb), (5, mp cm), (6, mp cr), (7, mp ct), (8, .int .u64 τ.2), (9, .int .i64 τ.1)])
    (fun τ => Hp w [⟨ct, cellsN .u64 17 (fillN (fun _ => 0) (dg D16 (a + b)) τ.1), 130⟩, ⟨cr, cellsN .u64 16 fun _ => 0, 37⟩, ⟨cm, cellsN .u64 16 (dg D16 m), 37⟩, ⟨cb, cellsN .u64 16 (dg D16 b), 37⟩, ⟨ca, cellsN .u64 16 (dg D16 a), 37⟩])
    (fun τ => 16 - τ.1) (0, 0) ⟨by simp, by simp, by simp [hi_zero]⟩ (by (repeat (first | exact Sub.nil | apply Sub.cons rfl))) (fun _ h => by simpa only [fillN_zero] using h) ?_
  rintro ⟨i, c⟩ ⟨hi16, hc1, hic⟩
  simp only at hi16 hc1 hic ⊢
  have hA := dlt16 a i
  have hB := dlt16 b i
  by_cases hlt : i < 16
  · obtain ⟨p1, p2⟩ := add16 hic
    repeat' (first | (apply Wl.indexA; exact rfl; exact rfl; exact rfl; (omega)) | (apply Wl.loadN; exact rfl; exact rfl; (repeat (first | exact List.Mem.head _ | apply List.Mem.tail)); (omega)) | (apply Wl.storeN; exact rfl; exact rfl; (repeat (first | apply HSet.here | apply HSet.there)); (omega)) | (apply Wl.addNU; exact rfl; exact rfl; exact rfl; (first | assumption | omega)) | (apply Wl.quoN (n := 65536); exact rfl; exact rfl; exact rfl; (decide); (first | exact IntWalk.u64_in _ (by omega) | exact IntWalk.i64_in _ (by omega))) | (apply Wl.remN (n := 65536); exact rfl; exact rfl; exact rfl; (decide)) | (apply Wl.move; exact rfl; exact rfl) | (apply Wl.assign; exact rfl; exact rfl) | (apply Wl.lss; exact rfl; exact rfl; exact rfl) | (apply Wl.addI; exact rfl; exact rfl; exact rfl; (constructor <;> omega)) | (apply Wl.nil) | (apply Wl.nilQ) | (apply St.seq) | (apply St.block) | (apply St.region) | (apply St.draw; exact mixed; (kernel_rfl); exact (fun _ h => Hp.drew h)) | (apply St.skip) | (apply Gt.next) | (apply Gt.inNormal) | (apply Wl.splitP; exact rfl; exact rfl; all_goals (intros; try (exfalso; omega))) | (apply Wl.splitB; exact rfl; exact rfl; all_goals intros) | (apply St.condP; exact rfl; all_goals (intros; try (exfalso; omega))) | (apply St.condB; exact rfl; all_goals intros))
    rw [p1]
    apply Gt.round (i + 1, (dg D16 a i + dg D16 b i + c) / 65536)
    rotate_left
    · simp only; omega
    · (repeat (first | exact Sub.nil | apply Sub.cons rfl))
    · exact fun _ h => by rw [fillN_step] at h; exact h
    · exact ⟨by simp only; omega, by simp only; omega, p2⟩
  · have hie : i = 16 := by omega
    subst hie
    have hc : c = dg D16 (a + b) 16 := by
      rw [hi16_lt (show a < W256 by omega), hi16_lt (show b < W256 by omega), Nat.zero_add] at hic
      unfold dg
      rw [hic, Nat.mod_eq_of_lt (by unfold D16; omega)]
      try omega
    repeat' (first | (apply Wl.indexA (j := 16); exact rfl; exact rfl; exact rfl; (decide)) | (apply Wl.storeN; exact rfl; exact rfl; (repeat (first | apply HSet.here | apply HSet.there)); (omega)) | (apply Wl.loadW; exact rfl; exact rfl; (repeat (first | exact List.Mem.head _ | apply List.Mem.tail)); exact rfl) | (apply Wl.move; exact rfl; exact rfl) | (apply Wl.lss; exact rfl; exact rfl; exact rfl) | (apply Wl.nil) | (apply St.seq) | (apply St.region) | (apply St.condF; exact rfl; (first | with_reducible rfl | with_reducible assumption | decide)) | (apply St.exit) | (apply Gt.next) | (apply Gt.thenExit) | (apply Gt.inExit) | (apply Wl.splitP; exact rfl; exact rfl; all_goals (intros; try (exfalso; omega))) | (apply Wl.splitB; exact rfl; exact rfl; all_goals intros) | (apply St.condP; exact rfl; all_goals (intros; try (exfalso; omega))) | (apply St.condB; exact rfl; all_goals intros))
    subst hc
    rw [fillN_step, fillN_end]
    apply Wl.callQ
    exact rfl
    (repeat (first | exact Evs.nil | apply Evs.cons rfl))
    · intro wq hq
      refine (refLess (a + b) m wq hm hT).mono ?_
      rintro e wr ⟨rfl, hr⟩
      exact ⟨rfl, hq.keep hr⟩
    by_cases hTm : a + b < m
    · have ht : decide (a + b < m) = true := by simp [hTm]
      rw [ht]
      repeat' (first | (apply Wl.sliceArrF (h' := 16); exact rfl; exact rfl; exact rfl; (decide); (decide)) | (apply Wl.sliceToArr; exact rfl; exact rfl; (decide)) | (apply Wl.loadT; exact rfl; exact rfl; (repeat (first | exact List.Mem.head _ | apply List.Mem.tail)); (decide)) | (apply Gt.outN; exact rfl; infer_instance; exact rfl; (repeat (first | exact List.Mem.head _ | apply List.Mem.tail)); exact rfl; intro w' hp) | (apply Wl.storeW; exact rfl; exact rfl; (repeat (first | apply HSet.here | apply HSet.there)); exact rfl; (first | exact cellsN_len _ _ _ | exact rfl)) | (apply Wl.not; exact rfl; exact rfl) | (apply Wl.nil) | (apply St.seq) | (apply St.region) | (apply St.condF; exact rfl; (first | with_reducible rfl | with_reducible assumption | decide)) | (apply St.ret) | (apply St.skip) | (apply Gt.next) | (apply Wl.splitP; exact rfl; exact rfl; all_goals (intros; try (exfalso; omega))) | (apply Wl.splitB; exact rfl; exact rfl; all_goals intros) | (apply St.condP; exact rfl; all_goals (intros; try (exfalso; omega))) | (apply St.condB; exact rfl; all_goals intros))
      refine ⟨?_, hp.drop (by simp; omega)⟩
      rw [hon, if_neg (by omega)]
    · have ht : decide (a + b < m) = false := by simp [hTm]
      rw [ht]
      repeat' (first | (apply Wl.loadW; exact rfl; exact rfl; (repeat (first | exact List.Mem.head _ | apply List.Mem.tail)); exact rfl) | (apply Wl.not; exact rfl; exact rfl) | (apply Wl.nil) | (apply St.region) | (apply St.condT; exact rfl; (first | with_reducible rfl | with_reducible assumption | decide)) | (apply Gt.next) | (apply Wl.splitP; exact rfl; exact rfl; all_goals (intros; try (exfalso; omega))) | (apply Wl.splitB; exact rfl; exact rfl; all_goals intros) | (apply St.condP; exact rfl; all_goals (intros; try (exfalso; omega))) | (apply St.condB; exact rfl; all_goals intros))
      apply Wl.callQ
      exact rfl
      (repeat (first | exact Evs.nil | apply Evs.cons rfl))
      · intro wq hq
        refine (refTake (a + b) m wq hm hT (by omega)).mono ?_
        rintro e wr ⟨rfl, hr⟩
        exact ⟨rfl, hq.keep hr⟩
      repeat' (first | (apply Wl.sliceArrF (h' := 16); exact rfl; exact rfl; exact rfl; (decide); (decide)) | (apply Wl.sliceToArr; exact rfl; exact rfl; (decide)) | (apply Wl.loadT; exact rfl; exact rfl; (repeat (first | exact List.Mem.head _ | apply List.Mem.tail)); (decide)) | (apply Gt.outN; exact rfl; infer_instance; exact rfl; (repeat (first | exact List.Mem.head _ | apply List.Mem.tail)); exact rfl; intro w' hp) | (apply Wl.storeW; exact rfl; exact rfl; (repeat (first | apply HSet.here | apply HSet.there)); exact rfl; (first | exact cellsN_len _ _ _ | exact rfl)) | (apply Wl.nil) | (apply St.seq) | (apply St.region) | (apply St.ret) | (apply Gt.next) | (apply Wl.splitP; exact rfl; exact rfl; all_goals (intros; try (exfalso; omega))) | (apply Wl.splitB; exact rfl; exact rfl; all_goals intros) | (apply St.condP; exact rfl; all_goals (intros; try (exfalso; omega))) | (apply St.condB; exact rfl; all_goals intros))
      refine ⟨?_, hp.drop (by simp; omega)⟩
      rw [hon, if_pos (by omega)]
theorem z16' : cellsN .u64 16 (fun _ => 0) = cellsN .u64 16 (dg D16 0) := cellsN_congr fun j _ => by unfold dg hi; simp
set_option maxHeartbeats 2000000 in
theorem refReduce (a m : Nat) (w : World) (ha : a < W256) (hm : m < W256) (h0 : 0 < m) :
    Calls Tryd.prog 36 #[num16 a, num16 m] w fun e w' => e = .returned (num16 (a % m)) ∧ Hp w [] w' := by
  refine enter (args := [_, _]) (Γ := [(0, _), (1, _)]) Tryd.func36 Tryd.ntmps36 rfl (of_decide_eq_true rfl) (.cons rfl (.cons rfl .nil)) ?_
  repeat' (first | (apply Wl.boxN; exact rfl; exact rfl; intro c hc ho) | (apply Wl.allocN; exact rfl; (first | exact z8 | exact z16 | exact z17 | exact z33 | exact z10); intro c hc ho) | (apply Wl.assign; exact rfl; exact rfl) | (apply Wl.nil) | (apply St.seq) | (apply St.block) | (apply St.region) | (apply Gt.next) | (apply Wl.splitP; exact rfl; exact rfl; all_goals (intros; try (exfalso; omega))) | (apply Wl.splitB; exact rfl; exact rfl; all_goals intros) | (apply St.condP; exact rfl; all_goals (intros; try (exfalso; omega))) | (apply St.condB; exact rfl; all_goals intros))
  rename_i ca hca hoa cm hcm hom cr hcr hor
  generalize c = cx at *
  have e256 : a / 2 ^ 256 % m = 0 := by
    rw [Nat.div_eq_of_lt (Nat.lt_of_lt_of_eq ha (by decide)), Nat.zero_mod]
  refine St.loop (σ := Nat) (fun n => n ≤ 256)
    (fun n => [(2, mp ca), (3, mp cm), (4, mp cr), (5, mp cx), (6, .int .i64 ((n : Int) - 1))])
    (fun n => Hp w [⟨cx, cellsN .u64 16 (dg D16 (a / 2 ^ n % m)), 37⟩, ⟨cr, cellsN .u64 16 fun _ => 0, 37⟩, ⟨cm, cellsN .u64 16 (dg D16 m), 37⟩, ⟨ca, cellsN .u64 16 (dg D16 a), 37⟩])
    (fun n => n) 256 (Nat.le_refl _) (by (repeat (first | exact Sub.nil | apply Sub.cons rfl))) (fun _ h => by
      show Hp w [⟨cx, cellsN .u64 16 (dg D16 (a / 2 ^ 256 % m)), _⟩, _, _, _] _
      rw [e256, ← z16']; exact h) ?_
  intro n hn
  cases n with
  | zero =>
    rw [Nat.pow_zero, Nat.div_one]
    repeat' (first | (apply Gt.outN; exact rfl; infer_instance; exact rfl; (repeat (first | exact List.Mem.head _ | apply List.Mem.tail)); exact rfl; intro w' hp) | (apply Wl.loadW; exact rfl; exact rfl; (repeat (first | exact List.Mem.head _ | apply List.Mem.tail)); exact rfl) | (apply Wl.storeW; exact rfl; exact rfl; (repeat (first | apply HSet.here | apply HSet.there)); exact rfl; (first | exact cellsN_len _ _ _ | exact rfl)) | (apply Wl.move; exact rfl; exact rfl) | (apply Wl.geq; exact rfl; exact rfl; exact rfl) | (apply Wl.nil) | (apply St.seq) | (apply St.region) | (apply St.condF; exact rfl; (first | with_reducible rfl | with_reducible assumption | decide)) | (apply St.ret) | (apply St.exit) | (apply Gt.next) | (apply Gt.thenExit) | (apply Gt.inExit) | (apply Wl.splitP; exact rfl; exact rfl; all_goals (intros; try (exfalso; omega))) | (apply Wl.splitB; exact rfl; exact rfl; all_goals intros) | (apply St.condP; exact rfl; all_goals (intros; try (exfalso; omega))) | (apply St.condB; exact rfl; all_goals intros))
    exact ⟨rfl, hp.drop (by simp; omega)⟩
  | succ i =>
    have ei : (((i + 1 : Nat) : Int) - 1) = (i : Int) := by omega
    rw [ei]
    have hr := Nat.mod_lt (a / 2 ^ (i + 1)) h0
    have hh := horner a m i
    have hbit := bit_dg16 a i
    have hd := dlt16 a (i / 16)
    have h16 : i / 16 < 16 := by omega
    have hb2 := Nat.mod_lt (a / 2 ^ i) (show 0 < 2 by decide)
    generalize hre : a / 2 ^ (i + 1) % m = r at *
    repeat' (first | (apply Wl.move; exact rfl; exact rfl) | (apply Wl.geq; exact rfl; exact rfl; exact rfl) | (apply Wl.nil) | (apply St.seq) | (apply St.block) | (apply St.region) | (apply St.skip) | (apply Gt.next) | (apply Wl.splitP; exact rfl; exact rfl; all_goals (intros; try (exfalso; omega))) | (apply Wl.splitB; exact rfl; exact rfl; all_goals intros) | (apply St.condP; exact rfl; all_goals (intros; try (exfalso; omega))) | (apply St.condB; exact rfl; all_goals intros))
    refine St.tree (Hp w [_, _, _]) mixed (fun _ h => ⟨Hp.drew h, hpPop (Hp.drew h) (by simp only; omega)⟩) ?_
    refine Mt.pure 1 (by decide +kernel) (by exact rfl) (by exact rfl) (by decide +kernel) (by decide +kernel) ?_
    repeat' (first | (apply Wl.loadW; exact rfl; exact rfl; (repeat (first | exact List.Mem.head _ | apply List.Mem.tail)); exact rfl) | (apply Wl.nilM) | (apply Wl.splitP; exact rfl; exact rfl; all_goals (intros; try (exfalso; omega))) | (apply Wl.splitB; exact rfl; exact rfl; all_goals intros) | (apply St.condP; exact rfl; all_goals (intros; try (exfalso; omega))) | (apply St.condB; exact rfl; all_goals intros))
    apply Mt.back
    refine Mt.pure 2 (by decide +kernel) (by exact rfl) (by exact rfl) (by decide +kernel) (by decide +kernel) ?_
    repeat' (first | (apply Wl.move; exact rfl; exact rfl) | (apply Wl.nilM) | (apply Wl.splitP; exact rfl; exact rfl; all_goals (intros; try (exfalso; omega))) | (apply Wl.splitB; exact rfl; exact rfl; all_goals intros) | (apply St.condP; exact rfl; all_goals (intros; try (exfalso; omega))) | (apply St.condB; exact rfl; all_goals intros))
    apply Mt.back
    refine Mt.pure 3 (by decide +kernel) (by exact rfl) (by exact rfl) (by decide +kernel) (by decide +kernel) ?_
    repeat' (first | (apply Wl.quoN (n := 16); exact rfl; exact rfl; exact rfl; (decide); (first | exact IntWalk.u64_in _ (by omega) | exact IntWalk.i64_in _ (by omega))) | (apply Wl.nilM) | (apply Wl.splitP; exact rfl; exact rfl; all_goals (intros; try (exfalso; omega))) | (apply Wl.splitB; exact rfl; exact rfl; all_goals intros) | (apply St.condP; exact rfl; all_goals (intros; try (exfalso; omega))) | (apply St.condB; exact rfl; all_goals intros))
    apply Mt.back
    refine Mt.pure 4 (by decide +kernel) (by exact rfl) (by exact rfl) (by decide +kernel) (by decide +kernel) ?_
    repeat' (first | (apply Wl.indexA; exact rfl; exact rfl; exact rfl; (omega)) | (apply Wl.nilM) | (apply Wl.splitP; exact rfl; exact rfl; all_goals (intros; try (exfalso; omega))) | (apply Wl.splitB; exact rfl; exact rfl; all_goals intros) | (apply St.condP; exact rfl; all_goals (intros; try (exfalso; omega))) | (apply St.condB; exact rfl; all_goals intros))
    apply Mt.back
    refine Mt.pure 5 (by decide +kernel) (by exact rfl) (by exact rfl) (by decide +kernel) (by decide +kernel) ?_
    repeat' (first | (apply Wl.loadN; exact rfl; exact rfl; (repeat (first | exact List.Mem.head _ | apply List.Mem.tail)); (omega)) | (apply Wl.nilM) | (apply Wl.splitP; exact rfl; exact rfl; all_goals (intros; try (exfalso; omega))) | (apply Wl.splitB; exact rfl; exact rfl; all_goals intros) | (apply St.condP; exact rfl; all_goals (intros; try (exfalso; omega))) | (apply St.condB; exact rfl; all_goals intros))
    apply Mt.back
    refine Mt.pure 6 (by decide +kernel) (by exact rfl) (by exact rfl) (by decide +kernel) (by decide +kernel) ?_
    repeat' (first | (apply Wl.move; exact rfl; exact rfl) | (apply Wl.nilM) | (apply Wl.splitP; exact rfl; exact rfl; all_goals (intros; try (exfalso; omega))) | (apply Wl.splitB; exact rfl; exact rfl; all_goals intros) | (apply St.condP; exact rfl; all_goals (intros; try (exfalso; omega))) | (apply St.condB; exact rfl; all_goals intros))
    apply Mt.back
    refine Mt.pure 7 (by decide +kernel) (by exact rfl) (by exact rfl) (by decide +kernel) (by decide +kernel) ?_
    repeat' (first | (apply Wl.remN (n := 16); exact rfl; exact rfl; exact rfl; (decide)) | (apply Wl.nilM) | (apply Wl.splitP; exact rfl; exact rfl; all_goals (intros; try (exfalso; omega))) | (apply Wl.splitB; exact rfl; exact rfl; all_goals intros) | (apply St.condP; exact rfl; all_goals (intros; try (exfalso; omega))) | (apply St.condB; exact rfl; all_goals intros))
    apply Mt.back
    refine Mt.pure 8 (by decide +kernel) (by exact rfl) (by exact rfl) (by decide +kernel) (by decide +kernel) ?_
    repeat' (first | (apply Wl.shrV; exact rfl; exact rfl; exact rfl; (first | (show _ ≤ 32; omega) | (show _ ≤ 64; omega))) | (apply Wl.nilM) | (apply Wl.splitP; exact rfl; exact rfl; all_goals (intros; try (exfalso; omega))) | (apply Wl.splitB; exact rfl; exact rfl; all_goals intros) | (apply St.condP; exact rfl; all_goals (intros; try (exfalso; omega))) | (apply St.condB; exact rfl; all_goals intros))
    apply Mt.back
    refine Mt.pure 9 (by decide +kernel) (by exact rfl) (by exact rfl) (by decide +kernel) (by decide +kernel) ?_
    repeat' (first | (apply Wl.remN (n := 2); exact rfl; exact rfl; exact rfl; (decide)) | (apply Wl.nilM) | (apply Wl.splitP; exact rfl; exact rfl; all_goals (intros; try (exfalso; omega))) | (apply Wl.splitB; exact rfl; exact rfl; all_goals intros) | (apply St.condP; exact rfl; all_goals (intros; try (exfalso; omega))) | (apply St.condB; exact rfl; all_goals intros))
    apply Mt.back
    refine Mt.eff1 (i := 0) (by decide +kernel) (by exact rfl) ?_
    repeat' (first | (apply Wl.loadW; exact rfl; exact rfl; (repeat (first | exact List.Mem.head _ | apply List.Mem.tail)); exact rfl) | (apply Wl.nil) | (apply Wl.splitP; exact rfl; exact rfl; all_goals (intros; try (exfalso; omega))) | (apply Wl.splitB; exact rfl; exact rfl; all_goals intros) | (apply St.condP; exact rfl; all_goals (intros; try (exfalso; omega))) | (apply St.condB; exact rfl; all_goals intros))
    refine Mt.backE (fun _ h => by first | exact h | exact hpPop h (by simp only; omega)) ?_
    rw [hbit]
    refine Mt.eff1 (i := 10) (by decide +kernel) (by exact rfl) ?_
    apply Wl.callQ
    exact rfl
    (repeat (first | exact Evs.nil | apply Evs.cons rfl))
    · intro wq hq
      refine (refTwice r m (a / 2 ^ i % 2) wq hm hr (by omega)).mono ?_
      rintro e wr ⟨rfl, hr⟩
      exact ⟨rfl, hq.keep hr⟩
    rw [hh]
    repeat' (first | (apply Wl.nil) | (apply Wl.splitP; exact rfl; exact rfl; all_goals (intros; try (exfalso; omega))) | (apply Wl.splitB; exact rfl; exact rfl; all_goals intros) | (apply St.condP; exact rfl; all_goals (intros; try (exfalso; omega))) | (apply St.condB; exact rfl; all_goals intros))
    refine Mt.backE (fun _ h => by first | exact h | exact hpPop h (by simp only; omega)) ?_
    refine Mt.eff1 (i := 11) (by decide +kernel) (by exact rfl) ?_
    repeat' (first | (apply Wl.storeW; exact rfl; exact rfl; (repeat (first | apply HSet.here | apply HSet.there)); exact rfl; (first | exact cellsN_len _ _ _ | exact rfl)) | (apply Wl.nil) | (apply Wl.splitP; exact rfl; exact rfl; all_goals (intros; try (exfalso; omega))) | (apply Wl.splitB; exact rfl; exact rfl; all_goals intros) | (apply St.condP; exact rfl; all_goals (intros; try (exfalso; omega))) | (apply St.condB; exact rfl; all_goals intros))
    refine Mt.backE (fun _ h => by first | exact h | exact hpPop h (by simp only; omega)) ?_
    refine Mt.toGt (by decide +kernel) ?_
    repeat' (first | (apply Wl.move; exact rfl; exact rfl) | (apply Wl.assign; exact rfl; exact rfl) | (apply Wl.subI; exact rfl; exact rfl; exact rfl; (constructor <;> omega)) | (apply Wl.nil) | (apply St.region) | (apply Gt.next) | (apply Gt.inNormal) | (apply Wl.splitP; exact rfl; exact rfl; all_goals (intros; try (exfalso; omega))) | (apply Wl.splitB; exact rfl; exact rfl; all_goals intros) | (apply St.condP; exact rfl; all_goals (intros; try (exfalso; omega))) | (apply St.condB; exact rfl; all_goals intros))
    apply Gt.round i
    rotate_left
    · simp
    · (repeat (first | exact Sub.nil | apply Sub.cons rfl))
    · exact fun _ h => h
    · omega
set_option maxHeartbeats 2000000 in
theorem refR (m : Nat) (w : World) (hm : m < W256) (h1 : 1 < m) :
    Calls Tryd.prog 69 #[num16 m] w fun e w' => e = .returned (num16 (W256 % m)) ∧ Hp w [] w' := by
  refine enter (args := [_]) (Γ := [(0, _)]) Tryd.func69 Tryd.ntmps69 rfl (of_decide_eq_true rfl) (.cons rfl .nil) ?_
  repeat' (first | (apply Wl.loadW; exact rfl; exact rfl; (repeat (first | exact List.Mem.head _ | apply List.Mem.tail)); exact rfl) | (apply Wl.boxN; exact rfl; exact rfl; intro c hc ho) | (apply Wl.buildN; exact rfl; (repeat (first | exact Parts.nil | apply Parts.cons rfl)); (repeat (first | apply Fills.nil | (apply Fills.one; exact rfl; exact rfl; (repeat (first | apply LSet.z | apply LSet.s))) | (apply Fills.agg; exact rfl; exact rfl; (repeat (first | apply LPut.s | apply LPut.z | apply LOver.nil | apply LOver.cons))))); (first | exact one8 | exact zero8 | exact two8 | exact one16)) | (apply Wl.allocN; exact rfl; (first | exact z8 | exact z16 | exact z17 | exact z33 | exact z10); intro c hc ho) | (apply Wl.nil) | (apply St.seq) | (apply St.region) | (apply Gt.next) | (apply Wl.splitP; exact rfl; exact rfl; all_goals (intros; try (exfalso; omega))) | (apply Wl.splitB; exact rfl; exact rfl; all_goals intros) | (apply St.condP; exact rfl; all_goals (intros; try (exfalso; omega))) | (apply St.condB; exact rfl; all_goals intros))
  apply Wl.callQ
  exact rfl
  (repeat (first | exact Evs.nil | apply Evs.cons rfl))
  · intro wq hq
    refine (refReduce 1 m wq (by decide) hm (by omega)).mono ?_
    rintro e wr ⟨rfl, hr⟩
    exact ⟨rfl, hq.keep hr⟩
  repeat' (first | (apply Wl.storeW; exact rfl; exact rfl; (repeat (first | apply HSet.here | apply HSet.there)); exact rfl; (first | exact cellsN_len _ _ _ | exact rfl)) | (apply Wl.allocN; exact rfl; (first | exact z8 | exact z16 | exact z17 | exact z33 | exact z10); intro c hc ho) | (apply Wl.assign; exact rfl; exact rfl) | (apply Wl.nil) | (apply St.seq) | (apply St.block) | (apply St.region) | (apply Gt.next) | (apply Wl.splitP; exact rfl; exact rfl; all_goals (intros; try (exfalso; omega))) | (apply Wl.splitB; exact rfl; exact rfl; all_goals intros) | (apply St.condP; exact rfl; all_goals (intros; try (exfalso; omega))) | (apply St.condB; exact rfl; all_goals intros))
  rename_i ca hca hoa cr hcr hor
  generalize c = cx at *
  refine St.loop (σ := Nat) (fun i => i ≤ 256)
    (fun i => [(1, mp ca), (2, mp cr), (3, mp cx), (4, .int .i64 i)])
    (fun i => Hp w [⟨cx, cellsN .u64 16 (dg D16 (2 ^ i % m)), 37⟩, ⟨cr, cellsN .u64 16 fun _ => 0, 37⟩, ⟨ca, cellsN .u64 16 (dg D16 m), 37⟩])
    (fun i => 256 - i) 0 (by simp) (by (repeat (first | exact Sub.nil | apply Sub.cons rfl))) (fun _ h => h) ?_
  intro i hi
  have hr : 2 ^ i % m < m := Nat.mod_lt _ (by omega)
  have e2 : (2 * (2 ^ i % m) + 0) % m = 2 ^ (i + 1) % m := by rw [Nat.add_zero, Nat.pow_succ', Nat.mul_mod, Nat.mod_mod, ← Nat.mul_mod]
  by_cases hlt : i < 256
  · repeat' (first | (apply Wl.loadW; exact rfl; exact rfl; (repeat (first | exact List.Mem.head _ | apply List.Mem.tail)); exact rfl) | (apply Wl.move; exact rfl; exact rfl) | (apply Wl.lss; exact rfl; exact rfl; exact rfl) | (apply Wl.nil) | (apply St.seq) | (apply St.block) | (apply St.region) | (apply St.skip) | (apply Gt.next) | (apply Wl.splitP; exact rfl; exact rfl; all_goals (intros; try (exfalso; omega))) | (apply Wl.splitB; exact rfl; exact rfl; all_goals intros) | (apply St.condP; exact rfl; all_goals (intros; try (exfalso; omega))) | (apply St.condB; exact rfl; all_goals intros))
    apply Wl.callQ
    exact rfl
    (repeat (first | exact Evs.nil | apply Evs.cons rfl))
    · intro wq hq
      refine (refTwice (2 ^ i % m) m 0 wq hm hr (by decide)).mono ?_
      rintro e wr ⟨rfl, hr⟩
      exact ⟨rfl, hq.keep hr⟩
    rw [e2]
    repeat' (first | (apply Wl.storeW; exact rfl; exact rfl; (repeat (first | apply HSet.here | apply HSet.there)); exact rfl; (first | exact cellsN_len _ _ _ | exact rfl)) | (apply Wl.move; exact rfl; exact rfl) | (apply Wl.assign; exact rfl; exact rfl) | (apply Wl.addI; exact rfl; exact rfl; exact rfl; (constructor <;> omega)) | (apply Wl.nil) | (apply St.region) | (apply Gt.next) | (apply Gt.inNormal) | (apply Wl.splitP; exact rfl; exact rfl; all_goals (intros; try (exfalso; omega))) | (apply Wl.splitB; exact rfl; exact rfl; all_goals intros) | (apply St.condP; exact rfl; all_goals (intros; try (exfalso; omega))) | (apply St.condB; exact rfl; all_goals intros))
    apply Gt.round (i + 1)
    rotate_left
    · omega
    · (repeat (first | exact Sub.nil | apply Sub.cons rfl))
    · exact fun _ h => h
    · omega
  · have hie : i = 256 := by omega
    rw [hie] at *
    repeat' (first | (apply Gt.outN; exact rfl; infer_instance; exact rfl; (repeat (first | exact List.Mem.head _ | apply List.Mem.tail)); exact rfl; intro w' hp) | (apply Wl.loadW; exact rfl; exact rfl; (repeat (first | exact List.Mem.head _ | apply List.Mem.tail)); exact rfl) | (apply Wl.storeW; exact rfl; exact rfl; (repeat (first | apply HSet.here | apply HSet.there)); exact rfl; (first | exact cellsN_len _ _ _ | exact rfl)) | (apply Wl.move; exact rfl; exact rfl) | (apply Wl.lss; exact rfl; exact rfl; exact rfl) | (apply Wl.nil) | (apply St.seq) | (apply St.region) | (apply St.condF; exact rfl; (first | with_reducible rfl | with_reducible assumption | decide)) | (apply St.ret) | (apply St.exit) | (apply Gt.next) | (apply Gt.thenExit) | (apply Gt.inExit) | (apply Wl.splitP; exact rfl; exact rfl; all_goals (intros; try (exfalso; omega))) | (apply Wl.splitB; exact rfl; exact rfl; all_goals intros) | (apply St.condP; exact rfl; all_goals (intros; try (exfalso; omega))) | (apply St.condB; exact rfl; all_goals intros))
    exact ⟨by rw [show W256 = 2 ^ 256 by decide], hp.drop (by simp; omega)⟩
end Go.Proofs.YtfaobdakpbpkbaaDoor
end
section
/-
  porticoref03: Sub, Half, Over. Conditions: numbers are below 2^256, and below the modulus where the document says so.
-/
namespace Go.Pt
theorem own_sub {w : World} {H H' : List Blk} (hs : H'.Sublist H) (h : Own w H) : Own w H' := by
  induction hs with
  | slnil => exact h
  | cons a _ ih => exact ih h.2
  | cons_cons a _ ih => exact ⟨h.1, ih h.2⟩
theorem off_sub {H H' : List Blk} {k : Nat} (hs : H'.Sublist H) (h : Off H k) : Off H' k := by
  induction hs with
  | slnil => exact h
  | cons a _ ih => exact ih h.2
  | cons_cons a _ ih => exact ⟨h.1, ih h.2⟩
theorem apart_sub {H H' : List Blk} (hs : H'.Sublist H) (h : Apart H) : Apart H' := by
  induction hs with
  | slnil => exact h
  | cons a _ ih => exact ih h.2
  | cons_cons a hs ih => exact ⟨off_sub hs h.1, ih h.2⟩
theorem hpSub {w0 w : World} {H H' : List Blk} (h : Hp w0 H w) (hs : H'.Sublist H) (hH : ∀ y ∈ H, w0.heap.size ≤ y.b) : Hp w0 H' w :=
  ⟨h.upd.mono fun k hk hn _ => hn (Off.of fun y hy e => by have := hH y hy; omega), own_sub hs h.own, apart_sub hs h.apart⟩
end Go.Pt
namespace Go.Proofs.YtfaobdakpbpkbaaDoor
open Go.RowKit Go.Pt
end Go.Proofs.YtfaobdakpbpkbaaDoor
end
section
/-
  porticoref03.Mul; porticolaw03.like. Conditions: numbers are below 2^256.
-/
namespace Go.Proofs.YtfaobdakpbpkbaaDoor
open Go.RowKit Go.Pt
/-- the product of the first i digits of a with b -/
def rowV (a b i : Nat) : Nat := (a % D16 ^ i) * b
theorem rowV_lt {a b i : Nat} (hb : b < W256) : rowV a b i < D16 ^ (i + 16) := by
  unfold rowV
  rw [Nat.pow_add, ← W256_eq16]
  exact Nat.mul_lt_mul'' (Nat.mod_lt _ (Nat.pow_pos (by decide))) hb
end Go.Proofs.YtfaobdakpbpkbaaDoor
end
section
/-
  porticolaw03: fit and MontMults. Conditions: none.
-/
namespace Go.Pt
theorem hpSwap {w0 w : World} {x y : Blk} {H : List Blk} (h : Hp w0 (x :: y :: H) w) : Hp w0 (y :: x :: H) w :=
  ⟨h.upd.mono fun k _ hn ho => hn ⟨ho.2.1, ho.1, ho.2.2⟩, ⟨h.own.2.1, h.own.1, h.own.2.2⟩, ⟨⟨fun e => h.apart.1.1 e.symm, h.apart.2.1⟩, h.apart.1.2, h.apart.2.2⟩⟩
theorem Mt.eff3 {P : Program} {ops : Array Oper} {N n : Nat} {Γ : Env} {C D : World → Prop} {Q : Act → World → Prop} {listed : Array Bool} {i j k : Nat} {o o' o'' : Oper} (hr : Region.ready .any ops listed = [i, j, k]) (hi : ops[i]? = some o) (hj : ops[j]? = some o') (hk : ops[k]? = some o'')
    (h : Wl [o] P .seq ops N Γ D (MtE P ops C Q n (listed.setIfInBounds i true))) (h' : Wl [o'] P .seq ops N Γ D (MtE P ops C Q n (listed.setIfInBounds j true))) (h'' : Wl [o''] P .seq ops N Γ D (MtE P ops C Q n (listed.setIfInBounds k true))) : Mt P ops N (n + 1) listed Γ D C Q := fun a w ha hD hC => by
  refine ⟨hC, fun e => (by rw [hr] at e; cases e), fun x hx => ?_⟩
  rw [hr] at hx
  simp only [List.mem_cons, List.not_mem_nil, or_false] at hx
  rcases hx with rfl | rfl | rfl
  · exact Mt.op hi h a w ha hD
  · exact Mt.op hj h' a w ha hD
  · exact Mt.op hk h'' a w ha hD
theorem hpRb {w0 w : World} {H : List Blk} (h : Hp w0 H w) : Hp w H w := ⟨Upd.refl _ _, h.own, h.apart⟩
theorem hpNewer {w0 w w' : World} {H : List Blk} (h : Hp w0 H w) (u : Upd (fun k => w.heap.size ≤ k) w w') : Hp w0 H w' :=
  h.step u (fun x hx hle => by have := h.own.lt hx; omega) (fun k hk hle => by have := h.upd.size; omega)
theorem hpOn {w w1 w2 : World} {H : List Blk} (h : Hp w1 H w2) (hu : Upd (fun k => w.heap.size ≤ k) w w1) (hH : ∀ x ∈ H, w.heap.size ≤ x.b) : Upd (fun k => w.heap.size ≤ k) w w2 :=
  hu.comp h.upd fun j _ hs => hs.elim id fun y => Classical.byContradiction fun hlt => y (Off.of fun x hx e => by have := hH x hx; omega)
theorem hpFin {w w1 w' : World} {H : List Blk} (hp : Hp w1 H w') (hu : Upd (fun k => w.heap.size ≤ k) w w1) (hH : ∀ x ∈ H, w.heap.size ≤ x.b) : Hp w [] w' := hpNewer (hpNil w) (hpOn hp hu hH)
end Go.Pt
namespace Go.Proofs.YtfaobdakpbpkbaaDoor
open Go.RowKit Go.Pt
theorem const8 (v : Nat) (h : v < 4294967296) : [Value.int .u32 (v : Int), .int .u32 0, .int .u32 0, .int .u32 0, .int .u32 0, .int .u32 0, .int .u32 0, .int .u32 0] = cellsN .u32 8 (dg W32 v) := by
  have hz (j : Nat) (hj : 0 < j) : dg W32 v j = 0 := by
    have : v < W32 ^ j := Nat.lt_of_lt_of_le h (Nat.le_self_pow (by omega) W32)
    unfold dg; rw [hi_top this]; rfl
  have h0 : dg W32 v 0 = v := by unfold dg; rw [hi_zero]; exact Nat.mod_eq_of_lt h
  unfold cellsN
  simp [List.range, List.range.loop, hz, h0]
theorem eqT {a b : Nat} (h : a = b) : true = true ↔ ∀ j, j < 8 → dg W32 a j = dg W32 b j := ⟨fun _ _ _ => by rw [h], fun _ => rfl⟩
theorem outIn {m a : Nat} (h : m % 2 = 1) : a * W256 % m * rinv m % m = a % m := by rw [Nat.mod_mul_mod]; exact inW h
end Go.Proofs.YtfaobdakpbpkbaaDoor
end
section
/-
  P-256's two primes: certificates (Pratt), checked by the kernel; Fermat's little theorem for both. Conditions: none.
-/
namespace Go.Proofs.YtfaobdakpbpkbaaDoor.Prim
theorem pigeon : ∀ (n : Nat) (f : Nat → Nat), (∀ i, i < n → f i < n) → (∀ i j, i < n → j < n → f i = f j → i = j) → ∀ y, y < n → ∃ i, i < n ∧ f i = y := by
  intro n
  induction n with
  | zero => intro f _ _ y hy; omega
  | succ n ih =>
    intro f hr hi y hy
    by_cases hn : ∃ i, i < n ∧ f i = n
    · obtain ⟨k, hk, hfk⟩ := hn
      have hfn : f n < n := by
        have h1 := hr n (by omega)
        have h2 : f n ≠ n := fun h => by
          have := hi k n (by omega) (by omega) (by rw [hfk, h])
          omega
        omega
      by_cases hyn : y = n
      · exact ⟨k, by omega, by rw [hfk, hyn]⟩
      · have := ih (fun i => if i = k then f n else f i)
          (fun i hin => by
            split
            · exact hfn
            · have h1 := hr i (by omega)
              have h2 : f i ≠ n := fun h => by
                have := hi i k (by omega) (by omega) (by rw [h, hfk])
                omega
              omega)
          (fun i j hin hjn h => by
            split at h <;> split at h
            · omega
            · have := hi n j (by omega) (by omega) h
              omega
            · have := hi i n (by omega) (by omega) h
              omega
            · exact hi i j (by omega) (by omega) h)
          y (by omega)
        obtain ⟨i, hin, h⟩ := this
        split at h
        · exact ⟨n, by omega, h⟩
        · exact ⟨i, by omega, h⟩
    · have hlt : ∀ i, i < n → f i < n := fun i hin => by
        have h1 := hr i (by omega)
        have h2 : f i ≠ n := fun h => hn ⟨i, hin, h⟩
        omega
      have hsur := ih f hlt (fun i j hin hjn h => hi i j (by omega) (by omega) h)
      by_cases hfn : f n < n
      · obtain ⟨i, hin, h⟩ := hsur (f n) hfn
        have := hi i n (by omega) (by omega) h
        omega
      · have hfn' : f n = n := by have := hr n (by omega); omega
        by_cases hyn : y = n
        · exact ⟨n, by omega, by rw [hfn', hyn]⟩
        · obtain ⟨i, hin, h⟩ := hsur y (by omega)
          exact ⟨i, by omega, h⟩
/-- no proper divisor -/
def Pr (q : Nat) : Prop := 1 < q ∧ ∀ d, d ∣ q → d = 1 ∨ d = q
def prodL : List Nat → Nat
  | [] => 1
  | q :: r => q * prodL r
theorem prime_in {L : List Nat} (h : ∀ q, q ∈ L → Pr q) : ∀ e, e ∣ prodL L → e ≠ 1 → ∃ q, q ∈ L ∧ q ∣ e := by
  induction L with
  | nil => intro e he h1; exact absurd (Nat.dvd_one.mp he) h1
  | cons q r ih =>
    intro e he h1
    by_cases hq : q ∣ e
    · exact ⟨q, .head _, hq⟩
    · have hc : Nat.Coprime e q := by
        have hp := (h q (.head _)).2 (Nat.gcd e q) (Nat.gcd_dvd_right _ _)
        rcases hp with hp | hp
        · exact hp
        · exact absurd (hp ▸ Nat.gcd_dvd_left e q) hq
      obtain ⟨x, hx, hd⟩ := ih (fun q hq => h q (.tail _ hq)) e (hc.dvd_of_dvd_mul_left he) h1
      exact ⟨x, .tail _ hx, hd⟩
theorem one_pow_mod {g m k : Nat} (n : Nat) (h : g ^ k % m = 1 % m) : g ^ (k * n) % m = 1 % m := by
  rw [Nat.pow_mul, Nat.pow_mod, h, ← Nat.pow_mod, Nat.one_pow]
theorem gcd_one {g m : Nat} (a b : Nat) : g ^ a % m = 1 % m → g ^ b % m = 1 % m → g ^ (Nat.gcd a b) % m = 1 % m := by
  induction a, b using Nat.gcd.induction with
  | H0 n => intro _ h; rw [Nat.gcd_zero_left]; exact h
  | H1 a b ha ih =>
    intro h1 h2
    rw [Nat.gcd_rec]
    refine ih ?_ h1
    have e : b = b % a + a * (b / a) := (Nat.mod_add_div b a).symm
    rw [e, Nat.pow_add, Nat.mul_mod, one_pow_mod _ h1, ← Nat.mul_mod, Nat.mul_one] at h2
    exact h2
/-- powers by digits of base 256, from the top -/
def powL (g m : Nat) : List Nat → Nat → Nat
  | [], x => x
  | d :: r, x => powL g m r (x ^ 256 * g ^ d % m)
def valL : List Nat → Nat → Nat
  | [], x => x
  | d :: r, x => valL r (x * 256 + d)
theorem powL_val (g m : Nat) : ∀ (l : List Nat) (e : Nat), powL g m l (g ^ e % m) = g ^ valL l e % m := by
  intro l
  induction l with
  | nil => intro e; rfl
  | cons d r ih =>
    intro e
    rw [powL, valL, ← ih]
    congr 1
    rw [Nat.mul_mod, ← Nat.pow_mod, ← Nat.mul_mod, ← Nat.pow_mul, ← Nat.pow_add]
/-- the multiplicative order of g is m - 1 -/
def Gen (g m : Nat) : Prop := 1 < m ∧ g ^ (m - 1) % m = 1 ∧ ∀ k, 0 < k → k < m - 1 → g ^ k % m ≠ 1
theorem gen_of {g m : Nat} {L : List Nat} (h1 : 1 < m) (hL : ∀ q, q ∈ L → Pr q) (hp : prodL L = m - 1) (hf : g ^ (m - 1) % m = 1) (hn : ∀ q, q ∈ L → g ^ ((m - 1) / q) % m ≠ 1) : Gen g m := by
  refine ⟨h1, hf, fun k hk hkm h => ?_⟩
  have e1 : 1 % m = 1 := Nat.mod_eq_of_lt h1
  have hg := gcd_one (g := g) (m := m) k (m - 1) (by rw [h, e1]) (by rw [hf, e1])
  have hd : Nat.gcd k (m - 1) ∣ m - 1 := Nat.gcd_dvd_right _ _
  have hle : Nat.gcd k (m - 1) ≤ k := Nat.gcd_le_left _ hk
  generalize Nat.gcd k (m - 1) = d at *
  obtain ⟨e, he⟩ := hd
  have hd0 : 0 < d := Nat.pos_of_ne_zero fun h0 => by rw [h0, Nat.zero_mul] at he; omega
  have he1 : e ≠ 1 := fun h0 => by rw [h0, Nat.mul_one] at he; omega
  obtain ⟨q, hq, x, hx⟩ := prime_in hL e (by rw [hp, he]; exact Nat.dvd_mul_left _ _) he1
  have hq1 := (hL q hq).1
  apply hn q hq
  have e2 : (m - 1) / q = d * x := by rw [he, hx, show d * (q * x) = q * (d * x) by rw [Nat.mul_left_comm], Nat.mul_div_cancel_left _ (by omega)]
  rw [e2, one_pow_mod _ hg, e1]
theorem gen_all {g m : Nat} (h : Gen g m) (a : Nat) (ha : 0 < a) (ham : a < m) : ∃ k, k < m - 1 ∧ g ^ k % m = a := by
  obtain ⟨h1, hf, hn⟩ := h
  have h1m : 1 % m = 1 := Nat.mod_eq_of_lt h1
  have hpos : ∀ i, i < m - 1 → 0 < g ^ i % m := fun i hi => Nat.pos_of_ne_zero fun h0 => by
    have e : g ^ (m - 1) = g ^ i * g ^ (m - 1 - i) := by rw [← Nat.pow_add]; congr 1; omega
    rw [e, Nat.mul_mod, h0, Nat.zero_mul, Nat.zero_mod] at hf
    omega
  have hinj : ∀ i j, i < j → j < m - 1 → g ^ i % m = g ^ j % m → False := fun i j hij hj h => by
    apply hn (m - 1 - j + i) (by omega) (by omega)
    rw [Nat.pow_add, Nat.mul_mod, h, ← Nat.mul_mod, ← Nat.pow_add, show m - 1 - j + j = m - 1 by omega, hf]
  obtain ⟨k, hk, hka⟩ := pigeon (m - 1) (fun i => g ^ i % m - 1)
    (fun i hi => by have := Nat.mod_lt (g ^ i) (show 0 < m by omega); omega)
    (fun i j hi hj h => by
      have hp1 := hpos i hi
      have hp2 := hpos j hj
      rcases Nat.lt_trichotomy i j with hlt | heq | hgt
      · exact (hinj i j hlt hj (by omega)).elim
      · exact heq
      · exact (hinj j i hgt hi (by omega)).elim)
    (a - 1) (by omega)
  have := hpos k hk
  exact ⟨k, hk, by omega⟩
theorem gen_prime {g m : Nat} (h : Gen g m) : Pr m := by
  refine ⟨h.1, fun d hd => ?_⟩
  by_cases hdm : d = m
  · exact .inr hdm
  · left
    have h1 := h.1
    have hd0 : 0 < d := Nat.pos_of_dvd_of_pos hd (by omega)
    have hle := Nat.le_of_dvd (by omega) hd
    obtain ⟨k, hk, hka⟩ := gen_all h d hd0 (by omega)
    have e : g ^ (m - 1) = g ^ k * g ^ (m - 1 - k) := by rw [← Nat.pow_add]; congr 1; omega
    have hf := h.2.1
    rw [e, Nat.mul_mod, hka] at hf
    have hdd : d ∣ d * (g ^ (m - 1 - k) % m) % m := (Nat.dvd_mod_iff hd).mpr (Nat.dvd_mul_right _ _)
    rw [hf] at hdd
    exact Nat.dvd_one.mp hdd
/-- Fermat's little theorem, from a generator -/
theorem gen_fermat {g m : Nat} (h : Gen g m) (a : Nat) (ha : a % m ≠ 0) : a ^ (m - 1) % m = 1 := by
  have h1 := h.1
  have h1m : 1 % m = 1 := Nat.mod_eq_of_lt h1
  obtain ⟨k, _, hk⟩ := gen_all h (a % m) (by omega) (Nat.mod_lt _ (by omega))
  rw [Nat.pow_mod, ← hk, ← Nat.pow_mod, ← Nat.pow_mul, Nat.mul_comm, one_pow_mod _ (by rw [h.2.1, h1m]), h1m]
/-- a certificate as a check: digits of m - 1 and of its parts -/
def certOk (g m : Nat) (top : List Nat) (L : List (Nat × List Nat)) : Bool :=
  Nat.blt 1 m && Nat.beq (valL top 0) (m - 1) && Nat.beq (powL g m top (1 % m)) 1 &&
  L.all fun x => Nat.beq (valL x.2 0) ((m - 1) / x.1) && !(Nat.beq (powL g m x.2 (1 % m)) 1)
theorem cert {g m : Nat} {top : List Nat} {L : List (Nat × List Nat)} {F : List Nat} (h : certOk g m top L = true) (hF : ∀ q, q ∈ F → Pr q) (hL : ∀ q, q ∈ F → q ∈ L.map Prod.fst) (hp : prodL F = m - 1) : Gen g m := by
  simp only [certOk, Bool.and_eq_true, List.all_eq_true, Bool.not_eq_true', Nat.blt_eq] at h
  obtain ⟨⟨⟨h1, hv⟩, ht⟩, ha⟩ := h
  have e0 : ∀ l, powL g m l (1 % m) = g ^ valL l 0 % m := fun l => by rw [← powL_val, Nat.pow_zero]
  refine gen_of h1 hF hp (by rw [← Nat.eq_of_beq_eq_true hv, ← e0, Nat.eq_of_beq_eq_true ht]) (fun q hq => ?_)
  obtain ⟨⟨q', l⟩, hm, rfl⟩ := List.mem_map.mp (hL q hq)
  have := ha _ hm
  simp only at this ⊢
  rw [← Nat.eq_of_beq_eq_true this.1, ← e0]
  exact Nat.ne_of_beq_eq_false this.2
theorem pn : ∀ q, q ∈ ([] : List Nat) → Pr q := fun _ h => nomatch h
theorem pc {a : Nat} {r : List Nat} (h : Pr a) (hr : ∀ q, q ∈ r → Pr q) : ∀ q, q ∈ a :: r → Pr q := fun q hq => (List.mem_cons.mp hq).elim (fun e => e ▸ h) (hr q)
theorem p2 : Pr 2 := ⟨by decide, fun d hd => by
  have := Nat.le_of_dvd (by decide) hd
  have h0 : 0 < d := Nat.pos_of_dvd_of_pos hd (by decide)
  omega⟩
theorem g3 : Gen 2 3 := cert (top := [2]) (L := [(2, [1])]) (F := [2]) (by decide +kernel) (pc p2 pn) (by decide +kernel) (by decide +kernel)
theorem p3 : Pr 3 := gen_prime g3
theorem g5 : Gen 2 5 := cert (top := [4]) (L := [(2, [2])]) (F := [2, 2]) (by decide +kernel) (pc p2 (pc p2 pn)) (by decide +kernel) (by decide +kernel)
theorem p5 : Pr 5 := gen_prime g5
theorem g17 : Gen 3 17 := cert (top := [16]) (L := [(2, [8])]) (F := [2, 2, 2, 2]) (by decide +kernel) (pc p2 (pc p2 (pc p2 (pc p2 pn)))) (by decide +kernel) (by decide +kernel)
theorem p17 : Pr 17 := gen_prime g17
theorem g257 : Gen 3 257 := cert (top := [1, 0]) (L := [(2, [128])]) (F := [2, 2, 2, 2, 2, 2, 2, 2]) (by decide +kernel) (pc p2 (pc p2 (pc p2 (pc p2 (pc p2 (pc p2 (pc p2 (pc p2 pn)))))))) (by decide +kernel) (by decide +kernel)
theorem p257 : Pr 257 := gen_prime g257
theorem g641 : Gen 3 641 := cert (top := [2, 128]) (L := [(2, [1, 64]), (5, [128])]) (F := [2, 2, 2, 2, 2, 2, 2, 5]) (by decide +kernel) (pc p2 (pc p2 (pc p2 (pc p2 (pc p2 (pc p2 (pc p2 (pc p5 pn)))))))) (by decide +kernel) (by decide +kernel)
theorem p641 : Pr 641 := gen_prime g641
theorem g1531 : Gen 2 1531 := cert (top := [5, 250]) (L := [(2, [2, 253]), (3, [1, 254]), (5, [1, 50]), (17, [90])]) (F := [2, 3, 3, 5, 17]) (by decide +kernel) (pc p2 (pc p3 (pc p3 (pc p5 (pc p17 pn))))) (by decide +kernel) (by decide +kernel)
theorem p1531 : Pr 1531 := gen_prime g1531
theorem g65537 : Gen 3 65537 := cert (top := [1, 0, 0]) (L := [(2, [128, 0])]) (F := [2, 2, 2, 2, 2, 2, 2, 2, 2, 2, 2, 2, 2, 2, 2, 2]) (by decide +kernel) (pc p2 (pc p2 (pc p2 (pc p2 (pc p2 (pc p2 (pc p2 (pc p2 (pc p2 (pc p2 (pc p2 (pc p2 (pc p2 (pc p2 (pc p2 (pc p2 pn)))))))))))))))) (by decide +kernel) (by decide +kernel)
theorem p65537 : Pr 65537 := gen_prime g65537
theorem g7 : Gen 3 7 := cert (top := [6]) (L := [(2, [3]), (3, [2])]) (F := [2, 3]) (by decide +kernel) (pc p2 (pc p3 pn)) (by decide +kernel) (by decide +kernel)
theorem p7 : Pr 7 := gen_prime g7
theorem g13 : Gen 2 13 := cert (top := [12]) (L := [(2, [6]), (3, [4])]) (F := [2, 2, 3]) (by decide +kernel) (pc p2 (pc p2 (pc p3 pn))) (by decide +kernel) (by decide +kernel)
theorem p13 : Pr 13 := gen_prime g13
theorem g53 : Gen 2 53 := cert (top := [52]) (L := [(2, [26]), (13, [4])]) (F := [2, 2, 13]) (by decide +kernel) (pc p2 (pc p2 (pc p13 pn))) (by decide +kernel) (by decide +kernel)
theorem p53 : Pr 53 := gen_prime g53
theorem g11 : Gen 2 11 := cert (top := [10]) (L := [(2, [5]), (5, [2])]) (F := [2, 5]) (by decide +kernel) (pc p2 (pc p5 pn)) (by decide +kernel) (by decide +kernel)
theorem p11 : Pr 11 := gen_prime g11
theorem g661 : Gen 2 661 := cert (top := [2, 148]) (L := [(2, [1, 74]), (3, [220]), (5, [132]), (11, [60])]) (F := [2, 2, 3, 5, 11]) (by decide +kernel) (pc p2 (pc p2 (pc p3 (pc p5 (pc p11 pn))))) (by decide +kernel) (by decide +kernel)
theorem p661 : Pr 661 := gen_prime g661
theorem g490463 : Gen 14 490463 := cert (top := [7, 123, 222]) (L := [(2, [3, 189, 239]), (7, [1, 17, 178]), (53, [36, 38]), (661, [2, 230])]) (F := [2, 7, 53, 661]) (by decide +kernel) (pc p2 (pc p7 (pc p53 (pc p661 pn)))) (by decide +kernel) (by decide +kernel)
theorem p490463 : Pr 490463 := gen_prime g490463
theorem g727 : Gen 5 727 := cert (top := [2, 214]) (L := [(2, [1, 107]), (3, [242]), (11, [66])]) (F := [2, 3, 11, 11]) (by decide +kernel) (pc p2 (pc p3 (pc p11 (pc p11 pn)))) (by decide +kernel) (by decide +kernel)
theorem p727 : Pr 727 := gen_prime g727
theorem g17449 : Gen 14 17449 := cert (top := [68, 40]) (L := [(2, [34, 20]), (3, [22, 184]), (727, [24])]) (F := [2, 2, 2, 3, 727]) (by decide +kernel) (pc p2 (pc p2 (pc p2 (pc p3 (pc p727 pn))))) (by decide +kernel) (by decide +kernel)
theorem p17449 : Pr 17449 := gen_prime g17449
theorem g6700417 : Gen 5 6700417 := cert (top := [102, 61, 128]) (L := [(2, [51, 30, 192]), (3, [34, 20, 128]), (17449, [1, 128])]) (F := [2, 2, 2, 2, 2, 2, 2, 3, 17449]) (by decide +kernel) (pc p2 (pc p2 (pc p2 (pc p2 (pc p2 (pc p2 (pc p2 (pc p3 (pc p17449 pn))))))))) (by decide +kernel) (by decide +kernel)
theorem p6700417 : Pr 6700417 := gen_prime g6700417
theorem g241 : Gen 7 241 := cert (top := [240]) (L := [(2, [120]), (3, [80]), (5, [48])]) (F := [2, 2, 2, 2, 3, 5]) (by decide +kernel) (pc p2 (pc p2 (pc p2 (pc p2 (pc p3 (pc p5 pn)))))) (by decide +kernel) (by decide +kernel)
theorem p241 : Pr 241 := gen_prime g241
theorem g2411 : Gen 6 2411 := cert (top := [9, 106]) (L := [(2, [4, 181]), (5, [1, 226]), (241, [10])]) (F := [2, 5, 241]) (by decide +kernel) (pc p2 (pc p5 (pc p241 pn))) (by decide +kernel) (by decide +kernel)
theorem p2411 : Pr 2411 := gen_prime g2411
theorem g23 : Gen 5 23 := cert (top := [22]) (L := [(2, [11]), (11, [2])]) (F := [2, 11]) (by decide +kernel) (pc p2 (pc p11 pn)) (by decide +kernel) (by decide +kernel)
theorem p23 : Pr 23 := gen_prime g23
theorem g107 : Gen 2 107 := cert (top := [106]) (L := [(2, [53]), (53, [2])]) (F := [2, 53]) (by decide +kernel) (pc p2 (pc p53 pn)) (by decide +kernel) (by decide +kernel)
theorem p107 : Pr 107 := gen_prime g107
theorem g157 : Gen 5 157 := cert (top := [156]) (L := [(2, [78]), (3, [52]), (13, [12])]) (F := [2, 2, 3, 13]) (by decide +kernel) (pc p2 (pc p2 (pc p3 (pc p13 pn)))) (by decide +kernel) (by decide +kernel)
theorem p157 : Pr 157 := gen_prime g157
theorem g3769 : Gen 7 3769 := cert (top := [14, 184]) (L := [(2, [7, 92]), (3, [4, 232]), (157, [24])]) (F := [2, 2, 2, 3, 157]) (by decide +kernel) (pc p2 (pc p2 (pc p2 (pc p3 (pc p157 pn))))) (by decide +kernel) (by decide +kernel)
theorem p3769 : Pr 3769 := gen_prime g3769
theorem g204061199 : Gen 11 204061199 := cert (top := [12, 41, 186, 14]) (L := [(2, [6, 20, 221, 7]), (11, [1, 27, 16, 234]), (23, [135, 97, 34]), (107, [29, 25, 170]), (3769, [211, 126])]) (F := [2, 11, 23, 107, 3769]) (by decide +kernel) (pc p2 (pc p11 (pc p23 (pc p107 (pc p3769 pn))))) (by decide +kernel) (by decide +kernel)
theorem p204061199 : Pr 204061199 := gen_prime g204061199
theorem g34282281433 : Gen 17 34282281433 := cert (top := [7, 251, 98, 25, 216]) (L := [(2, [3, 253, 177, 12, 236]), (3, [2, 169, 32, 179, 72]), (7, [1, 35, 233, 113, 104]), (204061199, [168])]) (F := [2, 2, 2, 3, 7, 204061199]) (by decide +kernel) (pc p2 (pc p2 (pc p2 (pc p3 (pc p7 (pc p204061199 pn)))))) (by decide +kernel) (by decide +kernel)
theorem p34282281433 : Pr 34282281433 := gen_prime g34282281433
theorem g43 : Gen 3 43 := cert (top := [42]) (L := [(2, [21]), (3, [14]), (7, [6])]) (F := [2, 3, 7]) (by decide +kernel) (pc p2 (pc p3 (pc p7 pn))) (by decide +kernel) (by decide +kernel)
theorem p43 : Pr 43 := gen_prime g43
theorem g173 : Gen 2 173 := cert (top := [172]) (L := [(2, [86]), (43, [4])]) (F := [2, 2, 43]) (by decide +kernel) (pc p2 (pc p2 (pc p43 pn))) (by decide +kernel) (by decide +kernel)
theorem p173 : Pr 173 := gen_prime g173
theorem g197 : Gen 2 197 := cert (top := [196]) (L := [(2, [98]), (7, [28])]) (F := [2, 2, 7, 7]) (by decide +kernel) (pc p2 (pc p2 (pc p7 (pc p7 pn)))) (by decide +kernel) (by decide +kernel)
theorem p197 : Pr 197 := gen_prime g197
theorem g919 : Gen 7 919 := cert (top := [3, 150]) (L := [(2, [1, 203]), (3, [1, 50]), (17, [54])]) (F := [2, 3, 3, 3, 17]) (by decide +kernel) (pc p2 (pc p3 (pc p3 (pc p3 (pc p17 pn))))) (by decide +kernel) (by decide +kernel)
theorem p919 : Pr 919 := gen_prime g919
theorem g3677 : Gen 2 3677 := cert (top := [14, 92]) (L := [(2, [7, 46]), (919, [4])]) (F := [2, 2, 919]) (by decide +kernel) (pc p2 (pc p2 (pc p919 pn))) (by decide +kernel) (by decide +kernel)
theorem p3677 : Pr 3677 := gen_prime g3677
theorem g66417393611 : Gen 6 66417393611 := cert (top := [15, 118, 200, 255, 202]) (L := [(2, [7, 187, 100, 127, 229]), (5, [3, 23, 193, 204, 194]), (53, [74, 177, 173, 226]), (173, [22, 226, 22, 50]), (197, [20, 24, 105, 66]), (3677, [1, 19, 158, 82])]) (F := [2, 5, 53, 173, 197, 3677]) (by decide +kernel) (pc p2 (pc p5 (pc p53 (pc p173 (pc p197 (pc p3677 pn)))))) (by decide +kernel) (by decide +kernel)
theorem p66417393611 : Pr 66417393611 := gen_prime g66417393611
theorem g11290956913871 : Gen 13 11290956913871 := cert (top := [10, 68, 225, 121, 220, 206]) (L := [(2, [5, 34, 112, 188, 238, 103]), (5, [2, 13, 198, 177, 248, 246]), (17, [154, 163, 217, 253, 238]), (66417393611, [170])]) (F := [2, 5, 17, 66417393611]) (by decide +kernel) (pc p2 (pc p5 (pc p17 (pc p66417393611 pn)))) (by decide +kernel) (by decide +kernel)
theorem p11290956913871 : Pr 11290956913871 := gen_prime g11290956913871
theorem g757 : Gen 2 757 := cert (top := [2, 244]) (L := [(2, [1, 122]), (3, [252]), (7, [108])]) (F := [2, 2, 3, 3, 3, 7]) (by decide +kernel) (pc p2 (pc p2 (pc p3 (pc p3 (pc p3 (pc p7 pn)))))) (by decide +kernel) (by decide +kernel)
theorem p757 : Pr 757 := gen_prime g757
theorem g18169 : Gen 11 18169 := cert (top := [70, 248]) (L := [(2, [35, 124]), (3, [23, 168]), (757, [24])]) (F := [2, 2, 2, 3, 757]) (by decide +kernel) (pc p2 (pc p2 (pc p2 (pc p3 (pc p757 pn))))) (by decide +kernel) (by decide +kernel)
theorem p18169 : Pr 18169 := gen_prime g18169
theorem g181 : Gen 2 181 := cert (top := [180]) (L := [(2, [90]), (3, [60]), (5, [36])]) (F := [2, 2, 3, 3, 5]) (by decide +kernel) (pc p2 (pc p2 (pc p3 (pc p3 (pc p5 pn))))) (by decide +kernel) (by decide +kernel)
theorem p181 : Pr 181 := gen_prime g181
theorem g1087 : Gen 3 1087 := cert (top := [4, 62]) (L := [(2, [2, 31]), (3, [1, 106]), (181, [6])]) (F := [2, 3, 181]) (by decide +kernel) (pc p2 (pc p3 (pc p181 pn))) (by decide +kernel) (by decide +kernel)
theorem p1087 : Pr 1087 := gen_prime g1087
theorem g4349 : Gen 2 4349 := cert (top := [16, 252]) (L := [(2, [8, 126]), (1087, [4])]) (F := [2, 2, 1087]) (by decide +kernel) (pc p2 (pc p2 (pc p1087 pn))) (by decide +kernel) (by decide +kernel)
theorem p4349 : Pr 4349 := gen_prime g4349
theorem g78283 : Gen 3 78283 := cert (top := [1, 49, 202]) (L := [(2, [152, 229]), (3, [101, 238]), (4349, [18])]) (F := [2, 3, 3, 4349]) (by decide +kernel) (pc p2 (pc p3 (pc p3 (pc p4349 pn)))) (by decide +kernel) (by decide +kernel)
theorem p78283 : Pr 78283 := gen_prime g78283
theorem g313 : Gen 10 313 := cert (top := [1, 56]) (L := [(2, [156]), (3, [104]), (13, [24])]) (F := [2, 2, 2, 3, 13]) (by decide +kernel) (pc p2 (pc p2 (pc p2 (pc p3 (pc p13 pn))))) (by decide +kernel) (by decide +kernel)
theorem p313 : Pr 313 := gen_prime g313
theorem g704251 : Gen 2 704251 := cert (top := [10, 190, 250]) (L := [(2, [5, 95, 125]), (3, [3, 148, 254]), (5, [2, 38, 50]), (313, [8, 202])]) (F := [2, 3, 3, 5, 5, 5, 313]) (by decide +kernel) (pc p2 (pc p3 (pc p3 (pc p5 (pc p5 (pc p5 (pc p313 pn))))))) (by decide +kernel) (by decide +kernel)
theorem p704251 : Pr 704251 := gen_prime g704251
theorem g46076956964474543 : Gen 5 46076956964474543 := cert (top := [163, 178, 191, 140, 50, 206, 174]) (L := [(2, [81, 217, 95, 198, 25, 103, 87]), (23, [7, 30, 8, 84, 2, 53, 130]), (18169, [2, 78, 118, 154, 73, 158]), (78283, [137, 10, 249, 254, 74]), (704251, [15, 59, 191, 52, 170])]) (F := [2, 23, 18169, 78283, 704251]) (by decide +kernel) (pc p2 (pc p23 (pc p18169 (pc p78283 (pc p704251 pn))))) (by decide +kernel) (by decide +kernel)
theorem p46076956964474543 : Pr 46076956964474543 := gen_prime g46076956964474543
theorem g774023187263532362759620327192479577272145303 : Gen 3 774023187263532362759620327192479577272145303 := cert (top := [34, 181, 89, 181, 200, 22, 174, 0, 242, 55, 142, 24, 223, 56, 197, 65, 14, 213, 150]) (L := [(2, [17, 90, 172, 218, 228, 11, 87, 0, 121, 27, 199, 12, 111, 156, 98, 160, 135, 106, 203]), (3, [11, 145, 200, 145, 237, 92, 228, 170, 251, 103, 218, 8, 74, 104, 65, 192, 90, 71, 50]), (2411, [3, 175, 114, 83, 56, 208, 210, 114, 252, 187, 65, 25, 65, 218, 235, 55, 56, 66]), (34282281433, [4, 89, 45, 160, 193, 233, 52, 17, 102, 185, 160, 172, 144, 254, 134]), (11290956913871, [3, 97, 65, 8, 239, 192, 5, 57, 229, 53, 197, 4, 210, 138]), (46076956964474543, [54, 71, 98, 26, 12, 133, 177, 21, 10, 208, 25, 74])]) (F := [2, 3, 3, 2411, 34282281433, 11290956913871, 46076956964474543]) (by decide +kernel) (pc p2 (pc p3 (pc p3 (pc p2411 (pc p34282281433 (pc p11290956913871 (pc p46076956964474543 pn))))))) (by decide +kernel) (by decide +kernel)
theorem p774023187263532362759620327192479577272145303 : Pr 774023187263532362759620327192479577272145303 := gen_prime g774023187263532362759620327192479577272145303
theorem g835945042244614951780389953367877943453916927241 : Gen 11 835945042244614951780389953367877943453916927241 := cert (top := [146, 109, 18, 118, 228, 31, 174, 19, 253, 218, 95, 120, 237, 183, 128, 42, 118, 149, 21, 8]) (L := [(2, [73, 54, 137, 59, 114, 15, 215, 9, 254, 237, 47, 188, 118, 219, 192, 21, 59, 74, 138, 132]), (3, [48, 207, 6, 39, 161, 95, 228, 177, 84, 158, 31, 210, 249, 231, 213, 99, 124, 220, 92, 88]), (5, [29, 73, 3, 177, 96, 211, 34, 208, 204, 94, 223, 228, 252, 87, 230, 110, 228, 132, 55, 104]), (774023187263532362759620327192479577272145303, [4, 56])]) (F := [2, 2, 2, 3, 3, 3, 5, 774023187263532362759620327192479577272145303]) (by decide +kernel) (pc p2 (pc p2 (pc p2 (pc p3 (pc p3 (pc p3 (pc p5 (pc p774023187263532362759620327192479577272145303 pn)))))))) (by decide +kernel) (by decide +kernel)
theorem p835945042244614951780389953367877943453916927241 : Pr 835945042244614951780389953367877943453916927241 := gen_prime g835945042244614951780389953367877943453916927241
theorem g115792089210356248762697446949407573530086143415290314195533631308867097853951 : Gen 6 115792089210356248762697446949407573530086143415290314195533631308867097853951 := cert (top := [255, 255, 255, 255, 0, 0, 0, 1, 0, 0, 0, 0, 0, 0, 0, 0, 0, 0, 0, 0, 255, 255, 255, 255, 255, 255, 255, 255, 255, 255, 255, 254]) (L := [(2, [127, 255, 255, 255, 128, 0, 0, 0, 128, 0, 0, 0, 0, 0, 0, 0, 0, 0, 0, 0, 127, 255, 255, 255, 255, 255, 255, 255, 255, 255, 255, 255]), (3, [85, 85, 85, 85, 0, 0, 0, 0, 85, 85, 85, 85, 85, 85, 85, 85, 85, 85, 85, 85, 170, 170, 170, 170, 170, 170, 170, 170, 170, 170, 170, 170]), (5, [51, 51, 51, 51, 0, 0, 0, 0, 51, 51, 51, 51, 51, 51, 51, 51, 51, 51, 51, 51, 102, 102, 102, 102, 102, 102, 102, 102, 102, 102, 102, 102]), (17, [15, 15, 15, 15, 0, 0, 0, 0, 15, 15, 15, 15, 15, 15, 15, 15, 15, 15, 15, 15, 30, 30, 30, 30, 30, 30, 30, 30, 30, 30, 30, 30]), (257, [255, 0, 255, 0, 0, 0, 0, 0, 255, 0, 255, 0, 255, 0, 255, 0, 255, 0, 255, 1, 254, 1, 254, 1, 254, 1, 254, 1, 254, 1, 254]), (641, [102, 61, 128, 255, 51, 132, 254, 1, 50, 184, 130, 254, 205, 71, 125, 1, 50, 184, 130, 255, 51, 132, 254, 0, 204, 123, 1, 255, 51, 132, 254]), (1531, [42, 206, 86, 157, 88, 116, 96, 251, 167, 11, 52, 0, 171, 57, 90, 118, 13, 10, 222, 100, 40, 204, 170, 142, 33, 27, 150, 253, 211, 133, 154]), (65537, [255, 255, 0, 0, 0, 0, 0, 0, 255, 255, 0, 0, 255, 255, 0, 0, 255, 255, 0, 1, 255, 254, 0, 1, 255, 254, 0, 1, 255, 254]), (490463, [34, 52, 247, 6, 66, 62, 222, 156, 141, 98, 162, 179, 111, 217, 181, 150, 59, 232, 46, 22, 78, 37, 107, 205, 20, 128, 56, 47, 255, 194]), (6700417, [2, 128, 255, 255, 250, 254, 0, 0, 7, 130, 255, 255, 248, 125, 0, 0, 7, 130, 255, 255, 250, 254, 0, 0, 5, 1, 255, 255, 250, 254]), (835945042244614951780389953367877943453916927241, [1, 191, 146, 18, 113, 255, 255, 255, 254, 64, 109, 237, 142])]) (F := [2, 3, 5, 5, 17, 257, 641, 1531, 65537, 490463, 6700417, 835945042244614951780389953367877943453916927241]) (by decide +kernel) (pc p2 (pc p3 (pc p5 (pc p5 (pc p17 (pc p257 (pc p641 (pc p1531 (pc p65537 (pc p490463 (pc p6700417 (pc p835945042244614951780389953367877943453916927241 pn)))))))))))) (by decide +kernel) (by decide +kernel)
theorem p115792089210356248762697446949407573530086143415290314195533631308867097853951 : Pr 115792089210356248762697446949407573530086143415290314195533631308867097853951 := gen_prime g115792089210356248762697446949407573530086143415290314195533631308867097853951
theorem g71 : Gen 7 71 := cert (top := [70]) (L := [(2, [35]), (5, [14]), (7, [10])]) (F := [2, 5, 7]) (by decide +kernel) (pc p2 (pc p5 (pc p7 pn))) (by decide +kernel) (by decide +kernel)
theorem p71 : Pr 71 := gen_prime g71
theorem g131 : Gen 2 131 := cert (top := [130]) (L := [(2, [65]), (5, [26]), (13, [10])]) (F := [2, 5, 13]) (by decide +kernel) (pc p2 (pc p5 (pc p13 pn))) (by decide +kernel) (by decide +kernel)
theorem p131 : Pr 131 := gen_prime g131
theorem g31 : Gen 3 31 := cert (top := [30]) (L := [(2, [15]), (3, [10]), (5, [6])]) (F := [2, 3, 5]) (by decide +kernel) (pc p2 (pc p3 (pc p5 pn))) (by decide +kernel) (by decide +kernel)
theorem p31 : Pr 31 := gen_prime g31
theorem g373 : Gen 2 373 := cert (top := [1, 116]) (L := [(2, [186]), (3, [124]), (31, [12])]) (F := [2, 2, 3, 31]) (by decide +kernel) (pc p2 (pc p2 (pc p3 (pc p31 pn)))) (by decide +kernel) (by decide +kernel)
theorem p373 : Pr 373 := gen_prime g373
theorem g3407 : Gen 5 3407 := cert (top := [13, 78]) (L := [(2, [6, 167]), (13, [1, 6]), (131, [26])]) (F := [2, 13, 131]) (by decide +kernel) (pc p2 (pc p13 (pc p131 pn))) (by decide +kernel) (by decide +kernel)
theorem p3407 : Pr 3407 := gen_prime g3407
theorem g37 : Gen 2 37 := cert (top := [36]) (L := [(2, [18]), (3, [12])]) (F := [2, 2, 3, 3]) (by decide +kernel) (pc p2 (pc p2 (pc p3 (pc p3 pn)))) (by decide +kernel) (by decide +kernel)
theorem p37 : Pr 37 := gen_prime g37
theorem g9547 : Gen 2 9547 := cert (top := [37, 74]) (L := [(2, [18, 165]), (3, [12, 110]), (37, [1, 2]), (43, [222])]) (F := [2, 3, 37, 43]) (by decide +kernel) (pc p2 (pc p3 (pc p37 (pc p43 pn)))) (by decide +kernel) (by decide +kernel)
theorem p9547 : Pr 9547 := gen_prime g9547
theorem g38189 : Gen 2 38189 := cert (top := [149, 44]) (L := [(2, [74, 150]), (9547, [4])]) (F := [2, 2, 9547]) (by decide +kernel) (pc p2 (pc p2 (pc p9547 pn))) (by decide +kernel) (by decide +kernel)
theorem p38189 : Pr 38189 := gen_prime g38189
theorem g19 : Gen 2 19 := cert (top := [18]) (L := [(2, [9]), (3, [6])]) (F := [2, 3, 3]) (by decide +kernel) (pc p2 (pc p3 (pc p3 pn))) (by decide +kernel) (by decide +kernel)
theorem p19 : Pr 19 := gen_prime g19
theorem g229 : Gen 6 229 := cert (top := [228]) (L := [(2, [114]), (3, [76]), (19, [12])]) (F := [2, 2, 3, 19]) (by decide +kernel) (pc p2 (pc p2 (pc p3 (pc p19 pn)))) (by decide +kernel) (by decide +kernel)
theorem p229 : Pr 229 := gen_prime g229
theorem g1201 : Gen 11 1201 := cert (top := [4, 176]) (L := [(2, [2, 88]), (3, [1, 144]), (5, [240])]) (F := [2, 2, 2, 2, 3, 5, 5]) (by decide +kernel) (pc p2 (pc p2 (pc p2 (pc p2 (pc p3 (pc p5 (pc p5 pn))))))) (by decide +kernel) (by decide +kernel)
theorem p1201 : Pr 1201 := gen_prime g1201
theorem g9350987 : Gen 2 9350987 := cert (top := [142, 175, 74]) (L := [(2, [71, 87, 165]), (17, [8, 100, 170]), (229, [159, 130]), (1201, [30, 106])]) (F := [2, 17, 229, 1201]) (by decide +kernel) (pc p2 (pc p17 (pc p229 (pc p1201 pn)))) (by decide +kernel) (by decide +kernel)
theorem p9350987 : Pr 9350987 := gen_prime g9350987
theorem g187019741 : Gen 2 187019741 := cert (top := [11, 37, 177, 220]) (L := [(2, [5, 146, 216, 238]), (5, [2, 58, 189, 44]), (9350987, [20])]) (F := [2, 2, 5, 9350987]) (by decide +kernel) (pc p2 (pc p2 (pc p5 (pc p9350987 pn)))) (by decide +kernel) (by decide +kernel)
theorem p187019741 : Pr 187019741 := gen_prime g187019741
theorem g29 : Gen 2 29 := cert (top := [28]) (L := [(2, [14]), (7, [4])]) (F := [2, 2, 7]) (by decide +kernel) (pc p2 (pc p2 (pc p7 pn))) (by decide +kernel) (by decide +kernel)
theorem p29 : Pr 29 := gen_prime g29
theorem g311 : Gen 17 311 := cert (top := [1, 54]) (L := [(2, [155]), (5, [62]), (31, [10])]) (F := [2, 5, 31]) (by decide +kernel) (pc p2 (pc p5 (pc p31 pn))) (by decide +kernel) (by decide +kernel)
theorem p311 : Pr 311 := gen_prime g311
theorem g311245691 : Gen 2 311245691 := cert (top := [18, 141, 59, 122]) (L := [(2, [9, 70, 157, 189]), (5, [3, 181, 216, 178]), (7, [2, 166, 118, 54]), (17, [1, 23, 93, 218]), (29, [163, 196, 66]), (311, [15, 69, 86])]) (F := [2, 5, 7, 17, 29, 29, 311]) (by decide +kernel) (pc p2 (pc p5 (pc p7 (pc p17 (pc p29 (pc p29 (pc p311 pn))))))) (by decide +kernel) (by decide +kernel)
theorem p311245691 : Pr 311245691 := gen_prime g311245691
theorem g622491383 : Gen 5 622491383 := cert (top := [37, 26, 118, 246]) (L := [(2, [18, 141, 59, 123]), (311245691, [2])]) (F := [2, 311245691]) (by decide +kernel) (pc p2 (pc p311245691 pn)) (by decide +kernel) (by decide +kernel)
theorem p622491383 : Pr 622491383 := gen_prime g622491383
theorem g263 : Gen 5 263 := cert (top := [1, 6]) (L := [(2, [131]), (131, [2])]) (F := [2, 131]) (by decide +kernel) (pc p2 (pc p131 pn)) (by decide +kernel) (by decide +kernel)
theorem p263 : Pr 263 := gen_prime g263
theorem g126241 : Gen 7 126241 := cert (top := [1, 237, 32]) (L := [(2, [246, 144]), (3, [164, 96]), (5, [98, 160]), (263, [1, 224])]) (F := [2, 2, 2, 2, 2, 3, 5, 263]) (by decide +kernel) (pc p2 (pc p2 (pc p2 (pc p2 (pc p2 (pc p3 (pc p5 (pc p263 pn)))))))) (by decide +kernel) (by decide +kernel)
theorem p126241 : Pr 126241 := gen_prime g126241
theorem g337 : Gen 10 337 := cert (top := [1, 80]) (L := [(2, [168]), (3, [112]), (7, [48])]) (F := [2, 2, 2, 2, 3, 7]) (by decide +kernel) (pc p2 (pc p2 (pc p2 (pc p2 (pc p3 (pc p7 pn)))))) (by decide +kernel) (by decide +kernel)
theorem p337 : Pr 337 := gen_prime g337
theorem g104471 : Gen 11 104471 := cert (top := [1, 152, 22]) (L := [(2, [204, 11]), (5, [81, 158]), (31, [13, 42]), (337, [1, 54])]) (F := [2, 5, 31, 337]) (by decide +kernel) (pc p2 (pc p5 (pc p31 (pc p337 pn)))) (by decide +kernel) (by decide +kernel)
theorem p104471 : Pr 104471 := gen_prime g104471
theorem g3969899 : Gen 2 3969899 := cert (top := [60, 147, 106]) (L := [(2, [30, 73, 181]), (19, [3, 48, 46]), (104471, [38])]) (F := [2, 19, 104471]) (by decide +kernel) (pc p2 (pc p19 (pc p104471 pn))) (by decide +kernel) (by decide +kernel)
theorem p3969899 : Pr 3969899 := gen_prime g3969899
theorem g1002328039319 : Gen 19 1002328039319 := cert (top := [233, 95, 104, 31, 150]) (L := [(2, [116, 175, 180, 15, 203]), (126241, [121, 38, 214]), (3969899, [3, 218, 66])]) (F := [2, 126241, 3969899]) (by decide +kernel) (pc p2 (pc p126241 (pc p3969899 pn))) (by decide +kernel) (by decide +kernel)
theorem p1002328039319 : Pr 1002328039319 := gen_prime g1002328039319
theorem g1297 : Gen 10 1297 := cert (top := [5, 16]) (L := [(2, [2, 136]), (3, [1, 176])]) (F := [2, 2, 2, 2, 3, 3, 3, 3]) (by decide +kernel) (pc p2 (pc p2 (pc p2 (pc p2 (pc p3 (pc p3 (pc p3 (pc p3 pn)))))))) (by decide +kernel) (by decide +kernel)
theorem p1297 : Pr 1297 := gen_prime g1297
theorem g97 : Gen 5 97 := cert (top := [96]) (L := [(2, [48]), (3, [32])]) (F := [2, 2, 2, 2, 2, 3]) (by decide +kernel) (pc p2 (pc p2 (pc p2 (pc p2 (pc p2 (pc p3 pn)))))) (by decide +kernel) (by decide +kernel)
theorem p97 : Pr 97 := gen_prime g97
theorem g16879 : Gen 3 16879 := cert (top := [65, 238]) (L := [(2, [32, 247]), (3, [21, 250]), (29, [2, 70]), (97, [174])]) (F := [2, 3, 29, 97]) (by decide +kernel) (pc p2 (pc p3 (pc p29 (pc p97 pn)))) (by decide +kernel) (by decide +kernel)
theorem p16879 : Pr 16879 := gen_prime g16879
theorem g127 : Gen 3 127 := cert (top := [126]) (L := [(2, [63]), (3, [42]), (7, [18])]) (F := [2, 3, 3, 7]) (by decide +kernel) (pc p2 (pc p3 (pc p3 (pc p7 pn)))) (by decide +kernel) (by decide +kernel)
theorem p127 : Pr 127 := gen_prime g127
theorem g151 : Gen 6 151 := cert (top := [150]) (L := [(2, [75]), (3, [50]), (5, [30])]) (F := [2, 3, 5, 5]) (by decide +kernel) (pc p2 (pc p3 (pc p5 (pc p5 pn)))) (by decide +kernel) (by decide +kernel)
theorem p151 : Pr 151 := gen_prime g151
theorem g1511 : Gen 11 1511 := cert (top := [5, 230]) (L := [(2, [2, 243]), (5, [1, 46]), (151, [10])]) (F := [2, 5, 151]) (by decide +kernel) (pc p2 (pc p5 (pc p151 pn))) (by decide +kernel) (by decide +kernel)
theorem p1511 : Pr 1511 := gen_prime g1511
theorem g3023 : Gen 5 3023 := cert (top := [11, 206]) (L := [(2, [5, 231]), (1511, [2])]) (F := [2, 1511]) (by decide +kernel) (pc p2 (pc p1511 pn)) (by decide +kernel) (by decide +kernel)
theorem p3023 : Pr 3023 := gen_prime g3023
theorem g41 : Gen 6 41 := cert (top := [40]) (L := [(2, [20]), (5, [8])]) (F := [2, 2, 2, 5]) (by decide +kernel) (pc p2 (pc p2 (pc p2 (pc p5 pn)))) (by decide +kernel) (by decide +kernel)
theorem p41 : Pr 41 := gen_prime g41
theorem g155317 : Gen 5 155317 := cert (top := [2, 94, 180]) (L := [(2, [1, 47, 90]), (3, [202, 60]), (7, [86, 172]), (43, [14, 28])]) (F := [2, 2, 3, 7, 43, 43]) (by decide +kernel) (pc p2 (pc p2 (pc p3 (pc p7 (pc p43 (pc p43 pn)))))) (by decide +kernel) (by decide +kernel)
theorem p155317 : Pr 155317 := gen_prime g155317
theorem g191039911 : Gen 3 191039911 := cert (top := [11, 99, 9, 166]) (L := [(2, [5, 177, 132, 211]), (3, [3, 203, 173, 226]), (5, [2, 71, 1, 238]), (41, [71, 25, 54]), (155317, [4, 206])]) (F := [2, 3, 5, 41, 155317]) (by decide +kernel) (pc p2 (pc p3 (pc p5 (pc p41 (pc p155317 pn))))) (by decide +kernel) (by decide +kernel)
theorem p191039911 : Pr 191039911 := gen_prime g191039911
theorem g208150935158385979 : Gen 2 208150935158385979 := cert (top := [2, 227, 128, 44, 53, 199, 237, 58]) (L := [(2, [1, 113, 192, 22, 26, 227, 246, 157]), (3, [246, 128, 14, 188, 151, 249, 190]), (11, [67, 58, 50, 144, 134, 137, 238]), (43, [17, 50, 155, 209, 159, 112, 174]), (127, [5, 210, 165, 163, 178, 245, 198]), (3023, [62, 159, 186, 147, 171, 166]), (191039911, [64, 241, 124, 54])]) (F := [2, 3, 11, 43, 127, 3023, 191039911]) (by decide +kernel) (pc p2 (pc p3 (pc p11 (pc p43 (pc p127 (pc p3023 (pc p191039911 pn))))))) (by decide +kernel) (by decide +kernel)
theorem p208150935158385979 : Pr 208150935158385979 := gen_prime g208150935158385979
theorem g2624747550333869278416773953 : Gen 7 2624747550333869278416773953 := cert (top := [8, 123, 35, 233, 208, 157, 62, 99, 123, 42, 163, 64]) (L := [(2, [4, 61, 145, 244, 232, 78, 159, 49, 189, 149, 81, 160]), (3, [2, 211, 182, 163, 69, 137, 191, 118, 126, 99, 139, 192]), (1297, [1, 172, 137, 91, 190, 151, 111, 253, 135, 111, 64]), (16879, [32, 237, 223, 215, 248, 18, 76, 9, 208, 192]), (208150935158385979, [2, 239, 154, 181, 192])]) (F := [2, 2, 2, 2, 2, 2, 3, 3, 1297, 16879, 208150935158385979]) (by decide +kernel) (pc p2 (pc p2 (pc p2 (pc p2 (pc p2 (pc p2 (pc p3 (pc p3 (pc p1297 (pc p16879 (pc p208150935158385979 pn))))))))))) (by decide +kernel) (by decide +kernel)
theorem p2624747550333869278416773953 : Pr 2624747550333869278416773953 := gen_prime g2624747550333869278416773953
theorem g115792089210356248762697446949407573529996955224135760342422259061068512044369 : Gen 7 115792089210356248762697446949407573529996955224135760342422259061068512044369 := cert (top := [255, 255, 255, 255, 0, 0, 0, 0, 255, 255, 255, 255, 255, 255, 255, 255, 188, 230, 250, 173, 167, 23, 158, 132, 243, 185, 202, 194, 252, 99, 37, 80]) (L := [(2, [127, 255, 255, 255, 128, 0, 0, 0, 127, 255, 255, 255, 255, 255, 255, 255, 222, 115, 125, 86, 211, 139, 207, 66, 121, 220, 229, 97, 126, 49, 146, 168]), (3, [85, 85, 85, 85, 0, 0, 0, 0, 85, 85, 85, 85, 85, 85, 85, 85, 62, 247, 168, 228, 141, 7, 223, 129, 166, 147, 67, 150, 84, 33, 12, 112]), (71, [3, 155, 10, 209, 28, 216, 86, 137, 7, 54, 21, 162, 64, 230, 194, 180, 71, 42, 234, 74, 142, 249, 31, 19, 230, 150, 114, 161, 100, 232, 40, 48]), (131, [1, 244, 70, 89, 226, 175, 224, 187, 156, 85, 252, 23, 115, 76, 54, 183, 177, 81, 226, 165, 122, 111, 145, 210, 29, 56, 34, 196, 232, 133, 164, 112]), (373, [175, 179, 33, 160, 153, 188, 189, 109, 207, 245, 4, 205, 229, 235, 105, 1, 225, 12, 86, 241, 89, 73, 44, 247, 187, 45, 215, 87, 215, 22, 16]), (3407, [19, 60, 86, 66, 127, 150, 52, 37, 165, 20, 208, 73, 86, 8, 221, 207, 189, 165, 1, 45, 149, 98, 84, 49, 246, 207, 248, 100, 156, 81, 176]), (17449, [3, 193, 128, 9, 95, 254, 151, 112, 0, 60, 24, 0, 150, 60, 1, 119, 149, 7, 168, 123, 22, 92, 70, 237, 199, 10, 184, 192, 166, 36, 208]), (38189, [1, 183, 82, 21, 151, 139, 201, 193, 91, 20, 153, 144, 85, 68, 190, 145, 46, 195, 81, 220, 106, 93, 117, 41, 27, 5, 29, 6, 73, 172, 144]), (187019741, [22, 247, 30, 229, 27, 184, 56, 105, 224, 200, 75, 60, 78, 24, 217, 161, 150, 83, 58, 160, 72, 51, 205, 200, 207, 191, 4, 109, 144]), (622491383, [6, 230, 78, 229, 125, 85, 146, 26, 65, 57, 122, 235, 220, 230, 8, 158, 219, 56, 6, 184, 115, 254, 168, 70, 24, 169, 225, 33, 48]), (1002328039319, [1, 24, 210, 59, 17, 154, 58, 188, 131, 250, 229, 106, 80, 85, 243, 30, 34, 14, 40, 121, 247, 95, 7, 237, 103, 131, 175, 48]), (2624747550333869278416773953, [30, 47, 96, 24, 229, 213, 123, 95, 152, 187, 199, 157, 195, 133, 135, 251, 48, 164, 148, 225, 80])]) (F := [2, 2, 2, 2, 3, 71, 131, 373, 3407, 17449, 38189, 187019741, 622491383, 1002328039319, 2624747550333869278416773953]) (by decide +kernel) (pc p2 (pc p2 (pc p2 (pc p2 (pc p3 (pc p71 (pc p131 (pc p373 (pc p3407 (pc p17449 (pc p38189 (pc p187019741 (pc p622491383 (pc p1002328039319 (pc p2624747550333869278416773953 pn))))))))))))))) (by decide +kernel) (by decide +kernel)
theorem p115792089210356248762697446949407573529996955224135760342422259061068512044369 : Pr 115792089210356248762697446949407573529996955224135760342422259061068512044369 := gen_prime g115792089210356248762697446949407573529996955224135760342422259061068512044369
def P256 : Nat := 115792089210356248762697446949407573530086143415290314195533631308867097853951
def N256 : Nat := 115792089210356248762697446949407573529996955224135760342422259061068512044369
theorem gen_p : Gen 6 P256 := g115792089210356248762697446949407573530086143415290314195533631308867097853951
theorem gen_n : Gen 7 N256 := g115792089210356248762697446949407573529996955224135760342422259061068512044369
theorem fermat_p (a : Nat) (h : a % P256 ≠ 0) : a ^ (P256 - 1) % P256 = 1 := gen_fermat gen_p a h
theorem fermat_n (a : Nat) (h : a % N256 ≠ 0) : a ^ (N256 - 1) % N256 = 1 := gen_fermat gen_n a h
end Go.Proofs.YtfaobdakpbpkbaaDoor.Prim
end
section
/-
  MontInverts: mont.Inv, limbs.Zero, porticolaw03.Prime, and the walk. Conditions: numbers are below 2^256.
-/
namespace Go.Proofs.YtfaobdakpbpkbaaDoor
open Go.RowKit Go.Pt
/-! ### the plain law -/
theorem pw_in {m a k : Nat} (h : m % 2 = 1) : pw m (a * W256 % m) k = a ^ k * W256 % m := by
  unfold pw
  rw [Nat.mul_mod, Nat.pow_mod, outIn h, ← Nat.pow_mod, ← Nat.mul_mod]
theorem in_mul {m a c : Nat} (h : m % 2 = 1) : a * W256 % m * (c * W256 % m) * rinv m % m = a * c * W256 % m := by
  have e : a * W256 % m * (c * W256 % m) * rinv m % m = a * c * W256 * W256 * rinv m % m := by
    rw [show a * c * W256 * W256 = a * W256 * (c * W256) by rw [Nat.mul_assoc a c, Nat.mul_assoc a, Nat.mul_assoc a, Nat.mul_comm (c * W256)]]
    simp only [Nat.mul_mod, Nat.mod_mod]
  rw [e]; exact inW h
/-- Fermat's law holds for it -/
def Ferm (m : Nat) : Prop := ∀ a, a % m ≠ 0 → a ^ (m - 1) % m = 1
theorem inv_mul {m a : Nat} (hF : Ferm m) (h2 : 2 < m) (ha : a % m ≠ 0) : a * a ^ (m - 2) * W256 % m = W256 % m := by
  rw [← Nat.pow_succ', show (m - 2).succ = m - 1 by omega, Nat.mul_mod, hF a ha, Nat.one_mul, Nat.mod_mod]
theorem inv_inv {m a : Nat} (hF : Ferm m) (h2 : 2 < m) (ha : a % m ≠ 0) : (a ^ (m - 2)) ^ (m - 2) * W256 % m = a * W256 % m := by
  have e : (a ^ (m - 2)) ^ (m - 2) % m = a % m := by
    rw [← Nat.pow_mul, show (m - 2) * (m - 2) = (m - 1) * (m - 3) + 1 by
      obtain ⟨k, rfl⟩ : ∃ k, m = k + 3 := ⟨m - 3, by omega⟩
      rw [show k + 3 - 2 = k + 1 by omega, show k + 3 - 1 = k + 2 by omega, show k + 3 - 3 = k by omega, Nat.add_mul, Nat.mul_add, Nat.add_mul]
      omega]
    rw [Nat.pow_succ, Nat.pow_mul, Nat.mul_mod, Nat.pow_mod, hF a ha, Nat.one_pow, Nat.mod_eq_of_lt (show 1 < m by omega), Nat.one_mul, Nat.mod_mod]
  rw [Nat.mul_mod, e, ← Nat.mul_mod]
theorem nz_of {m a : Nat} (h : a * W256 % m ≠ 0) : a % m ≠ 0 := fun e => h (by rw [Nat.mul_mod, e, Nat.zero_mul, Nat.zero_mod])
theorem inv_zero {m : Nat} (h2 : 2 < m) : pw m 0 (m - 2) = 0 := by
  unfold pw
  rw [Nat.zero_mul, Nat.zero_pow (by omega), Nat.zero_mul, Nat.zero_mod]
theorem pw_lt {m a k : Nat} (h : 0 < m) : pw m a k < m := Nat.mod_lt _ h
/-! ### the walks -/
theorem limbZero (a : Nat) (w : World) (ha : a < W256) : Calls Tryd.prog 55 #[numV a] w fun e w' => e = .returned (.bool (decide (a = 0))) ∧ Hp w [] w' := by
  refine enter (args := [_]) (Γ := [(0, _)]) Tryd.func55 Tryd.ntmps55 rfl (of_decide_eq_true rfl) (.cons rfl .nil) ?_
  repeat' (first | (apply Wl.eqlA (b := decide (a = 0)); exact rfl; exact rfl; exact rfl; kernel_rfl; kernel_rfl; kernel_rfl; kernel_rfl; exact cell32 _ (dlt _); exact cell32 _ (dlt _); exact d8_inj ha (by decide)) | (apply Wl.loadW; exact rfl; exact rfl; (repeat (first | exact List.Mem.head _ | apply List.Mem.tail)); exact rfl) | (apply Wl.boxN; exact rfl; exact rfl; intro c hc ho) | (apply Wl.buildN; exact rfl; (repeat (first | exact Parts.nil | apply Parts.cons rfl)); (repeat (first | apply Fills.nil | (apply Fills.one; exact rfl; exact rfl; (repeat (first | apply LSet.z | apply LSet.s))) | (apply Fills.agg; exact rfl; exact rfl; (repeat (first | apply LPut.s | apply LPut.z | apply LOver.nil | apply LOver.cons))))); (first | exact one8 | exact zero8 | exact two8 | exact one16)) | (apply Wl.assign; exact rfl; exact rfl) | (apply Wl.nil) | (apply St.seq) | (apply St.region) | (apply St.ret) | (apply Gt.next) | (apply Gt.out1; exact rfl; exact rfl; intro w' hp) | (apply Wl.splitP; exact rfl; exact rfl; all_goals (intros; try (exfalso; omega))) | (apply Wl.splitB; exact rfl; exact rfl; all_goals intros) | (apply St.condP; exact rfl; all_goals (intros; try (exfalso; omega))) | (apply St.condB; exact rfl; all_goals intros))
  exact ⟨rfl, hp.drop (by simp; omega)⟩
theorem modInv {b m a : Nat} {w : World} (h : ModV w b m) (ha : a < m) (hm : m < W256) (h2 : 2 < m) :
    Calls Tryd.prog 24 #[mp b, numV a] w fun e w' => e = .returned (numV (pw m a (m - 2))) ∧ Hp w [] w' := by
  have hb := h.blk
  refine enter (args := [_, _]) (Γ := [(0, _), (1, _)]) Tryd.func24 Tryd.ntmps24 rfl (of_decide_eq_true rfl) (.cons rfl (.cons rfl .nil)) ?_
  have e2 : (m + W256 - 2) % W256 = m - 2 := by rw [show m + W256 - 2 = m - 2 + W256 by omega, Nat.add_mod_right, Nat.mod_eq_of_lt (by omega)]
  repeat' (first | (apply Wl.boxN; exact rfl; exact rfl; intro c hc ho) | (apply Wl.allocN; exact rfl; (first | exact z8 | exact z16 | exact z17 | exact z33 | exact z10); intro c hc ho) | (apply Wl.move; exact rfl; exact rfl) | (apply Wl.nil) | (apply St.seq) | (apply St.region) | (apply Gt.next) | (apply Wl.splitP; exact rfl; exact rfl; all_goals (intros; try (exfalso; omega))) | (apply Wl.splitB; exact rfl; exact rfl; all_goals intros) | (apply St.condP; exact rfl; all_goals (intros; try (exfalso; omega))) | (apply St.condB; exact rfl; all_goals intros))
  apply Wl.callQ
  exact rfl
  (repeat (first | exact Evs.nil | apply Evs.cons rfl))
  · intro wq hq
    refine (modModulus b m wq (h.hp hq (by apply Off.of; simp <;> omega))).mono ?_
    rintro e wr ⟨rfl, hr⟩
    exact ⟨rfl, hq.keep hr⟩
  repeat' (first | (apply Wl.buildN; exact rfl; (repeat (first | exact Parts.nil | apply Parts.cons rfl)); (repeat (first | apply Fills.nil | (apply Fills.one; exact rfl; exact rfl; (repeat (first | apply LSet.z | apply LSet.s))) | (apply Fills.agg; exact rfl; exact rfl; (repeat (first | apply LPut.s | apply LPut.z | apply LOver.nil | apply LOver.cons))))); (first | exact one8 | exact zero8 | exact two8 | exact one16)) | (apply Wl.splitP; exact rfl; exact rfl; all_goals (intros; try (exfalso; omega))) | (apply Wl.splitB; exact rfl; exact rfl; all_goals intros) | (apply St.condP; exact rfl; all_goals (intros; try (exfalso; omega))) | (apply St.condB; exact rfl; all_goals intros))
  apply Wl.callQ
  exact rfl
  (repeat (first | exact Evs.nil | apply Evs.cons rfl))
  · intro wq hq
    refine (limbSub m 2 hm (by decide) wq).mono ?_
    rintro e wr ⟨rfl, hr⟩
    exact ⟨rfl, hq.keep hr⟩
  rw [e2]
  repeat' (first | (apply Wl.loadW; exact rfl; exact rfl; (repeat (first | exact List.Mem.head _ | apply List.Mem.tail)); exact rfl) | (apply Wl.storeW; exact rfl; exact rfl; (repeat (first | apply HSet.here | apply HSet.there)); exact rfl; (first | exact cellsN_len _ _ _ | exact rfl)) | (apply Wl.allocN; exact rfl; (first | exact z8 | exact z16 | exact z17 | exact z33 | exact z10); intro c hc ho) | (apply Wl.move; exact rfl; exact rfl) | (apply Wl.assign; exact rfl; exact rfl) | (apply Wl.extract; exact rfl; exact rfl; exact rfl) | (apply Wl.nil) | (apply St.seq) | (apply St.region) | (apply Gt.next) | (apply Wl.splitP; exact rfl; exact rfl; all_goals (intros; try (exfalso; omega))) | (apply Wl.splitB; exact rfl; exact rfl; all_goals intros) | (apply St.condP; exact rfl; all_goals (intros; try (exfalso; omega))) | (apply St.condB; exact rfl; all_goals intros))
  apply Wl.callQ
  exact rfl
  (repeat (first | exact Evs.nil | apply Evs.cons rfl))
  · intro wq hq
    refine (modPow b m a (m - 2) wq (h.hp hq (by apply Off.of; simp <;> omega)) ha (by omega)).mono ?_
    rintro e wr ⟨rfl, hr⟩
    exact ⟨rfl, hq.keep hr⟩
  repeat' (first | (apply Gt.outN; exact rfl; infer_instance; exact rfl; (repeat (first | exact List.Mem.head _ | apply List.Mem.tail)); exact rfl; intro w' hp) | (apply Wl.storeW; exact rfl; exact rfl; (repeat (first | apply HSet.here | apply HSet.there)); exact rfl; (first | exact cellsN_len _ _ _ | exact rfl)) | (apply Wl.nil) | (apply St.ret) | (apply Gt.next) | (apply Wl.splitP; exact rfl; exact rfl; all_goals (intros; try (exfalso; omega))) | (apply Wl.splitB; exact rfl; exact rfl; all_goals intros) | (apply St.condP; exact rfl; all_goals (intros; try (exfalso; omega))) | (apply St.condB; exact rfl; all_goals intros))
  exact ⟨rfl, hp.drop (by simp; omega)⟩
theorem modInvP {b m a y : Nat} {w : World} (h : ModV w b m) (ha : a < m) (hm : m < W256) (h2 : 2 < m) (hy : y = pw m a (m - 2)) :
    Calls Tryd.prog 24 #[mp b, numV a] w fun e w' => e = .returned (numV y) ∧ Hp w [] w' := hy ▸ modInv h ha hm h2
theorem modInI {b m a p : Nat} {w : World} (h : ModV w b m) (ha : a < W256) (hp : p = a * W256 % m) :
    Calls Tryd.prog 25 #[mp b, numV a] w fun e w' => e = .returned (numV p) ∧ Hp w [] w' := hp ▸ modIn b m a w h ha
theorem ferm_p : Ferm Prim.P256 := Prim.fermat_p
theorem ferm_n : Ferm Prim.N256 := Prim.fermat_n
theorem p8 : [Value.int .u32 4294967295, .int .u32 4294967295, .int .u32 4294967295, .int .u32 0, .int .u32 0, .int .u32 0, .int .u32 1, .int .u32 4294967295] = cellsN .u32 8 (dg W32 Prim.P256) := by kernel_rfl
theorem n8 : [Value.int .u32 4234356049, .int .u32 4089039554, .int .u32 2803342980, .int .u32 3169254061, .int .u32 4294967295, .int .u32 4294967295, .int .u32 0, .int .u32 4294967295] = cellsN .u32 8 (dg W32 Prim.N256) := by kernel_rfl
end Go.Proofs.YtfaobdakpbpkbaaDoor
end
section
/-
  The group law of a curve y^2 = x^3 + ax + b over P-256's field, in plain Lean: sums are commutative and associative on the curve's points. Conditions: the discriminant is not 0.
-/
namespace Go.Proofs.YtfaobdakpbpkbaaDoor.Ec
open Go.Proofs.YtfaobdakpbpkbaaDoor.Prim (P256 fermat_p)
/-! the field -/
instance nzP : NeZero P256 := ⟨by decide +kernel⟩
abbrev F := Fin P256
attribute [local irreducible] Prim.P256
theorem p3 : (3:Nat) < P256 := by unfold P256; decide
theorem pOdd : P256 % 2 = 1 := by unfold P256; decide
def finv (x : F) : F := Fin.ofNat P256 (x.val ^ (P256 - 2))
theorem mul_finv {x : F} (h : x ≠ 0) : x * finv x = 1 := by
  have h3 := p3
  have hx : x.val % P256 ≠ 0 := by
    rw [Nat.mod_eq_of_lt x.isLt]
    intro e
    exact h (Fin.ext (by rw [e]; rfl))
  have := fermat_p x.val hx
  apply Fin.ext
  unfold finv
  rw [Fin.val_mul]
  simp only [Fin.ofNat]
  rw [Nat.mul_mod_mod, ← Nat.pow_succ', show (P256 - 2).succ = P256 - 1 by omega, this]
  symm
  exact Nat.mod_eq_of_lt (Nat.lt_trans (by decide : 1 < 3) h3)
theorem canc {x y z : F} (h : x ≠ 0) (e : x * y = x * z) : y = z := by
  have := mul_finv h
  grobner
theorem two_ne : (2 : F) ≠ 0 := by
  have h3 := p3
  intro e
  have := congrArg Fin.val e
  have e2 : ((2 : F)).val = 2 % P256 := rfl
  have e0 : ((0 : F)).val = 0 % P256 := rfl
  rw [e2, e0, Nat.mod_eq_of_lt (Nat.lt_trans (by decide : 2 < 3) h3), Nat.zero_mod] at this
  cases this
theorem nz_mul {x y : F} (hx : x ≠ 0) (hy : y ≠ 0) : x * y ≠ 0 := by
  have := mul_finv hx
  intro e
  apply hy
  grobner
/-! the group -/
section
variable {a b : F}
def Onc (a b x y : F) : Prop := y * y = x * x * x + a * x + b
/-- l is the slope of the line through both (the tangent, if they are one) -/
def Sl (a x1 y1 x2 y2 l : F) : Prop := l * (x2 - x1) = y2 - y1 ∧ a = 2 * l * (y1 - l * x1) + x1 * x2 + (x1 + x2) * (l * l - x1 - x2)
theorem Sl.chord {x1 y1 x2 y2 l : F} (h1 : Onc a b x1 y1) (h2 : Onc a b x2 y2) (hx : x2 - x1 ≠ 0) (hl : l * (x2 - x1) = y2 - y1) : Sl a x1 y1 x2 y2 l := by
  refine ⟨hl, canc hx ?_⟩
  unfold Onc at *
  grobner
theorem Sl.tang {x1 y1 l : F} (hl : l * (2 * y1) = 3 * (x1 * x1) + a) : Sl a x1 y1 x1 y1 l := by
  refine ⟨by grobner, by grobner⟩
theorem Sl.symm {x1 y1 x2 y2 l : F} (h : Sl a x1 y1 x2 y2 l) : Sl a x2 y2 x1 y1 l := by
  obtain ⟨h1, h2⟩ := h
  refine ⟨by grobner, by grobner⟩
/-- the third point of the line, mirrored -/
def tx (x1 x2 l : F) : F := l * l - x1 - x2
def ty (x1 y1 x2 l : F) : F := l * (x1 - tx x1 x2 l) - y1
theorem Sl.on {x1 y1 x2 y2 l : F} (h : Sl a x1 y1 x2 y2 l) (h1 : Onc a b x1 y1) : Onc a b (tx x1 x2 l) (ty x1 y1 x2 l) := by
  obtain ⟨h2, h3⟩ := h
  unfold Onc ty tx at *
  grobner
/-- u times the sum of both slopes is 1 -/
theorem key {x1 y1 x2 y2 x3 y3 l m s u : F} (h12 : Sl a x1 y1 x2 y2 l) (h13 : Sl a x1 y1 x3 y3 m) (hu : u * (x3 - x2) = m - l) (h23 : x3 - x2 ≠ 0)
    (hs : s * (x3 - tx x1 x2 l) = y3 - ty x1 y1 x2 l) (hne : x3 - tx x1 x2 l ≠ 0) : u * (l + s) = 1 := by
  obtain ⟨k1, k2⟩ := h12
  obtain ⟨k3, k4⟩ := h13
  have e1 : (m - l) * (y3 + (y1 + l * (x3 - x1))) = (x3 - x2) * (x3 - tx x1 x2 l) := by
    unfold tx; grobner
  have e2 : u * (y3 + (y1 + l * (x3 - x1))) = x3 - tx x1 x2 l := canc h23 (by rw [← e1, ← hu]; grobner)
  refine canc hne ?_
  clear e1 k2 k4 hu k1 k3 h23
  unfold ty at hs
  generalize tx x1 x2 l = x4 at *
  grobner
theorem keyT {x1 y1 x2 y2 x3 y3 l m s u : F} (h12 : Sl a x1 y1 x2 y2 l) (h13 : Sl a x1 y1 x3 y3 m) (hu : u * (x3 - x2) = m - l) (hx : x3 = tx x1 x2 l) (hy : y3 = ty x1 y1 x2 l)
    (hs : s * (2 * y3) = 3 * (x3 * x3) + a) (hne : 2 * y3 ≠ 0) : u * (l + s) = 1 := by
  obtain ⟨k1, k2⟩ := h12
  obtain ⟨k3, k4⟩ := h13
  have e1 : 3 * (x3 * x3) + a + 2 * y3 * l = (x3 - x1) * (x3 - x2) := by
    clear k1 k3 k4 hs hne hu
    unfold ty tx at *; grobner
  have e2 : u * ((x3 - x1) * (x3 - x2)) = 2 * y3 := by
    clear k2 k4 hs hne e1
    unfold ty at hy
    rw [← hx] at hy
    clear hx
    grobner
  refine canc hne ?_
  rw [← e1, ← hs] at e2
  clear k1 k2 k3 k4 hx hy hs e1 hu
  grobner
/-- both ways end in one point -/
theorem both {x1 y1 x2 y2 x3 y3 l m s t u : F} (h12 : Sl a x1 y1 x2 y2 l) (h13 : Sl a x1 y1 x3 y3 m) (hu : u * (x3 - x2) = m - l) (e1 : u * (l + s) = 1) (e2 : u * (m + t) = 1) :
    tx (tx x1 x2 l) x3 s = tx (tx x1 x3 m) x2 t ∧ ty (tx x1 x2 l) (ty x1 y1 x2 l) x3 s = ty (tx x1 x3 m) (ty x1 y1 x3 m) x2 t := by
  have k1 := h12.1
  have k3 := h13.1
  clear h12 h13
  have e3 : s = t + (m - l) := by
    have : u * (l + s) = u * (m + t) := by rw [e1, e2]
    have hu0 : u ≠ 0 := by
      intro h
      rw [h] at e1
      exact two_ne (by clear hu k1 k3 e2 this; grobner)
    have := canc hu0 this
    clear hu k1 k3
    grobner
  have e5 : (m + t) * (m - l) = x3 - x2 := by clear k1 k3 e1 e3; rw [← hu]; grobner
  clear hu e1 e2
  subst e3
  have hx : tx (tx x1 x2 l) x3 (t + (m - l)) = tx (tx x1 x3 m) x2 t := by
    clear k1 k3
    unfold tx
    grobner
  refine ⟨hx, ?_⟩
  unfold ty
  rw [← hx]
  clear hx
  unfold tx
  clear k1 k3
  grobner
/-! the law -/
abbrev Pt := Option (F × F)
def OnC (a b : F) : Pt → Prop
  | none => True
  | some (x, y) => Onc a b x y
def neg : Pt → Pt
  | none => none
  | some (x, y) => some (x, -y)
def slope (a x1 y1 x2 y2 : F) : F := if x1 = x2 then (3 * (x1 * x1) + a) * finv (2 * y1) else (y2 - y1) * finv (x2 - x1)
def padd (a : F) : Pt → Pt → Pt
  | none, q => q
  | some p, none => some p
  | some (x1, y1), some (x2, y2) => if x1 = x2 ∧ (y1 ≠ y2 ∨ y1 = 0) then none else some (tx x1 x2 (slope a x1 y1 x2 y2), ty x1 y1 x2 (slope a x1 y1 x2 y2))
theorem padd_ss {x1 y1 x2 y2 : F} : padd a (some (x1, y1)) (some (x2, y2)) = if x1 = x2 ∧ (y1 ≠ y2 ∨ y1 = 0) then none else some (tx x1 x2 (slope a x1 y1 x2 y2), ty x1 y1 x2 (slope a x1 y1 x2 y2)) := rfl
theorem sub_ne {x y : F} (h : x ≠ y) : y - x ≠ 0 := fun e => h (by grobner)
theorem onc_eq {x y z : F} (h1 : Onc a b x y) (h2 : Onc a b x z) : y = z ∨ z = -y := by
  unfold Onc at *
  by_cases h : y - z = 0
  · left; grobner
  · right
    have : (y - z) * (y + z) = (y - z) * 0 := by grobner
    have := canc h this
    grobner
theorem padd_zero (p : Pt) : padd a p none = p := by cases p <;> rfl
theorem zero_padd (p : Pt) : padd a none p = p := rfl
/-- two points of the curve: opposite, or joined by a line -/
theorem join {x1 y1 x2 y2 : F} (h1 : Onc a b x1 y1) (h2 : Onc a b x2 y2) :
    (x2 = x1 ∧ y2 = -y1 ∧ padd a (some (x1, y1)) (some (x2, y2)) = none) ∨
    (¬ (x2 = x1 ∧ y2 = -y1) ∧ ∃ l, Sl a x1 y1 x2 y2 l ∧ padd a (some (x1, y1)) (some (x2, y2)) = some (tx x1 x2 l, ty x1 y1 x2 l) ∧
      (x1 = x2 → y1 = y2 ∧ 2 * y1 ≠ 0 ∧ l * (2 * y1) = 3 * (x1 * x1) + a)) := by
  by_cases hx : x1 = x2
  · subst hx
    by_cases hy : y2 = -y1
    · left
      refine ⟨rfl, hy, ?_⟩
      rw [padd_ss]
      rw [if_pos]
      refine ⟨rfl, ?_⟩
      by_cases h0 : y1 = 0
      · exact .inr h0
      · left
        intro e
        have : 2 * y1 = 0 := by grobner
        exact nz_mul two_ne h0 this
    · right
      have e := (onc_eq h1 h2).resolve_right hy
      subst e
      have h0 : y1 ≠ 0 := fun e => hy (by rw [e]; grobner)
      have h20 := nz_mul two_ne h0
      have hi := mul_finv h20
      have hl : (3 * (x1 * x1) + a) * finv (2 * y1) * (2 * y1) = 3 * (x1 * x1) + a := by
        generalize finv (2 * y1) = i at *
        grobner
      refine ⟨fun h => hy h.2, (3 * (x1 * x1) + a) * finv (2 * y1), Sl.tang hl, ?_, fun _ => ⟨rfl, h20, hl⟩⟩
      rw [padd_ss]
      unfold slope
      rw [if_neg, if_pos rfl]
      rintro ⟨_, h | h⟩
      · exact h rfl
      · exact h0 h
  · right
    have h21 := sub_ne hx
    have hi := mul_finv h21
    have hl : (y2 - y1) * finv (x2 - x1) * (x2 - x1) = y2 - y1 := by
      generalize finv (x2 - x1) = i at *
      grobner
    refine ⟨fun h => hx h.1.symm, (y2 - y1) * finv (x2 - x1), Sl.chord h1 h2 h21 hl, ?_, fun h => absurd h hx⟩
    rw [padd_ss]
    unfold slope
    rw [if_neg (fun h => hx h.1), if_neg hx]
theorem padd_on {p q : Pt} (hp : OnC a b p) (hq : OnC a b q) : OnC a b (padd a p q) := by
  match p, q with
  | none, q => exact hq
  | some p, none => exact hp
  | some (x1, y1), some (x2, y2) =>
    rcases join hp hq with ⟨_, _, h⟩ | ⟨_, l, hs, h, _⟩
    · rw [h]; trivial
    · rw [h]; exact hs.on hp
theorem neg_on {p : Pt} (hp : OnC a b p) : OnC a b (neg p) := by
  match p with
  | none => trivial
  | some (x, y) => simp only [neg, OnC, Onc] at *; grobner
theorem neg_neg' (p : Pt) : neg (neg p) = p := by
  match p with
  | none => rfl
  | some (x, y) => simp only [neg]; congr 2; grobner
theorem padd_comm (p q : Pt) : padd a p q = padd a q p := by
  match p, q with
  | none, none => rfl
  | none, some q => rfl
  | some p, none => rfl
  | some (x1, y1), some (x2, y2) =>
    rw [padd_ss, padd_ss]
    by_cases h : x1 = x2 ∧ (y1 ≠ y2 ∨ y1 = 0)
    · rw [if_pos h, if_pos]
      obtain ⟨rfl, h⟩ := h
      refine ⟨rfl, ?_⟩
      by_cases e : y2 = y1
      · subst e
        exact .inr (h.resolve_left fun h => h rfl)
      · exact .inl e
    · rw [if_neg h, if_neg]
      · by_cases hx : x1 = x2
        · subst hx
          by_cases e : y1 = y2
          · subst e; rfl
          · exact absurd ⟨rfl, .inl e⟩ h
        · have h21 := mul_finv (sub_ne hx)
          have h12 := mul_finv (sub_ne (Ne.symm hx))
          unfold slope
          rw [if_neg hx, if_neg (Ne.symm hx)]
          have hi : finv (x1 - x2) = - finv (x2 - x1) := by
            refine canc (sub_ne (Ne.symm hx)) ?_
            rw [h12]
            generalize finv (x2 - x1) = i at *
            grobner
          have hs : (y1 - y2) * finv (x1 - x2) = (y2 - y1) * finv (x2 - x1) := by rw [hi]; grobner
          rw [hs]
          have hl : (y2 - y1) * finv (x2 - x1) * (x2 - x1) = y2 - y1 := by
            generalize finv (x2 - x1) = i at *
            grobner
          generalize (y2 - y1) * finv (x2 - x1) = l at *
          clear hs hi h12 h21
          have e1 : tx x1 x2 l = tx x2 x1 l := by unfold tx; grobner
          rw [e1]
          congr 2
          unfold ty
          rw [e1]
          grobner
      · rintro ⟨rfl, h'⟩
        apply h
        refine ⟨rfl, ?_⟩
        by_cases e : y1 = y2
        · subst e
          exact .inr (h'.resolve_left fun h => h rfl)
        · exact .inl e
theorem neg_padd (p q : Pt) : neg (padd a p q) = padd a (neg p) (neg q) := by
  match p, q with
  | none, q => rfl
  | some (x1, y1), none => rfl
  | some (x1, y1), some (x2, y2) =>
    simp only [neg]
    rw [padd_ss, padd_ss]
    have en : ∀ {x y : F}, -x = -y → x = y := fun h => by grobner
    have e0 : ∀ {x : F}, -x = 0 ↔ x = 0 := ⟨fun h => by grobner, fun h => by grobner⟩
    by_cases h : x1 = x2 ∧ (y1 ≠ y2 ∨ y1 = 0)
    · rw [if_pos h, if_pos ⟨h.1, h.2.imp (fun h e => h (en e)) e0.2⟩]
    · rw [if_neg h, if_neg (fun h' => h ⟨h'.1, h'.2.imp (fun h e => h (by rw [e])) e0.1⟩)]
      simp only
      have hs : slope a x1 (-y1) x2 (-y2) = - slope a x1 y1 x2 y2 := by
        unfold slope
        by_cases hx : x1 = x2
        · subst hx
          rw [if_pos rfl, if_pos rfl]
          have h0 : y1 ≠ 0 := fun h0 => h ⟨rfl, .inr h0⟩
          have h1 := mul_finv (nz_mul two_ne h0)
          have h2 := mul_finv (nz_mul two_ne (fun e => h0 (e0.1 e)))
          have hi : finv (2 * -y1) = - finv (2 * y1) := by
            refine canc (nz_mul two_ne (fun e => h0 (e0.1 e))) ?_
            rw [h2]
            generalize finv (2 * y1) = i at *
            grobner
          rw [hi]
          grobner
        · rw [if_neg hx, if_neg hx]
          grobner
      rw [hs]
      generalize slope a x1 y1 x2 y2 = l
      have e1 : tx x1 x2 (-l) = tx x1 x2 l := by unfold tx; grobner
      unfold ty
      rw [e1]
      congr 2
      grobner
theorem neg_cancel (p : Pt) : padd a p (neg p) = none := by
  match p with
  | none => rfl
  | some (x, y) =>
    simp only [neg]
    rw [padd_ss]
    rw [if_pos]
    refine ⟨rfl, ?_⟩
    by_cases h0 : y = 0
    · exact .inr h0
    · left
      intro e
      exact nz_mul two_ne h0 (by grobner)
theorem cancel (hD : 4 * (a * a * a) + 27 * (b * b) ≠ 0) {p q : Pt} (hp : OnC a b p) (hq : OnC a b q) : padd a (padd a p q) (neg p) = q := by
  match p, q with
  | none, q => exact padd_zero q
  | some (x1, y1), none => rw [padd_zero]; exact neg_cancel _
  | some (x1, y1), some (x3, y3) =>
    have hn := neg_on hp
    rcases join hp hq with ⟨e1, e2, h⟩ | ⟨_, l, hs, h, _⟩
    · rw [h, zero_padd]
      simp only [neg]
      rw [e1, e2]
    · rw [h]
      have h4 := hs.on hp
      obtain ⟨k1, k2⟩ := hs
      simp only [neg] at hn ⊢
      rcases join h4 hn with ⟨e1, e2, _⟩ | ⟨hne, s, hs2, h2, ht⟩
      · exfalso
        have e3 : y1 = ty x1 y1 x3 l := by grobner
        simp only [OnC] at hp
        unfold Onc at hp
        unfold ty at e3
        rw [← e1] at e3
        have y0 : 2 * y1 = 2 * 0 := by grobner
        have y0 := canc two_ne y0
        subst y0
        unfold tx at e1
        have a0 : a = -3 * (x1 * x1) := by grobner
        apply hD
        have b0 : b = 2 * (x1 * x1 * x1) := by grobner
        rw [a0, b0]
        grobner
      · rw [h2]
        obtain ⟨k3, k4⟩ := hs2
        have hsl : s = -l := by
          by_cases hx : tx x1 x3 l = x1
          · obtain ⟨g1, g2, g3⟩ := ht hx
            unfold ty at *
            rw [hx] at g1 g2 g3
            refine canc g2 ?_
            have g4 : l * (x1 - x1) - y1 = -y1 := g1
            rw [g4] at g3 ⊢
            clear g1 g4 g2 ht h2 h k4 k3 hne h4 hn hp hq k1 hD
            unfold tx at hx
            grobner
          · refine canc (sub_ne hx) ?_
            unfold ty at k3
            clear ht h2 h k4 k2 hp hq hn hD h4 hne
            grobner
        subst hsl
        have e1 : tx (tx x1 x3 l) x1 (-l) = x3 := by unfold tx; grobner
        unfold ty
        rw [e1]
        congr 2
        clear ht h2 h k4 k2 hp hq hn hD h4 hne e1 k3
        grobner
theorem swap (hD : 4 * (a * a * a) + 27 * (b * b) ≠ 0) {p q r : Pt} (hp : OnC a b p) (hq : OnC a b q) (hr : OnC a b r) : padd a (padd a p q) r = padd a (padd a p r) q := by
  have cn : ∀ {p q : Pt}, OnC a b p → OnC a b q → padd a (padd a q p) (neg p) = q := fun {p q} hp hq => by rw [padd_comm (a := a) q p]; exact cancel hD hp hq
  have opp : ∀ {q r : Pt}, OnC a b q → OnC a b r → padd a p q = neg r → padd a p r = neg q := fun {q r} hq hr h => by
    have := cn hq hp
    rw [h] at this
    rw [← this]
    have := cancel hD (neg_on hr) (neg_on hq)
    rw [neg_neg'] at this
    exact this
  by_cases e1 : padd a p q = neg r
  · rw [e1, opp hq hr e1, padd_comm (a := a) (neg r), neg_cancel, padd_comm (a := a) (neg q), neg_cancel]
  by_cases e2 : padd a p r = neg q
  · exact absurd (opp hr hq e2) e1
  by_cases e3 : q = r
  · rw [e3]
  by_cases e4 : q = neg p
  · rw [e4, neg_cancel, zero_padd, cancel hD hp hr]
  by_cases e5 : r = neg p
  · rw [e5, neg_cancel, zero_padd, cancel hD hp hq]
  by_cases e6 : r = neg q
  · have := cn (neg_on hq) hp
    rw [neg_neg'] at this
    rw [e6, this, cn hq hp]
  match p, q, r with
  | none, q, r => rw [zero_padd, zero_padd, padd_comm]
  | some p, none, r => rw [padd_zero, padd_zero]
  | some p, some q, none => rw [padd_zero, padd_zero]
  | some (x1, y1), some (x2, y2), some (x3, y3) =>
    have h23 : x2 ≠ x3 := by
      intro e
      subst e
      rcases onc_eq hq hr with e | e
      · exact e3 (by rw [e])
      · exact e6 (by rw [e]; rfl)
    rcases join hp hq with ⟨g1, g2, _⟩ | ⟨_, l, hl, h12, _⟩
    · exact absurd (by rw [g1, g2]; rfl) e4
    rcases join hp hr with ⟨g1, g2, _⟩ | ⟨_, m, hm, h13, _⟩
    · exact absurd (by rw [g1, g2]; rfl) e5
    have h32 := sub_ne h23
    have hi := mul_finv h32
    obtain ⟨u, hu⟩ : ∃ u, u * (x3 - x2) = m - l := ⟨(m - l) * finv (x3 - x2), by
      generalize finv (x3 - x2) = i at *
      grobner⟩
    have hu' : u * (x2 - x3) = l - m := by grobner
    rw [h12] at e1 ⊢
    rw [h13] at e2 ⊢
    have o4 := hl.on hp
    have o5 := hm.on hp
    rcases join o4 hr with ⟨g1, g2, _⟩ | ⟨_, s, hs, hS, hs'⟩
    · refine absurd ?_ e1
      simp only [neg]
      rw [g1, g2]
      congr 2
      grobner
    rcases join o5 hq with ⟨g1, g2, _⟩ | ⟨_, t, ht, hT, ht'⟩
    · refine absurd ?_ e2
      simp only [neg]
      rw [g1, g2]
      congr 2
      grobner
    have a1 : u * (l + s) = 1 := by
      by_cases hx : tx x1 x2 l = x3
      · obtain ⟨j1, j2, j3⟩ := hs' hx
        rw [hx, j1] at j3
        rw [j1] at j2
        exact keyT hl hm hu hx.symm j1.symm j3 j2
      · exact key hl hm hu h32 hs.1 (sub_ne hx)
    have a2 : u * (m + t) = 1 := by
      by_cases hx : tx x1 x3 m = x2
      · obtain ⟨j1, j2, j3⟩ := ht' hx
        rw [hx, j1] at j3
        rw [j1] at j2
        exact keyT hm hl hu' hx.symm j1.symm j3 j2
      · exact key hm hl hu' (sub_ne (Ne.symm h23)) ht.1 (sub_ne hx)
    obtain ⟨b1, b2⟩ := both hl hm hu a1 a2
    rw [hS, hT, b1, b2]
end

/-! multiples -/
section
variable {a b : F} (hD : 4 * (a * a * a) + 27 * (b * b) ≠ 0)
include hD
theorem assoc {p q r : Pt} (hp : OnC a b p) (hq : OnC a b q) (hr : OnC a b r) : padd a (padd a p q) r = padd a p (padd a q r) := by
  rw [padd_comm (a := a) p q, swap hD hq hp hr, padd_comm]
omit hD
/-- so often by itself -/
def sm (a : F) : Nat → Pt → Pt
  | 0, _ => none
  | n + 1, p => padd a (sm a n p) p
theorem sm_on {p : Pt} (hp : OnC a b p) : ∀ n, OnC a b (sm a n p)
  | 0 => trivial
  | n + 1 => padd_on (sm_on hp n) hp
theorem sm_none : ∀ n, sm a n none = none
  | 0 => rfl
  | n + 1 => by rw [sm, sm_none n]; rfl
theorem sm_one (p : Pt) : sm a 1 p = p := by cases p <;> rfl
include hD
theorem sm_add {p : Pt} (hp : OnC a b p) (m : Nat) : ∀ n, sm a (m + n) p = padd a (sm a m p) (sm a n p)
  | 0 => (padd_zero _).symm
  | n + 1 => by
    rw [← Nat.add_assoc, sm, sm, sm_add hp m n, assoc hD (sm_on hp m) (sm_on hp n) hp]
theorem sm_two {p : Pt} (hp : OnC a b p) (n : Nat) : sm a (2 * n) p = padd a (sm a n p) (sm a n p) := by
  rw [Nat.two_mul, sm_add hD hp]
theorem sm_mul {p : Pt} (hp : OnC a b p) (n : Nat) : ∀ m, sm a (m * n) p = sm a m (sm a n p)
  | 0 => by rw [Nat.zero_mul]; rfl
  | m + 1 => by rw [Nat.succ_mul, sm_add hD hp, sm, sm_mul hp n m]
theorem padd4 {p q r s : Pt} (hp : OnC a b p) (hq : OnC a b q) (hr : OnC a b r) (hs : OnC a b s) : padd a (padd a p q) (padd a r s) = padd a (padd a p r) (padd a q s) := by
  rw [assoc hD hp hq (padd_on hr hs), ← assoc hD hq hr hs, padd_comm (a := a) q r, assoc hD hr hq hs, ← assoc hD hp hr (padd_on hq hs)]
theorem sm_dist {p q : Pt} (hp : OnC a b p) (hq : OnC a b q) : ∀ n, sm a n (padd a p q) = padd a (sm a n p) (sm a n q)
  | 0 => rfl
  | n + 1 => by
    rw [sm, sm_dist hp hq n, sm, sm, padd4 hD (sm_on hp n) (sm_on hq n) hp hq]
end
end Go.Proofs.YtfaobdakpbpkbaaDoor.Ec
end
section
/-
  The formulas of the program (x/z^2, y/z^3) and of the document (x/z, y/z) compute the sums of XGrp, in plain Lean. Conditions: a is -3.
-/
namespace Go.Proofs.YtfaobdakpbpkbaaDoor.Ec
open Go.Proofs.YtfaobdakpbpkbaaDoor.Prim (P256 fermat_p)
attribute [local irreducible] Prim.P256
theorem finv_eq {x y : F} (h : x * y = 1) : finv x = y := by
  have hx : x ≠ 0 := fun e => by
    rw [e] at h
    exact two_ne (by grobner)
  have := mul_finv hx
  refine canc hx ?_
  rw [this, h]
def jac (x y z : F) : Pt := if z = 0 then none else some (x * (finv z * finv z), y * (finv z * finv z * finv z))
def prj (x y z : F) : Pt := if z = 0 then none else some (x * finv z, y * finv z)
theorem jac_zero (x y : F) : jac x y 0 = none := if_pos rfl
theorem prj_zero (x y : F) : prj x y 0 = none := if_pos rfl
theorem jac_of {x y z : F} (hz : z ≠ 0) : jac (x * (z * z)) (y * (z * z * z)) z = some (x, y) := by
  have := mul_finv hz
  unfold jac
  rw [if_neg hz]
  generalize finv z = i at *
  congr 2
  · grobner
  · grobner
theorem prj_of {x y z : F} (hz : z ≠ 0) : prj (x * z) (y * z) z = some (x, y) := by
  have := mul_finv hz
  unfold prj
  rw [if_neg hz]
  generalize finv z = i at *
  congr 2
  · grobner
  · grobner
theorem jac_par (x y : F) {z : F} (hz : z ≠ 0) : ∃ X Y, x = X * (z * z) ∧ y = Y * (z * z * z) := by
  have := mul_finv hz
  generalize finv z = i at *
  exact ⟨x * (i * i), y * (i * i * i), by grobner, by grobner⟩
theorem prj_par (x y : F) {z : F} (hz : z ≠ 0) : ∃ X Y, x = X * z ∧ y = Y * z := by
  have := mul_finv hz
  generalize finv z = i at *
  exact ⟨x * i, y * i, by grobner, by grobner⟩
theorem zz_zero {x y : F} : x * y = 0 ↔ x = 0 ∨ y = 0 := by
  constructor
  · intro h
    by_cases hx : x = 0
    · exact .inl hx
    · exact .inr (Classical.byContradiction fun hy => nz_mul hx hy h)
  · rintro (h | h) <;> rw [h] <;> grobner
/-- the program's doubling -/
def jdbl (p : F × F × F) : F × F × F :=
  if p.2.2 = 0 then p else
  let x := p.1; let y := p.2.1; let z := p.2.2
  let s2 := x * (y * y) + x * (y * y)
  let s := s2 + s2
  let t := (x - z * z) * (x + z * z)
  let m := t + t + t
  let x' := m * m - (s + s)
  let e0 := y * y * (y * y)
  let e1 := e0 + e0
  let e2 := e1 + e1
  let e := e2 + e2
  let yz := y * z
  (x', m * (s - x') - e, yz + yz)
/-- .. its sum -/
def jadd (p q : F × F × F) : F × F × F :=
  if p.2.2 = 0 then q else if q.2.2 = 0 then p else
  let az := p.2.2 * p.2.2; let bz := q.2.2 * q.2.2
  let u := p.1 * bz; let v := q.1 * az
  let s := p.2.1 * (bz * q.2.2); let t := q.2.1 * (az * p.2.2)
  let h := v - u; let r := t - s
  if h = 0 then (if r = 0 then jdbl p else (1, 1, 0)) else
  let hh := h * h
  let hhh := hh * h; let w := u * hh
  let x := r * r - hhh - (w + w)
  (x, r * (w - x) - s * hhh, h * (p.2.2 * q.2.2))
def jpt (p : F × F × F) : Pt := jac p.1 p.2.1 p.2.2
def ppt (p : F × F × F) : Pt := prj p.1 p.2.1 p.2.2
def A3 : F := -3
theorem tang_l {X Y : F} (hY : 2 * Y ≠ 0) : ∃ l, l * (2 * Y) = 3 * (X * X) + A3 ∧ padd A3 (some (X, Y)) (some (X, Y)) = some (tx X X l, ty X Y X l) := by
  have hi := mul_finv hY
  refine ⟨(3 * (X * X) + A3) * finv (2 * Y), ?_, ?_⟩
  · generalize finv (2 * Y) = i at *
    grobner
  · rw [padd_ss]
    unfold slope
    rw [if_neg, if_pos rfl]
    rintro ⟨_, h | h⟩
    · exact h rfl
    · exact hY (by rw [h]; grobner)
theorem tang_0 (X : F) : padd A3 (some (X, 0)) (some (X, 0)) = none := by
  rw [padd_ss, if_pos ⟨rfl, .inr rfl⟩]
theorem chord_l (a : F) {X1 Y1 X2 Y2 : F} (hx : X1 ≠ X2) : ∃ l, l * (X2 - X1) = Y2 - Y1 ∧ padd a (some (X1, Y1)) (some (X2, Y2)) = some (tx X1 X2 l, ty X1 Y1 X2 l) := by
  have hi := mul_finv (sub_ne hx)
  refine ⟨(Y2 - Y1) * finv (X2 - X1), ?_, ?_⟩
  · generalize finv (X2 - X1) = i at *
    grobner
  · rw [padd_ss]
    unfold slope
    rw [if_neg (fun h => hx h.1), if_neg hx]
theorem jdbl_pt (p : F × F × F) : jpt (jdbl p) = padd A3 (jpt p) (jpt p) := by
  obtain ⟨x, y, z⟩ := p
  unfold jdbl
  by_cases hz : z = 0
  · simp only [hz, if_true]
    unfold jpt
    rw [jac_zero]
    rfl
  · simp only [hz, if_false]
    obtain ⟨X, Y, rfl, rfl⟩ := jac_par x y hz
    unfold jpt
    simp only
    rw [jac_of hz]
    by_cases hY : Y = 0
    · subst hY
      rw [tang_0, show (0 : F) * (z * z * z) * z + 0 * (z * z * z) * z = 0 by grobner, jac_zero]
    · obtain ⟨l, hl, hp⟩ := tang_l (X := X) (nz_mul two_ne hY)
      rw [hp]
      have hZ : Y * (z * z * z) * z + Y * (z * z * z) * z ≠ 0 := by
        have := nz_mul two_ne (nz_mul hY (nz_mul (nz_mul hz hz) (nz_mul hz hz)))
        intro e
        exact this (by grobner)
      generalize hm : (X * (z * z) - z * z) * (X * (z * z) + z * z) = t
      have hm' : t + t + t = l * (Y * (z * z * z) * z + Y * (z * z * z) * z) := by
        rw [← hm]
        unfold A3 at hl
        clear hm hp hZ
        grobner
      rw [hm']
      clear hm hm' hl hp
      rw [← jac_of (x := tx X X l) (y := ty X Y X l) hZ]
      have e1 : l * (Y * (z * z * z) * z + Y * (z * z * z) * z) * (l * (Y * (z * z * z) * z + Y * (z * z * z) * z)) -
            (X * (z * z) * (Y * (z * z * z) * (Y * (z * z * z))) + X * (z * z) * (Y * (z * z * z) * (Y * (z * z * z))) + (X * (z * z) * (Y * (z * z * z) * (Y * (z * z * z))) + X * (z * z) * (Y * (z * z * z) * (Y * (z * z * z)))) +
              (X * (z * z) * (Y * (z * z * z) * (Y * (z * z * z))) + X * (z * z) * (Y * (z * z * z) * (Y * (z * z * z))) + (X * (z * z) * (Y * (z * z * z) * (Y * (z * z * z))) + X * (z * z) * (Y * (z * z * z) * (Y * (z * z * z)))))) =
          tx X X l * ((Y * (z * z * z) * z + Y * (z * z * z) * z) * (Y * (z * z * z) * z + Y * (z * z * z) * z)) := by
        unfold tx
        clear hZ
        grobner
      rw [e1]
      unfold ty
      generalize tx X X l = T
      congr 1
      clear hZ e1
      grobner
theorem jadd_pt (p q : F × F × F) : jpt (jadd p q) = padd A3 (jpt p) (jpt q) := by
  obtain ⟨x1, y1, z1⟩ := p
  obtain ⟨x2, y2, z2⟩ := q
  unfold jadd
  by_cases hz1 : z1 = 0
  · simp only [hz1, if_true]
    have : jpt (x1, y1, 0) = none := jac_zero _ _
    rw [this, zero_padd]
  by_cases hz2 : z2 = 0
  · simp only [hz1, hz2, if_true, if_false]
    have : jpt (x2, y2, 0) = none := jac_zero _ _
    rw [this, padd_zero]
  simp only [hz1, hz2, if_false]
  obtain ⟨X1, Y1, rfl, rfl⟩ := jac_par x1 y1 hz1
  obtain ⟨X2, Y2, rfl, rfl⟩ := jac_par x2 y2 hz2
  have p1 : jpt (X1 * (z1 * z1), Y1 * (z1 * z1 * z1), z1) = some (X1, Y1) := jac_of hz1
  have p2 : jpt (X2 * (z2 * z2), Y2 * (z2 * z2 * z2), z2) = some (X2, Y2) := jac_of hz2
  have hzz := nz_mul hz1 hz2
  have eh : X2 * (z2 * z2) * (z1 * z1) - X1 * (z1 * z1) * (z2 * z2) = (X2 - X1) * (z1 * z2 * (z1 * z2)) := by grobner
  have er : Y2 * (z2 * z2 * z2) * (z1 * z1 * z1) - Y1 * (z1 * z1 * z1) * (z2 * z2 * z2) = (Y2 - Y1) * (z1 * z2 * (z1 * z2) * (z1 * z2)) := by grobner
  rw [eh, er]
  have h0 : (X2 - X1) * (z1 * z2 * (z1 * z2)) = 0 ↔ X1 = X2 := by
    rw [zz_zero]
    constructor
    · rintro (h | h)
      · grobner
      · exact absurd h (nz_mul hzz hzz)
    · rintro rfl; left; grobner
  have r0 : (Y2 - Y1) * (z1 * z2 * (z1 * z2) * (z1 * z2)) = 0 ↔ Y1 = Y2 := by
    rw [zz_zero]
    constructor
    · rintro (h | h)
      · grobner
      · exact absurd h (nz_mul (nz_mul hzz hzz) hzz)
    · rintro rfl; left; grobner
  simp only [h0, r0]
  by_cases hx : X1 = X2
  · subst hx
    simp only [if_true]
    by_cases hy : Y1 = Y2
    · subst hy
      simp only [if_true]
      rw [jdbl_pt, p1, p2]
    · simp only [hy, if_false]
      rw [p1, p2, padd_ss, if_pos ⟨rfl, .inl hy⟩]
      exact jac_zero _ _
  · simp only [hx, if_false]
    obtain ⟨l, hl, hp⟩ := chord_l A3 (Y1 := Y1) (Y2 := Y2) hx
    rw [p1, p2, hp]
    have hZ : (X2 - X1) * (z1 * z2 * (z1 * z2)) * (z1 * z2) ≠ 0 := nz_mul (fun e => hx (h0.1 e)) hzz
    unfold jpt
    simp only
    rw [← jac_of (x := tx X1 X2 l) (y := ty X1 Y1 X2 l) hZ, ← hl]
    clear hl hp r0 h0 er eh p1 p2 hZ hzz hx hz1 hz2
    have e1 : l * (X2 - X1) * (z1 * z2 * (z1 * z2) * (z1 * z2)) * (l * (X2 - X1) * (z1 * z2 * (z1 * z2) * (z1 * z2))) -
          (X2 - X1) * (z1 * z2 * (z1 * z2)) * ((X2 - X1) * (z1 * z2 * (z1 * z2))) * ((X2 - X1) * (z1 * z2 * (z1 * z2))) -
        (X1 * (z1 * z1) * (z2 * z2) * ((X2 - X1) * (z1 * z2 * (z1 * z2)) * ((X2 - X1) * (z1 * z2 * (z1 * z2)))) + X1 * (z1 * z1) * (z2 * z2) * ((X2 - X1) * (z1 * z2 * (z1 * z2)) * ((X2 - X1) * (z1 * z2 * (z1 * z2))))) =
        tx X1 X2 l * ((X2 - X1) * (z1 * z2 * (z1 * z2)) * (z1 * z2) * ((X2 - X1) * (z1 * z2 * (z1 * z2)) * (z1 * z2))) := by
      unfold tx
      grobner
    rw [e1]
    unfold ty
    generalize tx X1 X2 l = T
    congr 1
    grobner
/-- the document's doubling -/
def pdbl (p : F × F × F) : F × F × F :=
  if p.2.2 = 0 then p else
  let x := p.1; let y := p.2.1; let z := p.2.2
  let w0 := x * x - z * z
  let w := w0 + w0 + w0
  let s := y * z
  let ys := y * s
  let q := x * ys
  let q4 := q + q + (q + q)
  let h := w * w - (q4 + q4)
  let hs := h * s
  let yy := ys * ys
  let y8 := yy + yy + (yy + yy) + (yy + yy + (yy + yy))
  let sss := s * (s * s)
  let z' := sss + sss + (sss + sss)
  (hs + hs, w * (q4 - h) - y8, z' + z')
def pplus (p q : F × F × F) : F × F × F :=
  if p.2.2 = 0 then q else if q.2.2 = 0 then p else
  let y1 := p.2.1 * q.2.2; let x1 := p.1 * q.2.2
  let u := q.2.1 * p.2.2 - y1; let v := q.1 * p.2.2 - x1
  if v = 0 then (if u = 0 then pdbl p else (1, 1, 0)) else
  let zz := p.2.2 * q.2.2
  let vv := v * v
  let vvv := v * vv
  let r := vv * x1
  let a := u * u * zz - vvv - (r + r)
  (v * a, u * (r - a) - vvv * y1, vvv * zz)
theorem pdbl_pt (p : F × F × F) : ppt (pdbl p) = padd A3 (ppt p) (ppt p) := by
  obtain ⟨x, y, z⟩ := p
  unfold pdbl
  by_cases hz : z = 0
  · simp only [hz, if_true]
    unfold ppt
    rw [prj_zero]
    rfl
  · simp only [hz, if_false]
    obtain ⟨X, Y, rfl, rfl⟩ := prj_par x y hz
    unfold ppt
    simp only
    rw [prj_of hz]
    by_cases hY : Y = 0
    · subst hY
      rw [tang_0]
      have e : (0 : F) * z * z = 0 := by grobner
      rw [e]
      have e2 : (0 : F) * (0 * 0) + 0 * (0 * 0) + (0 * (0 * 0) + 0 * (0 * 0)) + (0 * (0 * 0) + 0 * (0 * 0) + (0 * (0 * 0) + 0 * (0 * 0))) = 0 := by grobner
      rw [e2, prj_zero]
    · obtain ⟨l, hl, hp⟩ := tang_l (X := X) (nz_mul two_ne hY)
      rw [hp]
      have hZ : 2 * Y * (z * z) ≠ 0 := nz_mul (nz_mul two_ne hY) (nz_mul hz hz)
      have hZ3 := nz_mul (nz_mul hZ hZ) hZ
      rw [← prj_of (x := tx X X l) (y := ty X Y X l) hZ3]
      generalize hw : X * z * (X * z) - z * z = w
      have hw' : w + w + w = l * (2 * Y * (z * z)) := by
        rw [← hw]
        unfold A3 at hl
        clear hw hp hZ hZ3
        grobner
      rw [hw']
      clear hw hw' hl hp hZ hZ3
      have e3 : Y * z * z * (Y * z * z * (Y * z * z)) + Y * z * z * (Y * z * z * (Y * z * z)) + (Y * z * z * (Y * z * z * (Y * z * z)) + Y * z * z * (Y * z * z * (Y * z * z))) + (Y * z * z * (Y * z * z * (Y * z * z)) + Y * z * z * (Y * z * z * (Y * z * z)) + (Y * z * z * (Y * z * z * (Y * z * z)) + Y * z * z * (Y * z * z * (Y * z * z)))) = 2 * Y * (z * z) * (2 * Y * (z * z)) * (2 * Y * (z * z)) := by grobner
      rw [e3]
      unfold ty tx
      congr 1
      · grobner
      · grobner
theorem pplus_pt (p q : F × F × F) : ppt (pplus p q) = padd A3 (ppt p) (ppt q) := by
  obtain ⟨x1, y1, z1⟩ := p
  obtain ⟨x2, y2, z2⟩ := q
  unfold pplus
  by_cases hz1 : z1 = 0
  · simp only [hz1, if_true]
    have : ppt (x1, y1, 0) = none := prj_zero _ _
    rw [this, zero_padd]
  by_cases hz2 : z2 = 0
  · simp only [hz1, hz2, if_true, if_false]
    have : ppt (x2, y2, 0) = none := prj_zero _ _
    rw [this, padd_zero]
  simp only [hz1, hz2, if_false]
  obtain ⟨X1, Y1, rfl, rfl⟩ := prj_par x1 y1 hz1
  obtain ⟨X2, Y2, rfl, rfl⟩ := prj_par x2 y2 hz2
  have p1 : ppt (X1 * z1, Y1 * z1, z1) = some (X1, Y1) := prj_of hz1
  have p2 : ppt (X2 * z2, Y2 * z2, z2) = some (X2, Y2) := prj_of hz2
  have hzz := nz_mul hz1 hz2
  have eh : X2 * z2 * z1 - X1 * z1 * z2 = (X2 - X1) * (z1 * z2) := by grobner
  have er : Y2 * z2 * z1 - Y1 * z1 * z2 = (Y2 - Y1) * (z1 * z2) := by grobner
  rw [eh, er]
  have h0 : (X2 - X1) * (z1 * z2) = 0 ↔ X1 = X2 := by
    rw [zz_zero]
    constructor
    · rintro (h | h)
      · grobner
      · exact absurd h hzz
    · rintro rfl; left; grobner
  have r0 : (Y2 - Y1) * (z1 * z2) = 0 ↔ Y1 = Y2 := by
    rw [zz_zero]
    constructor
    · rintro (h | h)
      · grobner
      · exact absurd h hzz
    · rintro rfl; left; grobner
  simp only [h0, r0]
  by_cases hx : X1 = X2
  · subst hx
    simp only [if_true]
    by_cases hy : Y1 = Y2
    · subst hy
      simp only [if_true]
      rw [pdbl_pt, p1, p2]
    · simp only [hy, if_false]
      rw [p1, p2, padd_ss, if_pos ⟨rfl, .inl hy⟩]
      exact prj_zero _ _
  · simp only [hx, if_false]
    obtain ⟨l, hl, hp⟩ := chord_l A3 (Y1 := Y1) (Y2 := Y2) hx
    rw [p1, p2, hp]
    have hv := fun e => hx (h0.1 e)
    have hZ : (X2 - X1) * (z1 * z2) * ((X2 - X1) * (z1 * z2) * ((X2 - X1) * (z1 * z2))) * (z1 * z2) ≠ 0 := nz_mul (nz_mul hv (nz_mul hv hv)) hzz
    unfold ppt
    simp only
    rw [← prj_of (x := tx X1 X2 l) (y := ty X1 Y1 X2 l) hZ, ← hl]
    clear hl hp r0 h0 er eh p1 p2 hZ hzz hx hz1 hz2 hv
    unfold ty tx
    congr 1
    · grobner
    · grobner
end Go.Proofs.YtfaobdakpbpkbaaDoor.Ec
end
section
/-
  A region in any order: which operations are ready; operations that come one behind the other.
-/
namespace Go.Pt
open Go.RowKit

/-- the operation o waits for the j-th -/
def waits (o : Oper) (j : Nat) : Bool := o.after.toList.any fun e => Nat.beq e.on j && Region.binds .any e
/-- each of the first m is awaited by a later one up to the m-th; from the m-th on each awaits the one before; none awaits a later one -/
def chainB (l : List Oper) (m : Nat) : Bool :=
  Nat.blt m l.length &&
  ((List.range m).all fun i => (List.range (m + 1)).any fun j => Nat.blt i j && (match l[j]? with | some o => waits o i | none => false)) &&
  ((List.range l.length).all fun i => Nat.ble i m || (match l[i]? with | some o => waits o (i - 1) | none => false)) &&
  ((List.range l.length).all fun i => match l[i]? with | some o => o.after.toList.all (fun e => !(Region.binds .any e) || Nat.blt e.on i) | none => true)
theorem waits_out {o : Oper} {j : Nat} (h : waits o j = true) : ∃ e ∈ o.after.toList, e.on = j ∧ Region.binds .any e = true := by
  obtain ⟨e, h1, h2⟩ := List.any_eq_true.1 h
  rw [Bool.and_eq_true] at h2
  exact ⟨e, h1, Nat.eq_of_beq_eq_true h2.1, h2.2⟩
structure Chain (l : List Oper) (m : Nat) : Prop where
  lt : m < l.length
  pre : ∀ i, i < m → ∃ (j : Nat) (o : Oper), i < j ∧ j ≤ m ∧ l[j]? = some o ∧ ∃ e ∈ o.after.toList, e.on = i ∧ Region.binds .any e = true
  next : ∀ (i : Nat) (o : Oper), m < i → l[i]? = some o → ∃ e ∈ o.after.toList, e.on = i - 1 ∧ Region.binds .any e = true
  back : ∀ (i : Nat) (o : Oper), l[i]? = some o → ∀ e ∈ o.after.toList, Region.binds .any e = true → e.on < i
theorem chainB_out {l : List Oper} {m : Nat} (h : chainB l m = true) : Chain l m := by
  unfold chainB at h
  simp only [Bool.and_eq_true] at h
  obtain ⟨⟨⟨h0, h1⟩, h2⟩, h3⟩ := h
  refine ⟨Nat.le_of_ble_eq_true h0, fun i hi => ?_, fun i o hi ho => ?_, fun i o ho e he hb => ?_⟩
  · have := List.all_eq_true.1 h1 i (List.mem_range.2 hi)
    obtain ⟨j, hj, hj2⟩ := List.any_eq_true.1 this
    rw [Bool.and_eq_true] at hj2
    have hjm := List.mem_range.1 hj
    cases ho : l[j]? with
    | none => rw [ho] at hj2; cases hj2.2
    | some o =>
      rw [ho] at hj2
      exact ⟨j, o, Nat.le_of_ble_eq_true hj2.1, by omega, ho, waits_out hj2.2⟩
  · have hil := (List.getElem?_eq_some_iff.1 ho).1
    have := List.all_eq_true.1 h2 i (List.mem_range.2 hil)
    rw [ho, Bool.or_eq_true] at this
    rcases this with h | h
    · have := Nat.le_of_ble_eq_true h; omega
    · exact waits_out h
  · have hil := (List.getElem?_eq_some_iff.1 ho).1
    have := List.all_eq_true.1 h3 i (List.mem_range.2 hil)
    rw [ho] at this
    have := List.all_eq_true.1 this e he
    rw [hb, Bool.not_true, Bool.false_or] at this
    exact Nat.le_of_ble_eq_true this
theorem getD_tf {x : Array Bool} {i : Nat} (h : i < x.size) : x.getD i true = x.getD i false := by
  simp [Array.getD_eq_getD_getElem?, h]
theorem ready_iff {l : List Oper} {listed : Array Bool} {i : Nat} {o : Oper} (ho : l[i]? = some o) : i ∈ Region.ready .any l.toArray listed ↔ listed.getD i true = false ∧ ∀ e ∈ o.after.toList, Region.binds .any e = true → listed.getD e.on false = true := by
  have hil := (List.getElem?_eq_some_iff.1 ho).1
  have hoa : l.toArray[i]? = some o := by simpa using ho
  unfold Region.ready
  rw [List.mem_filter]
  simp only [List.size_toArray, List.mem_range, hoa, Option.map_some, Option.getD_some, Bool.and_eq_true, Bool.not_eq_true', Array.all_eq_true', Bool.or_eq_true]
  constructor
  · rintro ⟨_, h1, h2⟩
    exact ⟨h1, fun e he hb => (h2 e (by simpa using he)).elim (fun y => by rw [hb] at y; cases y) id⟩
  · rintro ⟨h1, h2⟩
    refine ⟨hil, h1, fun e he => ?_⟩
    cases hb : Region.binds .any e with
    | false => exact .inl rfl
    | true => exact .inr (h2 e (by simpa using he) hb)
theorem ready_lt {l : List Oper} {listed : Array Bool} {i : Nat} (h : i ∈ Region.ready .any l.toArray listed) : i < l.length := by
  unfold Region.ready at h
  rw [List.mem_filter] at h
  simpa using h.1
/-- from the m-th on: one behind the other -/
theorem tail_run {P : Program} {l : List Oper} {m : Nat} {Q : Exit → Act → World → Prop} (hch : Chain l m) : ∀ (rest : List Oper) (k : Nat), l.drop k = rest → m ≤ k → ∀ n (listed : Array Bool) a w, listed.size = l.length → (∀ j, j < k → j < l.length → listed.getD j true = true) →
    (∀ j, k ≤ j → j < l.length → listed.getD j true = false) → n = l.length - k → wpList P l.toArray Q rest a w → wpAny P .any l.toArray Q n listed a w := by
  intro rest
  induction rest with
  | nil =>
    intro k hk hmk n listed a w hsz h1 h2 hn h
    have hl : l.length ≤ k := by simpa using hk
    have hr : Region.ready .any l.toArray listed = [] := by
      rw [List.eq_nil_iff_forall_not_mem]
      intro i hi
      have hil := ready_lt hi
      have := ((ready_iff (List.getElem?_eq_getElem hil)).1 hi).1
      rw [h1 i (by omega) hil] at this
      cases this
    have hn0 : n = 0 := by omega
    subst hn0
    exact ⟨hr, h⟩
  | cons o rest ih =>
    intro k hk hmk n listed a w hsz h1 h2 hn h
    have hkl : k < l.length := by
      rcases Nat.lt_or_ge k l.length with h | h
      · exact h
      · rw [List.drop_eq_nil_of_le h] at hk; cases hk
    have ho : l[k]? = some o := by
      have := List.getElem?_drop (xs := l) (i := k) (j := 0)
      rw [hk] at this
      simpa using this.symm
    have hrk : k ∈ Region.ready .any l.toArray listed := (ready_iff ho).2 ⟨h2 k (Nat.le_refl _) hkl, fun e he hb => by
      have hek := hch.back k o ho e he hb
      rw [← getD_tf (by omega)]
      exact h1 e.on hek (by omega)⟩
    have hn' : n = (l.length - (k + 1)) + 1 := by omega
    subst hn'
    refine ⟨fun hr => (by rw [hr] at hrk; cases hrk), fun i hi => ?_⟩
    have hil := ready_lt hi
    have hio := (ready_iff (List.getElem?_eq_getElem hil)).1 hi
    have hik : i = k := by
      rcases Nat.lt_trichotomy i k with h | h | h
      · rw [h1 i h hil] at hio; cases hio.1
      · exact h
      · obtain ⟨e, he, he1, he2⟩ := hch.next i _ (by omega) (List.getElem?_eq_getElem hil)
        have := hio.2 e he he2
        rw [← getD_tf (by omega), he1, h2 (i - 1) (by omega) (by omega)] at this
        cases this
    subst hik
    have hoa : l.toArray[i]? = some o := by simpa using ho
    have hK : ∀ a' w', wpList P l.toArray Q rest a' w' → wpAny P .any l.toArray Q (l.length - (i + 1)) (listed.setIfInBounds i true) a' w' := fun a' w' h' => by
      refine ih (i + 1) ?_ (by omega) _ _ a' w' (by simp [hsz]) (fun j hj hjl => ?_) (fun j hj hjl => ?_) rfl h'
      · rw [← List.drop_drop, hk]; rfl
      · by_cases e : i = j
        · subst e; simp [Array.getD_eq_getD_getElem?, hsz, hil]
        · rw [getD_set e]; exact h1 j (by omega) hjl
      · rw [getD_set (by omega)]; exact h2 j (by omega) hjl
    unfold wpOp
    simp only [hoa]
    simp only [wpList] at h
    split
    · rename_i hw
      rw [if_pos hw] at h
      exact h.imp (fun h => Oper.wp_mono hK h) id
    · rename_i hw
      rw [if_neg hw] at h
      exact hK _ _ h
end Go.Pt
end
section
/-
  A region in any order whose first operations yield one value each, whatever the order, or make one new block each; the rest comes behind all of these, one behind the other. One walk in the order of the text serves.
-/
namespace Go.Pt
open Go.RowKit

/-- what an operation yields: one value, whatever the order; or a new block -/
inductive Kn
  | v (x : Value)
  | b (t : TypeId) (cs : List Value)
def DepX (l : List Oper) (ks : List Kn) (K : Env → Prop) : List Edge → Env → Prop
  | [], Γ => K Γ
  | e :: es, Γ => if Region.binds .any e then (match ks[e.on]? with
    | some (.v x) => DepX l ks K es ((dstAt l e.on, x) :: Γ)
    | _ => DepX l ks K es Γ) else DepX l ks K es Γ
def PostX (N d : Nat) (x : Value) (D : World → Prop) : Exit → Act → World → Prop := fun e a w => e = .normal ∧ Fr N a [(d, x)] ∧ D w
def PostB (N d : Nat) (t : TypeId) (cs : List Value) (w0 : World) (H : List Blk) : Exit → Act → World → Prop := fun e a w => e = .normal ∧ ∃ c, w0.heap.size ≤ c ∧ Off H c ∧ Fr N a [(d, .pointer (some ⟨c, 0, none⟩))] ∧ Hp w0 (⟨c, cs, t⟩ :: H) w
def NewX (w0 : World) (X : List Blk) : Prop := ∀ y ∈ X, w0.heap.size ≤ y.b
inductive OpsX (P : Program) (l : List Oper) (N : Nat) (Γ : Env) (w0 : World) (H : List Blk) (all : List Kn) : List Oper → List Kn → Prop
  | nil : OpsX P l N Γ w0 H all [] []
  | v {o : Oper} {rest : List Oper} {x : Value} {tl : List Kn} (h : ∀ X, NewX w0 X → DepX l all (fun Γ' => Wl [o] P .seq l.toArray N Γ' (Hp w0 (H ++ X)) (PostX N (dstO o) x (Hp w0 (H ++ X)))) o.after.toList Γ) (hs : OpsX P l N Γ w0 H all rest tl) : OpsX P l N Γ w0 H all (o :: rest) (.v x :: tl)
  | b {d t : Nat} {ty : TypeId} {pos : String} {af : Array Edge} {rest : List Oper} {z : Value} {tl : List Kn} [hz : TyZ P t z] (hd : Nat.blt d N = true) (hs : OpsX P l N Γ w0 H all rest tl) : OpsX P l N Γ w0 H all (⟨some d, .alloc t, ty, pos, af, none⟩ :: rest) (.b t z.cells.toList :: tl)
def keepX (sel : List Nat) (tail : List Oper) (i : Nat) : Bool := (sel.any (Nat.beq i)) || tail.any fun o => o.after.toList.any fun e => Nat.beq e.on i && (match e.ground with | .data => true | _ => false)
def EndX (kp : Nat → Bool) (w0 : World) (H : List Blk) (K : Env → List Blk → Prop) : List Oper → List Kn → Nat → Env → List Blk → Prop
  | [], _, _, Γ, B => K Γ B
  | _ :: _, [], _, Γ, B => K Γ B
  | o :: os, .v x :: ks, i, Γ, B => EndX kp w0 H K os ks (i + 1) (bif kp i then (dstO o, x) :: Γ else Γ) B
  | o :: os, .b t cs :: ks, i, Γ, B => ∀ c, w0.heap.size ≤ c → Off (B ++ H) c → EndX kp w0 H K os ks (i + 1) ((dstO o, .pointer (some ⟨c, 0, none⟩)) :: Γ) (⟨c, cs, t⟩ :: B)
theorem apart_append {H X : List Blk} (h : Apart H) (hx : ∀ x ∈ X, Off H x.b) (hX : Apart X) : Apart (H ++ X) := by
  induction H with
  | nil => exact hX
  | cons y r ih => exact ⟨Off.of fun x hm => by
      rcases List.mem_append.1 hm with hm | hm
      · exact h.1.at hm
      · exact fun e => (hx x hm).1 e.symm, ih h.2 fun x hm => (hx x hm).2⟩
theorem off_append {H X : List Blk} {c : Nat} (h : Off H c) (hX : Off X c) : Off (H ++ X) c := Off.of fun x hm => (List.mem_append.1 hm).elim (fun h1 => h.at h1) fun h1 => hX.at h1
theorem off_left {H X : List Blk} {c : Nat} (h : Off (H ++ X) c) : Off H c := Off.of fun _ hm => h.at (List.mem_append_left _ hm)
theorem off_right {H X : List Blk} {c : Nat} (h : Off (H ++ X) c) : Off X c := Off.of fun _ hm => h.at (List.mem_append_right _ hm)
theorem hp_left {w0 w : World} {H X : List Blk} (h : Hp w0 (H ++ X) w) (hX : NewX w0 X) : Hp w0 H w := by
  refine ⟨h.upd.mono fun k hk hn ho => hn (off_append ho (Off.of fun x hm e => by have := hX x hm; omega)), Own.of fun x hm => h.own.at (List.mem_append_left _ hm), ?_⟩
  have := h.apart
  clear h
  induction H with
  | nil => trivial
  | cons y r ih => exact ⟨off_left this.1, ih this.2⟩

theorem OpsX.out {P : Program} {l : List Oper} {N : Nat} {Γ : Env} {w0 : World} {H : List Blk} {all : List Kn} {l' : List Oper} {tl : List Kn} (h : OpsX P l N Γ w0 H all l' tl) {i : Nat} {o : Oper} (hi : l'[i]? = some o) :
    (∃ x, tl[i]? = some (.v x) ∧ ∀ X, NewX w0 X → DepX l all (fun Γ' => Wl [o] P .seq l.toArray N Γ' (Hp w0 (H ++ X)) (PostX N (dstO o) x (Hp w0 (H ++ X)))) o.after.toList Γ) ∨
    (∃ t cs, tl[i]? = some (.b t cs) ∧ ∀ X, Wl [o] P .seq l.toArray N Γ (Hp w0 (H ++ X)) (PostB N (dstO o) t cs w0 (H ++ X))) := by
  induction h generalizing i with
  | nil => simp at hi
  | @v o' rest x tl h hs ih =>
    cases i with
    | zero => simp only [List.getElem?_cons_zero, Option.some.injEq] at hi; subst hi; exact .inl ⟨x, rfl, h⟩
    | succ i => simpa using ih (i := i) (by simpa using hi)
  | @b d t ty pos af rest z tl hz hd hs ih =>
    cases i with
    | zero =>
      simp only [List.getElem?_cons_zero, Option.some.injEq] at hi
      subst hi
      refine .inr ⟨t, z.cells.toList, rfl, fun X => ?_⟩
      apply Wl.alloc hd
      intro c hc ho
      apply Wl.nil
      exact Gt.intro fun a w ha hw => ⟨rfl, c, hc, ho, ha.sub (.cons (by simp [look, dstO]) .nil), hw⟩
    | succ i => simpa using ih (i := i) (by simpa using hi)
theorem OpsX.len {P : Program} {l : List Oper} {N : Nat} {Γ : Env} {w0 : World} {H : List Blk} {all : List Kn} {l' : List Oper} {tl : List Kn} (h : OpsX P l N Γ w0 H all l' tl) : tl.length = l'.length := by
  induction h with
  | nil => rfl
  | v _ _ ih => simp [ih]
  | b _ _ ih => simp [ih]
theorem DepX.run {l : List Oper} {ks : List Kn} {K : Env → Prop} {N : Nat} {a : Act} {es : List Edge} {Γ : Env} (h : DepX l ks K es Γ) (ha : Fr N a Γ)
    (hes : ∀ e ∈ es, Region.binds .any e = true → ∀ x, ks[e.on]? = some (.v x) → a.tmps[dstAt l e.on]? = some x) : ∃ Γ', Fr N a Γ' ∧ K Γ' := by
  induction es generalizing Γ with
  | nil => exact ⟨Γ, ha, h⟩
  | cons e es ih =>
    unfold DepX at h
    split at h
    · rename_i hb
      split at h
      · rename_i x hx
        exact ih h (ha.cons (hes e (by simp) hb x hx)) fun e he => hes e (by simp [he])
      · exact ih h ha fun e he => hes e (by simp [he])
    · exact ih h ha fun e he => hes e (by simp [he])

structure InvX (l : List Oper) (m N : Nat) (Γ : Env) (w0 : World) (H : List Blk) (ks : List Kn) (f : Nat → Nat) (listed : Array Bool) (a : Act) (w : World) : Prop where
  fr : Fr N a Γ
  hp : Hp w0 H w
  val : ∀ i o x, i < m → l[i]? = some o → ks[i]? = some (.v x) → listed.getD i true = true → a.tmps[dstO o]? = some x
  ptr : ∀ i o t cs, i < m → l[i]? = some o → ks[i]? = some (.b t cs) → listed.getD i true = true → a.tmps[dstO o]? = some (.pointer (some ⟨f i, 0, none⟩)) ∧ w0.heap.size ≤ f i ∧ Off H (f i) ∧ w.heap[f i]? = some (.cells cs.toArray t (0, 0))
  inj : ∀ i j t cs t' cs', i < j → j < m → ks[i]? = some (.b t cs) → ks[j]? = some (.b t' cs') → listed.getD i true = true → listed.getD j true = true → f i ≠ f j
def blkX (f : Nat → Nat) (listed : Array Bool) (ks : List Kn) (i : Nat) : Option Blk := match ks[i]? with
  | some (.b t cs) => if listed.getD i true then some ⟨f i, cs, t⟩ else none
  | _ => none
theorem blkX_some {f : Nat → Nat} {listed : Array Bool} {ks : List Kn} {i : Nat} {x : Blk} (h : blkX f listed ks i = some x) : ∃ t cs, ks[i]? = some (.b t cs) ∧ listed.getD i true = true ∧ x = ⟨f i, cs, t⟩ := by
  unfold blkX at h
  split at h
  · rename_i t cs hk
    split at h
    · rename_i hl; cases h; exact ⟨t, cs, hk, hl, rfl⟩
    · cases h
  · cases h
theorem apart_map {g : Nat → Option Blk} (n : Nat) (h : ∀ i j x y, i < j → j < n → g i = some x → g j = some y → x.b ≠ y.b) : Apart ((List.range n).reverse.filterMap g) := by
  induction n with
  | zero => trivial
  | succ n ih =>
    rw [List.range_succ, List.reverse_append, List.reverse_singleton, List.singleton_append, List.filterMap_cons]
    have ih := ih fun i j x y hij hj => h i j x y hij (by omega)
    cases hg : g n with
    | none => exact ih
    | some x =>
      refine ⟨Off.of fun y hy => ?_, ih⟩
      obtain ⟨i, hi, hgi⟩ := List.mem_filterMap.1 hy
      exact h i n y x (by simpa using hi) (by omega) hgi hg
def blksX (f : Nat → Nat) (listed : Array Bool) (ks : List Kn) (m : Nat) : List Blk := (List.range m).reverse.filterMap (blkX f listed ks)
theorem InvX.full {l : List Oper} {m N : Nat} {Γ : Env} {w0 : World} {H : List Blk} {ks : List Kn} {f : Nat → Nat} {listed : Array Bool} {a : Act} {w : World} (hml : m ≤ l.length) (h : InvX l m N Γ w0 H ks f listed a w) :
    NewX w0 (blksX f listed ks m) ∧ Hp w0 (H ++ blksX f listed ks m) w := by
  have key : ∀ x ∈ blksX f listed ks m, w0.heap.size ≤ x.b ∧ Off H x.b ∧ w.heap[x.b]? = some (.cells x.cs.toArray x.t (0, 0)) := fun x hx => by
    obtain ⟨i, hi, hgi⟩ := List.mem_filterMap.1 hx
    obtain ⟨t, cs, hk, hl, rfl⟩ := blkX_some hgi
    have him : i < m := by simpa using hi
    obtain ⟨_, h2, h3, h4⟩ := h.ptr i _ t cs him (List.getElem?_eq_getElem (by omega)) hk hl
    exact ⟨h2, h3, h4⟩
  refine ⟨fun x hx => (key x hx).1, ⟨h.hp.upd.mono fun k hk hn ho => hn (off_left ho), Own.of fun x hx => ?_, apart_append h.hp.apart (fun x hx => (key x hx).2.1) (apart_map m fun i j x y hij hj hx hy => ?_)⟩⟩
  · rcases List.mem_append.1 hx with hx | hx
    · exact h.hp.own.at hx
    · exact (key x hx).2.2
  · obtain ⟨t, cs, hk, hl, rfl⟩ := blkX_some hx
    obtain ⟨t', cs', hk', hl', rfl⟩ := blkX_some hy
    exact h.inj i j t cs t' cs' hij hj hk hk' hl hl'
theorem mem_blksX {f : Nat → Nat} {listed : Array Bool} {ks : List Kn} {m i : Nat} {t : TypeId} {cs : List Value} (hi : i < m) (hk : ks[i]? = some (.b t cs)) (hl : listed.getD i true = true) : (⟨f i, cs, t⟩ : Blk) ∈ blksX f listed ks m :=
  List.mem_filterMap.2 ⟨i, by simpa using hi, by unfold blkX; rw [hk]; simp only; rw [if_pos hl]⟩
def bagXB (l : List Oper) (N : Nat) (Γ : Env) : Nat → List Oper → Bool
  | _, [] => true
  | i, o :: rest => (match o.dst with | some d => Nat.blt d N && !(Γ.any fun p => Nat.beq p.1 d) && rest.all fun o' => !(Nat.beq (dstO o') d) | none => false) && o.after.toList.all (fun e => !(Region.binds .any e) || Nat.blt e.on i) && bagXB l N Γ (i + 1) rest
theorem bagXB_out {l : List Oper} {N : Nat} {Γ : Env} {k : Nat} {l' : List Oper} (h : bagXB l N Γ k l' = true) {i : Nat} {o : Oper} (hi : l'[i]? = some o) :
    o.dst = some (dstO o) ∧ dstO o < N ∧ (∀ t v, look Γ t = some v → t ≠ dstO o) ∧ (∀ e ∈ o.after.toList, Region.binds .any e = true → e.on < k + i) ∧ ∀ j o', i < j → l'[j]? = some o' → dstO o' ≠ dstO o := by
  induction l' generalizing k i with
  | nil => simp at hi
  | cons x rest ih =>
    simp only [bagXB, Bool.and_eq_true] at h
    obtain ⟨⟨h1, h2⟩, h3⟩ := h
    cases i with
    | zero =>
      simp only [List.getElem?_cons_zero, Option.some.injEq] at hi
      subst hi
      cases hd : x.dst with
      | none => rw [hd] at h1; cases h1
      | some d =>
        rw [hd] at h1
        simp only [Bool.and_eq_true, Bool.not_eq_true', List.all_eq_true] at h1
        obtain ⟨⟨h1, h4⟩, h5⟩ := h1
        have hx : dstO x = d := by simp [dstO, hd]
        rw [hx]
        refine ⟨rfl, Nat.le_of_ble_eq_true h1, fun t v ht e => ?_, fun e he hb => ?_, fun j o' hj ho' e => ?_⟩
        · rw [← e, look_any ht] at h4; cases h4
        · have := List.all_eq_true.1 h2 e he
          rw [hb, Bool.not_true, Bool.false_or] at this
          exact Nat.le_of_ble_eq_true this
        · cases j with
          | zero => omega
          | succ j =>
            have := h5 o' (List.mem_of_getElem? (by simpa using ho'))
            rw [e] at this
            simp at this
    | succ i =>
      have := ih h3 (i := i) (by simpa using hi)
      refine ⟨this.1, this.2.1, this.2.2.1, fun e he hb => by have := this.2.2.2.1 e he hb; omega, fun j o' hj ho' => ?_⟩
      cases j with
      | zero => omega
      | succ j => exact this.2.2.2.2 j o' (by omega) (by simpa using ho')

theorem InvX.step {P : Program} {l : List Oper} {m N : Nat} {Γ : Env} {w0 : World} {H : List Blk} {ks : List Kn} {f : Nat → Nat} {Q : Exit → Act → World → Prop} {listed : Array Bool} {a : Act} {w : World} (hml : m ≤ l.length) (hc : bagXB l N Γ 0 (l.take m) = true)
    (hops : OpsX P l N Γ w0 H ks (l.take m) ks) (hi : InvX l m N Γ w0 H ks f listed a w) {i : Nat} (him : i < m) (hr : i ∈ Region.ready .any l.toArray listed) {K : Act → World → Prop}
    (hK : ∀ f' a' w', InvX l m N Γ w0 H ks f' (listed.setIfInBounds i true) a' w' → K a' w') : wpOp P l.toArray Q i K a w := by
  have hlt := ready_lt hr
  have hol : l[i]? = some l[i] := List.getElem?_eq_getElem hlt
  have hedges := ((ready_iff hol).1 hr).2
  have hunl := ((ready_iff hol).1 hr).1
  have ho : (l.take m)[i]? = some l[i] := by rw [List.getElem?_take_of_lt him]; exact hol
  generalize l[i] = o at ho hol hedges
  have hoa : l.toArray[i]? = some o := by simpa using hol
  obtain ⟨hd, hdN, hΓ, hed, hlater⟩ := bagXB_out hc ho
  have hdst : ∀ j oj, j < m → l[j]? = some oj → i ≠ j → dstO oj ≠ dstO o := fun j oj hj hjo e => by
    have hjo' : (l.take m)[j]? = some oj := by rw [List.getElem?_take_of_lt hj]; exact hjo
    rcases Nat.lt_or_gt_of_ne e with e | e
    · exact hlater j oj e hjo'
    · exact fun e' => (bagXB_out hc hjo').2.2.2.2 i o e ho e'.symm
  obtain ⟨hnew, hfull⟩ := hi.full hml
  have hdep : ∀ e ∈ o.after.toList, Region.binds .any e = true → ∀ x, ks[e.on]? = some (.v x) → a.tmps[dstAt l e.on]? = some x := fun e he hb x hx => by
    have h1 := hedges e (by simpa using he) hb
    have h2 := hed e he hb
    have h3 : l[e.on]? = some l[e.on] := List.getElem?_eq_getElem (by omega)
    have := hi.val e.on _ x (by omega) h3 hx (by
      simp only [Array.getD_eq_getD_getElem?] at h1 ⊢
      cases hx : listed[e.on]? with
      | none => rfl
      | some b => rw [hx] at h1; exact h1)
    unfold dstAt
    rw [h3]
    exact this
  have fin : ∀ (Post : Exit → Act → World → Prop), wpList P l.toArray Post [o] a w → (∀ e a' w', Post e a' w' → e = .normal) → (∀ a' w', Post .normal a' w' → (∃ v, a'.tmps = (a.put o.dst v).tmps) → K a' w') → wpOp P l.toArray Q i K a w := fun Post hwl hn key => by
    unfold wpOp
    simp only [hoa]
    simp only [wpList] at hwl
    split
    · rename_i hw
      rw [if_pos hw] at hwl
      rcases hwl with h | ⟨_, x, y, h⟩
      · have h1 := wp_only (fun _ _ _ h => hn _ _ _ h) (wp_tmps h)
        refine .inl ?_
        have h2 := Oper.wp_mono (fun a' w' hh => key a' w' hh.1 hh.2) h1
        unfold Oper.wp at *
        generalize (execOp a.eval o).run P w = r at *
        cases r with
        | ok n w' =>
          cases n <;> simp only [Oper.upon] at h2 ⊢
          case value u => exact h2
          case skip => exact h2
          case defer d => exact h2
          case enter f args => exact Calls.mono h2 (fun e w'' he => by cases e <;> first | exact he | exact he.elim | (obtain ⟨_, _, hf⟩ := he; exact hf.elim))
          case row row args => exact h2
        | halt x w' => cases x <;> simp only [Oper.upon] at h2
      · cases hn _ _ _ h
    · rename_i hw
      rw [if_neg hw] at hwl
      exact key _ _ hwl ⟨undef, rfl⟩
  have keepT : ∀ {a' : Act} {u : Value}, a'.tmps = (a.put o.dst u).tmps → ∀ t, t ≠ dstO o → a'.tmps[t]? = a.tmps[t]? := fun {a' u} hu t ht => by
    rw [hd] at hu
    rw [hu]
    simp [Act.put, Array.getElem?_setIfInBounds_ne (Ne.symm ht)]
  rcases hops.out ho with ⟨x, hx, hW⟩ | ⟨t, cs, hx, hW⟩
  · obtain ⟨Γ', hf', hW⟩ := (hW _ hnew).run hi.fr hdep
    refine fin _ (hW.elim a w hf' hfull) (fun _ _ _ h => h.1) ?_
    rintro a' w' ⟨_, hfr, hp'⟩ ⟨u, hu⟩
    have hne := keepT hu
    refine hK f a' w' ⟨⟨hfr.defers, hfr.size, fun t v ht => by rw [hne t (hΓ t v ht)]; exact hi.fr.get t v ht⟩, hp_left hp' hnew, fun j oj y hj hjo hy hl => ?_, fun j oj t cs hj hjo hy hl => ?_, fun j k t cs t' cs' hjk hk hkj hkk hl hl' => ?_⟩
    · by_cases e : i = j
      · subst e
        rw [hol] at hjo
        cases hjo
        rw [hx] at hy
        cases hy
        exact hfr.get _ _ (by simp [look])
      · rw [getD_set e] at hl
        rw [hne _ (hdst j oj hj hjo e)]
        exact hi.val j oj y hj hjo hy hl
    · have e : i ≠ j := fun e => by subst e; rw [hx] at hy; cases hy
      rw [getD_set e] at hl
      obtain ⟨h1, h2, h3, _⟩ := hi.ptr j oj t cs hj hjo hy hl
      exact ⟨by rw [hne _ (hdst j oj hj hjo e)]; exact h1, h2, h3, hp'.own.at (List.mem_append_right _ (mem_blksX hj hy hl))⟩
    · have e : i ≠ j := fun e => by subst e; rw [hx] at hkj; cases hkj
      have e' : i ≠ k := fun e => by subst e; rw [hx] at hkk; cases hkk
      rw [getD_set e] at hl
      rw [getD_set e'] at hl'
      exact hi.inj j k t cs t' cs' hjk hk hkj hkk hl hl'
  · refine fin _ ((hW _).elim a w hi.fr hfull) (fun _ _ _ h => h.1) ?_
    rintro a' w' ⟨_, c, hc0, hco, hfr, hp'⟩ ⟨u, hu⟩
    have hne := keepT hu
    have hnew' : NewX w0 (⟨c, cs, t⟩ :: blksX f listed ks m) := fun y hy => by
      rcases List.mem_cons.1 hy with rfl | hy
      · exact hc0
      · exact hnew y hy
    have hH : Hp w0 H w' := by
      have h1 : Hp w0 (H ++ (⟨c, cs, t⟩ :: blksX f listed ks m)) w' := by
        refine ⟨hp'.upd.mono fun k hk hn ho => hn ?_, Own.of fun x hx => hp'.own.at ?_, apart_append hi.hp.apart (fun x hx => ?_) ⟨off_right hco, ?_⟩⟩
        · have h1 := off_left ho
          have h2 := off_right ho
          exact ⟨h2.1, off_append h1 h2.2⟩
        · rcases List.mem_append.1 hx with hx | hx
          · exact .tail _ (List.mem_append_left _ hx)
          · rcases List.mem_cons.1 hx with rfl | hx
            · exact .head _
            · exact .tail _ (List.mem_append_right _ hx)
        · rcases List.mem_cons.1 hx with rfl | hx
          · exact off_left hco
          · have := hfull.apart
            have key : ∀ (H X : List Blk), Apart (H ++ X) → ∀ x ∈ X, Off H x.b := by
              intro H
              induction H with
              | nil => intros; trivial
              | cons y r ih => exact fun X h x hx => ⟨h.1.at (List.mem_append_right _ hx) |>.symm, ih X h.2 x hx⟩
            exact key H _ this x hx
        · have := hfull.apart
          have key : ∀ (H X : List Blk), Apart (H ++ X) → Apart X := by
            intro H
            induction H with
            | nil => exact fun _ h => h
            | cons y r ih => exact fun X h => ih X h.2
          exact key H _ this
      exact hp_left h1 hnew'
    have hfi : ∀ j, i ≠ j → (if j = i then c else f j) = f j := fun j e => if_neg (fun e' => e e'.symm)
    have hoff : ∀ j t' cs', j < m → ks[j]? = some (.b t' cs') → listed.getD j true = true → f j ≠ c := fun j t' cs' hj hk hl => (off_right hco).at (mem_blksX hj hk hl)
    refine hK (fun k => if k = i then c else f k) a' w' ⟨⟨hfr.defers, hfr.size, fun t v ht => by rw [hne t (hΓ t v ht)]; exact hi.fr.get t v ht⟩, hH, fun j oj y hj hjo hy hl => ?_, fun j oj t' cs' hj hjo hy hl => ?_, fun j k t1 cs1 t2 cs2 hjk hk hkj hkk hl hl' => ?_⟩
    · have e : i ≠ j := fun e => by subst e; rw [hx] at hy; cases hy
      rw [getD_set e] at hl
      rw [hne _ (hdst j oj hj hjo e)]
      exact hi.val j oj y hj hjo hy hl
    · by_cases e : i = j
      · subst e
        rw [hol] at hjo
        cases hjo
        rw [hx] at hy
        cases hy
        simp only [if_true]
        exact ⟨hfr.get _ _ (by simp [look]), hc0, off_left hco, hp'.own.1⟩
      · rw [getD_set e] at hl
        obtain ⟨h1, h2, h3, _⟩ := hi.ptr j oj t' cs' hj hjo hy hl
        rw [hfi j e]
        exact ⟨by rw [hne _ (hdst j oj hj hjo e)]; exact h1, h2, h3, hp'.own.at (.tail _ (List.mem_append_right _ (mem_blksX hj hy hl)))⟩
    · by_cases e : i = j
      · subst e
        have e' : i ≠ k := by omega
        rw [getD_set e'] at hl'
        rw [hfi k e']
        simp only [if_true]
        exact fun h => hoff k _ _ hk hkk hl' h.symm
      · by_cases e' : i = k
        · subst e'
          rw [getD_set e] at hl
          rw [hfi j e]
          simp only [if_true]
          exact hoff j _ _ (by omega) hkj hl
        · rw [getD_set e] at hl
          rw [getD_set e'] at hl'
          rw [hfi j e, hfi k e']
          exact hi.inj j k _ _ _ _ hjk hk hkj hkk hl hl'
/-- all of the first m are awaited by what comes behind them -/
def chainX (l : List Oper) (m : Nat) : Bool := (Nat.beq m l.length && l.all (fun o => o.dst.isSome) && (List.range l.length).all (fun i => match l[i]? with | some o => o.after.toList.all (fun e => !(Region.binds .any e) || Nat.blt e.on i) | none => true)) || chainB l m
theorem countF (n : Nat) : ∀ (x : Array Bool) (k : Nat), k ≤ x.size → (∀ j, j < k → x.getD j true = true) → (∀ j, k ≤ j → j < x.size → x.getD j true = false) → x.toList.count false = x.size - k := by
  intro x k hk h1 h2
  obtain ⟨l⟩ := x
  simp only [List.size_toArray] at hk h2 ⊢
  have e : l = List.replicate k true ++ List.replicate (l.length - k) false := by
    apply List.ext_getElem
    · simp; omega
    · intro i hi1 hi2
      rw [List.getElem_append]
      split
      · rename_i h
        have := h1 i (by simpa using h)
        simpa [Array.getD_eq_getD_getElem?, hi1] using this
      · rename_i h
        have := h2 i (by simpa using h) hi1
        simpa [Array.getD_eq_getD_getElem?, hi1] using this
  rw [e]
  simp [List.count_append, List.count_replicate]
theorem bagX_run {P : Program} {l : List Oper} {m N : Nat} {Γ : Env} {w0 : World} {H : List Blk} {ks : List Kn} {Q : Exit → Act → World → Prop} (hch : chainX l m = true) (hc : bagXB l N Γ 0 (l.take m) = true)
    (hops : OpsX P l N Γ w0 H ks (l.take m) ks) (hend : ∀ f listed a w, (∀ j, j < m → listed.getD j true = true) → InvX l m N Γ w0 H ks f listed a w → wpList P l.toArray Q (l.drop m) a w) :
    ∀ n (listed : Array Bool) f a w, listed.size = l.length → listed.toList.count false = n → InvX l m N Γ w0 H ks f listed a w →
      (∀ j o, l[j]? = some o → listed.getD j true = true → ∀ e ∈ o.after.toList, Region.binds .any e = true → listed.getD e.on false = true) → (∀ j, m ≤ j → j < l.length → listed.getD j true = false) → wpAny P .any l.toArray Q n listed a w := by
  have hback : m ≤ l.length ∧ (∀ (i : Nat) (o : Oper), l[i]? = some o → ∀ e ∈ o.after.toList, Region.binds .any e = true → e.on < i) ∧ (m < l.length → Chain l m) := by
    unfold chainX at hch
    rw [Bool.or_eq_true] at hch
    rcases hch with h | h
    · rw [Bool.and_eq_true] at h
      rw [Bool.and_eq_true] at h
      have := Nat.eq_of_beq_eq_true h.1.1
      refine ⟨by omega, fun i o ho e he hb => ?_, fun hl => by omega⟩
      have hil := (List.getElem?_eq_some_iff.1 ho).1
      have := List.all_eq_true.1 h.2 i (List.mem_range.2 hil)
      rw [ho] at this
      have := List.all_eq_true.1 this e he
      rw [hb, Bool.not_true, Bool.false_or] at this
      exact Nat.le_of_ble_eq_true this
    · have := chainB_out h
      exact ⟨Nat.le_of_lt this.lt, this.back, fun _ => this⟩
  obtain ⟨hml, hbk, hch⟩ := hback
  intro n
  induction n with
  | zero =>
    intro listed f a w hsz hn hi hdown hun
    have hcn : ∀ j, j < l.length → listed.getD j true = true := fun j hj => by
      have h2 : false ∉ listed.toList := List.count_eq_zero.1 hn
      cases e : listed.getD j true with
      | true => rfl
      | false =>
        rw [Array.getD_eq_getD_getElem?, Array.getElem?_eq_getElem (by omega)] at e
        have h3 : listed[j]'(by omega) ∈ listed.toList := by simp
        have e' : listed[j]'(by omega) = false := e
        rw [e'] at h3
        exact (h2 h3).elim
    have hmeq : m = l.length := by
      rcases Nat.lt_or_ge m l.length with h | h
      · have h1 := hun m (Nat.le_refl _) h
        rw [hcn m h] at h1
        cases h1
      · omega
    have hall : ∀ j, j < m → listed.getD j true = true := fun j hj => hcn j (by omega)
    have hr : Region.ready .any l.toArray listed = [] := by
      rw [List.eq_nil_iff_forall_not_mem]
      intro i hi'
      have hil := ready_lt hi'
      have := ((ready_iff (List.getElem?_eq_getElem hil)).1 hi').1
      rw [hcn i hil] at this
      cases this
    refine ⟨hr, ?_⟩
    have := hend f listed a w hall hi
    rw [hmeq, List.drop_length] at this
    exact this
  | succ n ih =>
    intro listed f a w hsz hn hi hdown hun
    have hcount : ∀ i, i < l.length → listed.getD i true = false → (listed.setIfInBounds i true).toList.count false = n := fun i hil h => by
      have hm' : i < listed.size := by omega
      have h3 : listed[i] = false := by
        rw [Array.getD_eq_getD_getElem?, Array.getElem?_eq_getElem hm'] at h
        exact h
      rw [Array.toList_setIfInBounds, List.count_set (by simpa using hm')]
      simp [h3, hn]
    by_cases hall : ∀ j, j < m → listed.getD j true = true
    · have hlt : m < l.length := by
        have := countF 0 listed m (by omega) hall (fun j h1 h2 => hun j h1 (by omega))
        omega
      have hch := hch hlt
      refine tail_run hch (l.drop m) m rfl (Nat.le_refl _) (n + 1) listed a w hsz (fun j hj _ => hall j hj) hun ?_ (hend f listed a w hall hi)
      have h := countF 0 listed m (by omega) hall (fun j h1 h2 => hun j h1 (by omega))
      rw [hn, hsz] at h
      exact h
    · have hex : ∃ j, j < m ∧ listed.getD j true = false ∧ ∀ i, i < j → listed.getD i true = true := by
        have key : ∀ k, k ≤ m → (∀ j, j < k → listed.getD j true = true) ∨ ∃ j, j < m ∧ listed.getD j true = false ∧ ∀ i, i < j → listed.getD i true = true := by
          intro k
          induction k with
          | zero => exact fun _ => .inl fun j hj => by omega
          | succ k ihk =>
            intro hk
            rcases ihk (by omega) with h | h
            · cases hl : listed.getD k true
              · exact .inr ⟨k, by omega, hl, h⟩
              · refine .inl fun j hj => ?_
                rcases Nat.lt_succ_iff_lt_or_eq.1 hj with hj | hj
                · exact h j hj
                · subst hj; exact hl
            · exact .inr h
        exact (key m (Nat.le_refl _)).elim (fun h => (hall h).elim) id
      refine ⟨fun hr => ?_, fun i hr => ?_⟩
      · obtain ⟨j, hjm, hj, hbefore⟩ := hex
        have ho : l[j]? = some l[j] := List.getElem?_eq_getElem (by omega)
        have : j ∈ Region.ready .any l.toArray listed := (ready_iff ho).2 ⟨hj, fun e he hb => by
          have := hbk j _ ho e he hb
          rw [← getD_tf (by omega)]
          exact hbefore e.on this⟩
        rw [hr] at this
        cases this
      · have hil := ready_lt hr
        have hio := (ready_iff (List.getElem?_eq_getElem hil)).1 hr
        have him : i < m := by
          rcases Nat.lt_or_ge i m with h | h
          · exact h
          · exfalso
            have hch := hch (by omega)
            rcases Nat.lt_or_eq_of_le h with h | h
            · obtain ⟨e, he, he1, he2⟩ := hch.next i _ h (List.getElem?_eq_getElem hil)
              have := hio.2 e he he2
              rw [← getD_tf (by omega), he1, hun (i - 1) (by omega) (by omega)] at this
              cases this
            · subst h
              refine hall ?_
              have key : ∀ d j, j < m → m - j ≤ d → listed.getD j true = true := by
                intro d
                induction d with
                | zero => intro j h1 h2; omega
                | succ d ihd =>
                  intro j hj hd
                  obtain ⟨x, o, h1, h2, ho, e, he, he1, he2⟩ := hch.pre j hj
                  rcases Nat.lt_or_eq_of_le h2 with h2 | h2
                  · have := hdown x o ho (ihd x h2 (by omega)) e he he2
                    rw [← getD_tf (by omega), he1] at this
                    exact this
                  · subst h2
                    have hox := List.getElem?_eq_getElem hil
                    rw [ho] at hox
                    cases hox
                    have := hio.2 e he he2
                    rw [← getD_tf (by omega), he1] at this
                    exact this
              exact fun j hj => key m j hj (by omega)
        refine hi.step hml hc hops him hr fun f' a' w' hi' => ih _ f' a' w' (by simp [hsz]) (hcount i hil hio.1) hi' (fun j o ho hl e he hb => ?_) (fun j hj hjl => ?_)
        · have hjl := (List.getElem?_eq_some_iff.1 ho).1
          have hej := hbk j o ho e he hb
          have hlist : listed.getD e.on false = true := by
            by_cases e' : i = j
            · subst e'
              have hox := List.getElem?_eq_getElem hil
              rw [ho] at hox
              cases hox
              exact hio.2 e he hb
            · rw [getD_set e'] at hl
              exact hdown j o ho hl e he hb
          rw [← getD_tf (by simp; omega)]
          by_cases e' : i = e.on
          · rw [e']; simp [Array.getD_eq_getD_getElem?, hsz]; try omega
          · rw [getD_set e', getD_tf (by omega)]; exact hlist
        · rw [getD_set (by omega)]; exact hun j hj hjl
theorem EndX.run {kp : Nat → Bool} {w0 : World} {H : List Blk} {K : Env → List Blk → Prop} {l : List Oper} {m N : Nat} {Γ0 : Env} {ks : List Kn} {f : Nat → Nat} {listed : Array Bool} {a : Act} {w : World} (hml : m ≤ l.length) (hi : InvX l m N Γ0 w0 H ks f listed a w) (hall : ∀ j, j < m → listed.getD j true = true) :
    ∀ (l' : List Oper) (ks' : List Kn) (i : Nat) (Γ : Env) (B : List Blk), l' = (l.take m).drop i → ks' = ks.drop i → i ≤ m → ks.length = m → Fr N a Γ → B = blksX f listed ks i → EndX kp w0 H K l' ks' i Γ B →
      ∃ Γ', Fr N a Γ' ∧ K Γ' (blksX f listed ks m) := by
  intro l'
  induction l' with
  | nil =>
    intro ks' i Γ B hl hk him hkl hf hB h
    have h1 : (l.take m).length ≤ i := by simpa using hl.symm
    rw [List.length_take] at h1
    have : i = m := by omega
    subst this
    subst hB
    cases ks' <;> exact ⟨Γ, hf, h⟩
  | cons o os ih =>
    intro ks' i Γ B hl hk him hkl hf hB h
    have hlt : i < m := by
      rcases Nat.lt_or_ge i m with h' | h'
      · exact h'
      · rw [List.drop_eq_nil_of_le (by rw [List.length_take]; omega)] at hl; cases hl
    have hol : l[i]? = some o := by
      have := List.getElem?_drop (xs := l.take m) (i := i) (j := 0)
      rw [← hl, List.getElem?_take_of_lt (by omega)] at this
      simpa using this.symm
    have hos : os = (l.take m).drop (i + 1) := by rw [← List.drop_drop, ← hl]; rfl
    have hki : ks[i]? = some (ks[i]'(by omega)) := List.getElem?_eq_getElem (by omega)
    rw [List.drop_eq_getElem_cons (by omega)] at hk
    have bstep : blksX f listed ks (i + 1) = (match blkX f listed ks i with | some x => x :: blksX f listed ks i | none => blksX f listed ks i) := by
      unfold blksX
      rw [List.range_succ, List.reverse_append, List.reverse_singleton, List.singleton_append, List.filterMap_cons]
      cases blkX f listed ks i <;> rfl
    generalize ks[i]'(by omega) = k at hk hki
    subst hk
    cases k with
    | v x =>
      have hv := hi.val i o x hlt hol hki (hall i hlt)
      refine ih (ks.drop (i + 1)) (i + 1) _ B hos rfl (by omega) hkl ?_ ?_ h
      · cases kp i
        · exact hf
        · exact hf.cons hv
      · rw [bstep, hB]
        unfold blkX
        rw [hki]
    | b t cs =>
      obtain ⟨h1, h2, h3, h4⟩ := hi.ptr i o t cs hlt hol hki (hall i hlt)
      have hoff : Off B (f i) := by
        rw [hB]
        refine Off.of fun x hx => ?_
        obtain ⟨j, hj, hg⟩ := List.mem_filterMap.1 hx
        obtain ⟨t', cs', hk', hl', rfl⟩ := blkX_some hg
        exact hi.inj j i _ _ _ _ (by simpa using hj) hlt hk' hki hl' (hall i hlt)
      refine ih (ks.drop (i + 1)) (i + 1) _ (⟨f i, cs, t⟩ :: B) hos rfl (by omega) hkl (hf.cons h1) ?_ (h (f i) h2 (off_append hoff h3))
      rw [bstep, hB]
      unfold blkX
      rw [hki]
      simp only [hall i hlt, if_true]
theorem hp_swap {w0 w : World} {H X : List Blk} (h : Hp w0 (H ++ X) w) : Hp w0 (X ++ H) w := by
  refine ⟨h.upd.mono fun k hk hn ho => hn (off_append (off_right ho) (off_left ho)), Own.of fun x hx => h.own.at (List.mem_append.2 (List.mem_append.1 hx).symm), ?_⟩
  have key : ∀ (H X : List Blk), Apart (H ++ X) → Apart X ∧ Apart H ∧ ∀ x ∈ H, Off X x.b := by
    intro H
    induction H with
    | nil => exact fun X h => ⟨h, trivial, fun _ h => nomatch h⟩
    | cons y r ih =>
        intro X h
        obtain ⟨h1, h2, h3⟩ := ih X h.2
        refine ⟨h1, ⟨off_left h.1, h2⟩, fun x hx => ?_⟩
        rcases List.mem_cons.1 hx with rfl | hx
        · exact off_right h.1
        · exact h3 x hx
  obtain ⟨h1, h2, h3⟩ := key H X h.apart
  exact apart_append h1 h3 h2
section
variable {P : Program} {N : Nat} {Γ : Env} {C : World → Prop} {Q : Exit → Act → World → Prop}
theorem St.bagX {i : Nat} {l : List Oper} {w0 : World} {H : List Blk} {ks : List Kn} (m : Nat) (sel : List Nat) (hm : P.follows .mixedOrders = true) (hch : chainX l m = true) (hc : bagXB l N Γ 0 (l.take m) = true)
    (hops : OpsX P l N Γ w0 H ks (l.take m) ks)
    (hend : EndX (keepX sel (l.drop m)) w0 H (fun Γ' B => Wl (l.drop m) P .seq l.toArray N Γ' (Hp w0 (B ++ H)) Q) (l.take m) ks 0 Γ []) : St (.region i l.toArray true) P N Γ (Hp w0 H) Q := St.intro fun a w ha hw => by
  have hml : m ≤ l.length := by
    have := hops.len
    unfold chainX at hch
    rw [Bool.or_eq_true] at hch
    rcases hch with h | h
    · rw [Bool.and_eq_true, Bool.and_eq_true] at h
      have := Nat.eq_of_beq_eq_true h.1.1
      omega
    · exact Nat.le_of_lt (chainB_out h).lt
  refine wp_region_any hm ?_
  have := bagX_run (Q := Q) hch hc hops (fun f listed a w hall hi => by
    obtain ⟨Γ', hf, hK⟩ := EndX.run hml hi hall _ _ 0 Γ [] rfl rfl (Nat.zero_le _) (by rw [hops.len, List.length_take]; omega) hi.fr (by simp [blksX]) hend
    exact hK.elim a w hf (hp_swap (hi.full hml).2)) l.length (Array.replicate l.length false) (fun _ => 0) a w.drew (by simp) (by simp [List.count_replicate])
    ⟨ha, hw.drew, fun i o x hi ho _ hl => by
      have h1 := (List.getElem?_eq_some_iff.1 ho).1
      simp [Array.getD_eq_getD_getElem?, h1] at hl, fun i o t cs hi ho _ hl => by
      have h1 := (List.getElem?_eq_some_iff.1 ho).1
      simp [Array.getD_eq_getD_getElem?, h1] at hl, fun i j t cs t' cs' _ hj _ _ _ hl => by
      have h1 : j < l.length := by omega
      simp [Array.getD_eq_getD_getElem?, h1] at hl⟩ (fun j o ho hl => by
      have h1 := (List.getElem?_eq_some_iff.1 ho).1
      simp [Array.getD_eq_getD_getElem?, h1] at hl) (fun j _ hjl => by simp [Array.getD_eq_getD_getElem?, hjl])
  simpa using this
/-- the slots that the region writes are forgotten -/
inductive CleanX (l : List Oper) : Env → Env → Prop
  | nil : CleanX l [] []
  | skip {t : Nat} {v : Value} {r r' : Env} (h : (l.any fun o => match o.dst with | some d => Nat.beq d t | none => false) = true) (hs : CleanX l r r') : CleanX l ((t, v) :: r) r'
  | keep {t : Nat} {v : Value} {r r' : Env} (h : (l.any fun o => match o.dst with | some d => Nat.beq d t | none => false) = false) (hs : CleanX l r r') : CleanX l ((t, v) :: r) ((t, v) :: r')
theorem CleanX.look {l : List Oper} {Γ' : Env} (h : CleanX l Γ Γ') {t : Nat} {v : Value} (hl : look Γ' t = some v) : (l.any fun o => match o.dst with | some d => Nat.beq d t | none => false) = false ∧ look Γ t = some v := by
  induction h with
  | nil => cases hl
  | @skip d u r r' h hs ih =>
    obtain ⟨h1, h2⟩ := ih hl
    refine ⟨h1, ?_⟩
    simp only [Pt.look]
    have : t ≠ d := fun e => by subst e; rw [h] at h1; cases h1
    rw [beqFalse this]
    exact h2
  | @keep d u r r' h hs ih =>
    simp only [Pt.look] at hl ⊢
    by_cases e : t = d
    · subst e
      simp at hl
      subst hl
      exact ⟨h, by simp⟩
    · rw [beqFalse e] at hl ⊢
      exact ih hl
theorem St.bagXc {Γ' : Env} {i : Nat} {l : List Oper} {w0 : World} {H : List Blk} {ks : List Kn} (m : Nat) (sel : List Nat) (hm : P.follows .mixedOrders = true) (hch : chainX l m = true) (hcl : CleanX l Γ Γ') (hc : bagXB l N Γ' 0 (l.take m) = true)
    (hops : OpsX P l N Γ' w0 H ks (l.take m) ks)
    (hend : EndX (keepX sel (l.drop m)) w0 H (fun Γ' B => Wl (l.drop m) P .seq l.toArray N Γ' (Hp w0 (B ++ H)) Q) (l.take m) ks 0 Γ' []) : St (.region i l.toArray true) P N Γ (Hp w0 H) Q := St.intro fun a w ha hw =>
  (St.bagX m sel hm hch hc hops hend).elim a w ⟨ha.defers, ha.size, fun t v ht => ha.get t v (hcl.look ht).2⟩ hw
theorem Gt.endX {d : Nat} {x : Value} (hv : look Γ d = some x) : Gt N .normal Γ C (PostX N d x C) := Gt.intro fun a w ha hw => ⟨rfl, ha.sub (.cons hv .nil), hw⟩
theorem EndX.nil' {kp : Nat → Bool} {w0 : World} {H : List Blk} {K : Env → List Blk → Prop} {ks : List Kn} {i : Nat} {B : List Blk} (h : K Γ B) : EndX kp w0 H K [] ks i Γ B := by
  cases ks <;> exact h
theorem EndX.on {kp : Nat → Bool} {w0 : World} {H : List Blk} {K : Env → List Blk → Prop} {ks : List Kn} {i d : Nat} {op : Op} {ty : TypeId} {pos : String} {af : Array Edge} {g : Option (Nat × Bool)} {os : List Oper} {x : Value} {B : List Blk} (hk : kp i = true) (h : EndX kp w0 H K os ks (i + 1) ((d, x) :: Γ) B) : EndX kp w0 H K (⟨some d, op, ty, pos, af, g⟩ :: os) (.v x :: ks) i Γ B := by
  unfold EndX; rw [hk]; exact h
theorem EndX.off {kp : Nat → Bool} {w0 : World} {H : List Blk} {K : Env → List Blk → Prop} {ks : List Kn} {i : Nat} {o : Oper} {os : List Oper} {x : Value} {B : List Blk} (hk : kp i = false) (h : EndX kp w0 H K os ks (i + 1) Γ B) : EndX kp w0 H K (o :: os) (.v x :: ks) i Γ B := by
  unfold EndX; rw [hk]; exact h
theorem EndX.new {kp : Nat → Bool} {w0 : World} {H : List Blk} {K : Env → List Blk → Prop} {ks : List Kn} {i d : Nat} {op : Op} {ty : TypeId} {pos : String} {af : Array Edge} {g : Option (Nat × Bool)} {os : List Oper} {t : TypeId} {cs : List Value} {B : List Blk} (h : ∀ c, w0.heap.size ≤ c → Off (B ++ H) c → EndX kp w0 H K os ks (i + 1) ((d, .pointer (some ⟨c, 0, none⟩)) :: Γ) (⟨c, cs, t⟩ :: B)) : EndX kp w0 H K (⟨some d, op, ty, pos, af, g⟩ :: os) (.b t cs :: ks) i Γ B := h
inductive CatB : List Blk → List Blk → List Blk → Prop
  | nil {H : List Blk} : CatB [] H H
  | cons {x : Blk} {B H R : List Blk} (h : CatB B H R) : CatB (x :: B) H (x :: R)
theorem CatB.out {B H R : List Blk} (h : CatB B H R) : R = B ++ H := by
  induction h with
  | nil => rfl
  | cons _ ih => rw [ih]; rfl
theorem Wl.catX {ops : Array Oper} {w0 : World} {l : List Oper} {B H R : List Blk} {dd : Nat} {x : Value} (e : CatB B H R) (h : Wl l P .seq ops N Γ (Hp w0 R) (PostX N dd x (Hp w0 R))) : Wl l P .seq ops N Γ (Hp w0 (B ++ H)) (PostX N dd x (Hp w0 (B ++ H))) := by
  rw [e.out] at h; exact h
theorem Wl.catE {ops : Array Oper} {w0 : World} {l : List Oper} {B H R : List Blk} (e : CatB B H R) (h : Wl l P .seq ops N Γ (Hp w0 R) Q) : Wl l P .seq ops N Γ (Hp w0 (B ++ H)) Q := by
  rw [e.out] at h; exact h
theorem NewX.off {w0 : World} {X : List Blk} {b : Nat} (h : NewX w0 X) (hb : b < w0.heap.size) : Off X b := Off.of fun x hx e => by have := h x hx; omega
theorem Wl.cat {ops : Array Oper} {md : Md} {w0 : World} {l : List Oper} {B H H' : List Blk} (e : B ++ H = H') (h : Wl l P md ops N Γ (Hp w0 H') Q) : Wl l P md ops N Γ (Hp w0 (B ++ H)) Q := e ▸ h
end
attribute [irreducible] EndX
end Go.Pt
end
section
/-
  P-256's field as mont.Mod holds it: what its functions compute, told over the field of the group law; points as values. Conditions: the receiver is the modulus of P-256.
-/
namespace Go.Pt
theorem LSub.mid {a b c : List Value} {i n : Nat} (h1 : a.length = i) (h2 : b.length = n) : LSub (a ++ (b ++ c)) i n b := by
  subst h1 h2
  induction a with
  | nil =>
    induction b with
    | nil => exact .z
    | cons x r ih => exact .t ih
  | cons x r ih => exact .s ih
theorem LSub.end' {a b : List Value} {i n : Nat} (h1 : a.length = i) (h2 : b.length = n) : LSub (a ++ b) i n b := by
  have := LSub.mid (c := []) h1 h2
  rwa [List.append_nil] at this
theorem LSub.into {a b c : List Value} {i j n k : Nat} (h1 : a.length = j) (h : LSub b i n c) (hk : k = j + i) : LSub (a ++ b) k n c := by
  subst h1 hk
  induction a with
  | nil => simpa using h
  | cons x r ih => rw [List.length_cons, show r.length + 1 + i = r.length + i + 1 by omega]; exact .s ih
section
variable {P : Program} {N : Nat} {ops : Array Oper} {rest : List Oper} {Γ : Env} {Q : Exit → Act → World → Prop} {ty : TypeId} {pos : String} {af : Array Edge} {t : TypeId} {x y : Operand}
/-- a struct or an array is stored over a whole block -/
theorem Wl.storeAll {w0 : World} {H H' : List Blk} {n bt : TypeId} [ht : TyA P t n] {c : Nat} {cs xs : List Value} (hx : ev Γ x = some (.pointer (some ⟨c, 0, none⟩))) (hy : ev Γ y = some (.agg xs.toArray)) (hs : HSet c cs xs bt H H') (hn : xs.length = n) (hl : cs.length = n) (h1 : xs.all Value.oneCell' = true)
    (h : Wl rest P .seq ops N Γ (Hp w0 H') Q) : Wl (⟨none, .store t x y, ty, pos, af, none⟩ :: rest) P .seq ops N Γ (Hp w0 H) Q :=
  Wl.storeA hx hy hn h1 hs (.z (LOver.whole (by rw [hl, hn]))) h
end
end Go.Pt
namespace Go.Proofs.YtfaobdakpbpkbaaDoor
open Go.RowKit Go.Pt
attribute [local irreducible] Prim.P256
theorem pW : Prim.P256 < W256 := by decide +kernel
theorem pOdd : Prim.P256 % 2 = 1 := by decide +kernel
theorem p3 : 3 < Prim.P256 := by decide +kernel
theorem modMulMod (a b m : Nat) : a % m * b % m = a * b % m := by rw [Nat.mod_mul_mod]
def mg (x : Ec.F) : Nat := x.val * W256 % Prim.P256
theorem mg_lt (x : Ec.F) : mg x < Prim.P256 := Nat.mod_lt _ (by have := p3; omega)
theorem mg_W (x : Ec.F) : mg x < W256 := Nat.lt_trans (mg_lt x) pW
theorem val_W (x : Ec.F) : x.val < W256 := Nat.lt_trans x.isLt pW
theorem out_mg (x : Ec.F) : mg x * rinv Prim.P256 % Prim.P256 = x.val := by
  unfold mg
  rw [outIn pOdd, Nat.mod_eq_of_lt x.isLt]
theorem mg_inj {x y : Ec.F} (h : mg x = mg y) : x = y := Fin.ext (by rw [← out_mg x, ← out_mg y, h])
theorem mg_add (x y : Ec.F) : (mg x + mg y) % Prim.P256 = mg (x + y) := by
  unfold mg
  rw [← Nat.add_mod, ← Nat.add_mul, Fin.val_add, modMulMod]
theorem mg_sub (x y : Ec.F) : (mg x + Prim.P256 - mg y) % Prim.P256 = mg (x - y) := by
  have h := mg_add (x - y) y
  rw [show x - y + y = x by grobner] at h
  have h1 := mg_lt (x - y)
  have h2 := mg_lt y
  rw [← h]
  generalize mg (x - y) = a at *
  generalize mg y = b at *
  generalize Prim.P256 = p at *
  by_cases hlt : a + b < p
  · rw [Nat.mod_eq_of_lt hlt, show a + b + p - b = a + p by omega, Nat.add_mod_right, Nat.mod_eq_of_lt h1]
  · have e : (a + b) % p = a + b - p := by rw [Nat.mod_eq_sub_mod (by omega), Nat.mod_eq_of_lt (by omega)]
    rw [e, show a + b - p + p - b = a by omega, Nat.mod_eq_of_lt h1]
theorem mg_mul (x y : Ec.F) : mg x * mg y * rinv Prim.P256 % Prim.P256 = mg (x * y) := by
  unfold mg
  rw [in_mul pOdd, Fin.val_mul, modMulMod]
theorem val_one : (1 : Ec.F).val = 1 := Nat.mod_eq_of_lt (show 1 < Prim.P256 by have := p3; omega)
theorem val_zero : (0 : Ec.F).val = 0 := Nat.zero_mod _
theorem mg_one : W256 % Prim.P256 = mg 1 := by
  unfold mg
  rw [val_one, Nat.one_mul]
theorem mg_zero : mg 0 = 0 := by
  unfold mg
  rw [val_zero, Nat.zero_mul, Nat.zero_mod]
theorem mg_eq_zero (x : Ec.F) : mg x = 0 ↔ x = 0 := ⟨fun h => mg_inj (h.trans mg_zero.symm), fun h => h ▸ mg_zero⟩
def nF (a : Nat) : Ec.F := Fin.ofNat Prim.P256 a
theorem nF_val (a : Nat) : (nF a).val = a % Prim.P256 := rfl
theorem nF_of (x : Ec.F) : nF x.val = x := Fin.ext (Nat.mod_eq_of_lt x.isLt)
theorem mg_in (a : Nat) : a * W256 % Prim.P256 = mg (nF a) := by
  unfold mg
  rw [nF_val, modMulMod]
theorem mg_inv (x : Ec.F) : pw Prim.P256 (mg x) (Prim.P256 - 2) = mg (Ec.finv x) := by
  unfold mg
  rw [pw_in pOdd]
  unfold Ec.finv
  simp only [Fin.ofNat]
  rw [modMulMod]
section
variable {b : Nat} {w : World}
theorem fTimes (h : ModV w b Prim.P256) (x y : Ec.F) : Calls Tryd.prog 27 #[mp b, numV (mg x), numV (mg y)] w fun e w' => e = .returned (numV (mg (x * y))) ∧ Hp w [] w' := by
  rw [← mg_mul]; exact modTimes' h (mg_W x) (mg_lt y)
theorem fAdd (h : ModV w b Prim.P256) (x y : Ec.F) : Calls Tryd.prog 57 #[mp b, numV (mg x), numV (mg y)] w fun e w' => e = .returned (numV (mg (x + y))) ∧ Hp w [] w' := by
  rw [← mg_add]; exact modAdd b _ _ _ w h.mod pW (mg_lt x) (mg_lt y)
theorem fSub (h : ModV w b Prim.P256) (x y : Ec.F) : Calls Tryd.prog 77 #[mp b, numV (mg x), numV (mg y)] w fun e w' => e = .returned (numV (mg (x - y))) ∧ Hp w [] w' := by
  rw [← mg_sub]; exact modSub b _ _ _ w h.mod pW (mg_lt x) (mg_lt y)
theorem fOne (h : ModV w b Prim.P256) : Calls Tryd.prog 65 #[mp b] w fun e w' => e = .returned (numV (mg 1)) ∧ Hp w [] w' := by
  rw [← mg_one]; exact modOne b _ w h
theorem fIn (h : ModV w b Prim.P256) {a : Nat} (ha : a < W256) : Calls Tryd.prog 25 #[mp b, numV a] w fun e w' => e = .returned (numV (mg (nF a))) ∧ Hp w [] w' := by
  rw [← mg_in]; exact modIn b _ a w h ha
theorem fInF (h : ModV w b Prim.P256) (x : Ec.F) : Calls Tryd.prog 25 #[mp b, numV x.val] w fun e w' => e = .returned (numV (mg x)) ∧ Hp w [] w' := by
  have := fIn h (val_W x)
  rw [nF_of] at this
  exact this
theorem fOut (h : ModV w b Prim.P256) (x : Ec.F) : Calls Tryd.prog 26 #[mp b, numV (mg x)] w fun e w' => e = .returned (numV x.val) ∧ Hp w [] w' := by
  rw [← out_mg]; exact modOut b _ _ w h (mg_W x)
theorem fInv (h : ModV w b Prim.P256) (x : Ec.F) : Calls Tryd.prog 24 #[mp b, numV (mg x)] w fun e w' => e = .returned (numV (mg (Ec.finv x))) ∧ Hp w [] w' := by
  rw [← mg_inv]; exact modInv h (mg_lt x) pW (by have := p3; omega)
theorem fZero (x : Ec.F) (w : World) : Calls Tryd.prog 55 #[numV (mg x)] w fun e w' => e = .returned (.bool (decide (x = 0))) ∧ Hp w [] w' := by
  have := limbZero (mg x) w (mg_W x)
  rw [decide_eq_decide.2 (mg_eq_zero x)] at this
  exact this
end
section
variable {b : Nat} {w : World} {x y r : Ec.F}
theorem gTimes (h : ModV w b Prim.P256) (e : r = x * y) : Calls Tryd.prog 27 #[mp b, numV (mg x), numV (mg y)] w fun e w' => e = .returned (numV (mg r)) ∧ Hp w [] w' := e ▸ fTimes h x y
theorem gAdd (h : ModV w b Prim.P256) (e : r = x + y) : Calls Tryd.prog 57 #[mp b, numV (mg x), numV (mg y)] w fun e w' => e = .returned (numV (mg r)) ∧ Hp w [] w' := e ▸ fAdd h x y
theorem gSub (h : ModV w b Prim.P256) (e : r = x - y) : Calls Tryd.prog 77 #[mp b, numV (mg x), numV (mg y)] w fun e w' => e = .returned (numV (mg r)) ∧ Hp w [] w' := e ▸ fSub h x y
theorem gInv (h : ModV w b Prim.P256) (e : r = Ec.finv x) : Calls Tryd.prog 24 #[mp b, numV (mg x)] w fun e w' => e = .returned (numV (mg r)) ∧ Hp w [] w' := e ▸ fInv h x
end
attribute [irreducible] mg
/-! ### points -/
def ptC (x y z : Nat) : List Value := cellsN .u32 8 (dg W32 x) ++ (cellsN .u32 8 (dg W32 y) ++ cellsN .u32 8 (dg W32 z))
def poC (x y : Nat) (n : Bool) : List Value := cellsN .u32 8 (dg W32 x) ++ (cellsN .u32 8 (dg W32 y) ++ [.bool n])
theorem ptC_len (x y z : Nat) : (ptC x y z).length = 24 := by simp [ptC, cellsN_len]
theorem poC_len (x y : Nat) (n : Bool) : (poC x y n).length = 17 := by simp [poC, cellsN_len]
theorem ptC_one (x y z : Nat) : (ptC x y z).all Value.oneCell' = true := by
  unfold ptC
  rw [List.all_append, List.all_append, cellsN_one, cellsN_one, cellsN_one]; rfl
theorem poC_one (x y : Nat) (n : Bool) : (poC x y n).all Value.oneCell' = true := by
  unfold poC
  rw [List.all_append, List.all_append, cellsN_one, cellsN_one]; rfl
theorem ptC_x (x y z : Nat) : LSub (ptC x y z) 0 8 (cellsN .u32 8 (dg W32 x)) := LSub.mid (a := []) rfl (cellsN_len _ _ _)
theorem ptC_y (x y z : Nat) : LSub (ptC x y z) 8 8 (cellsN .u32 8 (dg W32 y)) := LSub.mid (cellsN_len _ _ _) (cellsN_len _ _ _)
theorem ptC_z (x y z : Nat) : LSub (ptC x y z) 16 8 (cellsN .u32 8 (dg W32 z)) := LSub.into (cellsN_len _ _ _) (LSub.end' (cellsN_len _ _ _) (cellsN_len _ _ _)) rfl
theorem poC_x (x y : Nat) (n : Bool) : LSub (poC x y n) 0 8 (cellsN .u32 8 (dg W32 x)) := LSub.mid (a := []) rfl (cellsN_len _ _ _)
theorem poC_y (x y : Nat) (n : Bool) : LSub (poC x y n) 8 8 (cellsN .u32 8 (dg W32 y)) := LSub.mid (cellsN_len _ _ _) (cellsN_len _ _ _)
theorem poC_n (x y : Nat) (n : Bool) : (poC x y n)[16]? = some (.bool n) := by
  unfold poC
  rw [← List.append_assoc, List.getElem?_append_right (by simp [cellsN_len])]
  simp [cellsN_len]
/-- parts laid over zeros -/
theorem fill3 {place : Nat → Option (Nat × Nat)} {za zb zc xs ys zs : List Value} (ha : za.length = 8) (hb : zb.length = 8) (hc : zc.length = 8) (hx : xs.length = 8) (hy : ys.length = 8) (hz : zs.length = 8) (p0 : place 0 = some (0, 8)) (p1 : place 1 = some (8, 8)) (p2 : place 2 = some (16, 8)) :
    Fills place (za ++ (zb ++ zc)) [(0, .agg xs.toArray), (1, .agg ys.toArray), (2, .agg zs.toArray)] (xs ++ (ys ++ zs)) := by
  have h1 : LPut (za ++ (zb ++ zc)) 0 xs (xs ++ (zb ++ zc)) := LPut.app (p := []) rfl (by rw [ha, hx])
  have h2 : LPut (xs ++ (zb ++ zc)) 8 ys (xs ++ (ys ++ zc)) := LPut.app hx (by rw [hb, hy])
  have h3 : LPut (xs ++ (ys ++ zc)) 16 zs (xs ++ (ys ++ zs)) := by
    have := LPut.app (p := xs ++ ys) (l := zc) (xs := zs) (r := []) (n := 16) (by simp [hx, hy]) (by rw [hc, hz])
    simpa using this
  exact .agg p0 (by rw [hx]; rfl) h1 (.agg p1 (by rw [hy]; rfl) h2 (.agg p2 (by rw [hz]; rfl) h3 .nil))
theorem fill2 {place : Nat → Option (Nat × Nat)} {za zb xs ys : List Value} {v : Value} (ha : za.length = 8) (hb : zb.length = 8) (hx : xs.length = 8) (hy : ys.length = 8) (p0 : place 0 = some (0, 8)) (p1 : place 1 = some (8, 8)) :
    Fills place (za ++ (zb ++ [v])) [(0, .agg xs.toArray), (1, .agg ys.toArray)] (xs ++ (ys ++ [v])) := by
  have h1 : LPut (za ++ (zb ++ [v])) 0 xs (xs ++ (zb ++ [v])) := LPut.app (p := []) rfl (by rw [ha, hx])
  have h2 : LPut (xs ++ (zb ++ [v])) 8 ys (xs ++ (ys ++ [v])) := LPut.app hx (by rw [hb, hy])
  exact .agg p0 (by rw [hx]; rfl) h1 (.agg p1 (by rw [hy]; rfl) h2 .nil)
theorem pt_zero : [Value.int .u32 0, .int .u32 0, .int .u32 0, .int .u32 0, .int .u32 0, .int .u32 0, .int .u32 0, .int .u32 0] ++ ([Value.int .u32 0, .int .u32 0, .int .u32 0, .int .u32 0, .int .u32 0, .int .u32 0, .int .u32 0, .int .u32 0] ++ [Value.int .u32 0, .int .u32 0, .int .u32 0, .int .u32 0, .int .u32 0, .int .u32 0, .int .u32 0, .int .u32 0]) = ptC 0 0 0 := by
  unfold ptC; rw [zero8]
theorem po_zero (n : Bool) : [Value.int .u32 0, .int .u32 0, .int .u32 0, .int .u32 0, .int .u32 0, .int .u32 0, .int .u32 0, .int .u32 0] ++ ([Value.int .u32 0, .int .u32 0, .int .u32 0, .int .u32 0, .int .u32 0, .int .u32 0, .int .u32 0, .int .u32 0] ++ [.bool n]) = poC 0 0 n := by
  unfold poC; rw [zero8]
theorem ptC_set (x y z x' y' z' : Nat) : Fills ([(0, 8), (8, 8), (16, 8)].toArray[·]?) (ptC x y z) [(0, numV x'), (1, numV y'), (2, numV z')] (ptC x' y' z') :=
  fill3 (cellsN_len _ _ _) (cellsN_len _ _ _) (cellsN_len _ _ _) (cellsN_len _ _ _) (cellsN_len _ _ _) (cellsN_len _ _ _) rfl rfl rfl
theorem poC_set (x y x' y' : Nat) (n : Bool) : Fills ([(0, 8), (8, 8), (16, 1)].toArray[·]?) (poC x y n) [(0, numV x'), (1, numV y')] (poC x' y' n) :=
  fill2 (cellsN_len _ _ _) (cellsN_len _ _ _) (cellsN_len _ _ _) (cellsN_len _ _ _) rfl rfl
theorem poC_put (x y : Nat) (n n' : Bool) : LSet (poC x y n) 16 (.bool n') (poC x y n') := by
  have := LSet.app (p := cellsN .u32 8 (dg W32 x) ++ cellsN .u32 8 (dg W32 y)) (r := []) (x := .bool n) (v := .bool n') (n := 16) (by simp [cellsN_len])
  simpa [poC] using this
theorem poC_none (x y : Nat) (n n' : Bool) : Fills ([(0, 8), (8, 8), (16, 1)].toArray[·]?) (poC x y n) [(2, .bool n')] (poC x y n') :=
  .one rfl rfl (poC_put x y n n') .nil
attribute [irreducible] ptC poC
section
variable {md : Md} {N : Nat} {ops : Array Oper} {rest : List Oper} {Γ : Env} {C : World → Prop} {Q : Exit → Act → World → Prop} {d : Nat} {ty : TypeId} {pos : String} {af : Array Edge} {parts : Array (Nat × Operand)}
theorem Wl.buildPt {x y z : Nat} (hd : Nat.blt d N = true) (hp : Parts Γ parts.toList [(0, numV x), (1, numV y), (2, numV z)]) (h : Wl rest Tryd.prog md ops N ((d, .agg (ptC x y z).toArray) :: Γ) C Q) :
    Wl (⟨some d, .build 108 parts, ty, pos, af, none⟩ :: rest) Tryd.prog md ops N Γ C Q := by
  refine Wl.build hd hp (fun _ => run_build_struct ?_) h
  have := ptC_set 0 0 0 x y z
  rw [← pt_zero] at this
  exact this
theorem Wl.buildPo {x y : Nat} (hd : Nat.blt d N = true) (hp : Parts Γ parts.toList [(0, numV x), (1, numV y)]) (h : Wl rest Tryd.prog md ops N ((d, .agg (poC x y false).toArray) :: Γ) C Q) :
    Wl (⟨some d, .build 32 parts, ty, pos, af, none⟩ :: rest) Tryd.prog md ops N Γ C Q := by
  refine Wl.build hd hp (fun _ => run_build_struct ?_) h
  have := poC_set 0 0 x y false
  rw [← po_zero] at this
  exact this
theorem Wl.buildPn {n : Bool} (hd : Nat.blt d N = true) (hp : Parts Γ parts.toList [(2, .bool n)]) (h : Wl rest Tryd.prog md ops N ((d, .agg (poC 0 0 n).toArray) :: Γ) C Q) :
    Wl (⟨some d, .build 32 parts, ty, pos, af, none⟩ :: rest) Tryd.prog md ops N Γ C Q := by
  refine Wl.build hd hp (fun _ => run_build_struct ?_) h
  have := poC_none 0 0 false n
  rw [← po_zero] at this
  exact this
end
/-- a point as a value -/
def poD : Ec.Pt → List Value
  | none => poC 0 0 true
  | some (x, y) => poC x.val y.val false
abbrev poV (A : Ec.Pt) : Value := .agg (poD A).toArray
theorem poD_none : poD none = poC 0 0 true := rfl
theorem poD_some (x y : Ec.F) : poD (some (x, y)) = poC x.val y.val false := rfl
theorem poD_len (A : Ec.Pt) : (poD A).length = 17 := by
  match A with
  | none => exact poC_len _ _ _
  | some (x, y) => exact poC_len _ _ _
theorem poD_one (A : Ec.Pt) : (poD A).all Value.oneCell' = true := by
  match A with
  | none => exact poC_one _ _ _
  | some (x, y) => exact poC_one _ _ _
theorem poD_n (A : Ec.Pt) : (poD A)[16]? = some (.bool A.isNone) := by
  match A with
  | none => exact poC_n _ _ _
  | some (x, y) => exact poC_n _ _ _
def poX : Ec.Pt → Nat
  | none => 0
  | some (x, _) => x.val
def poY : Ec.Pt → Nat
  | none => 0
  | some (_, y) => y.val
theorem poD_x (A : Ec.Pt) : LSub (poD A) 0 8 (cellsN .u32 8 (dg W32 (poX A))) := by
  match A with
  | none => exact poC_x _ _ _
  | some (x, y) => exact poC_x _ _ _
theorem poD_y (A : Ec.Pt) : LSub (poD A) 8 8 (cellsN .u32 8 (dg W32 (poY A))) := by
  match A with
  | none => exact poC_y _ _ _
  | some (x, y) => exact poC_y _ _ _
theorem poX_W (A : Ec.Pt) : poX A < W256 := by
  match A with
  | none => show 0 < W256; decide
  | some (x, y) => exact val_W x
theorem poY_W (A : Ec.Pt) : poY A < W256 := by
  match A with
  | none => show 0 < W256; decide
  | some (x, y) => exact val_W y
attribute [irreducible] poD
abbrev ptF (p : Ec.F × Ec.F × Ec.F) : List Value := ptC (mg p.1) (mg p.2.1) (mg p.2.2)
abbrev ptV (p : Ec.F × Ec.F × Ec.F) : Value := .agg (ptF p).toArray
def curB : Ec.F := nF 0x5AC635D8AA3A93E7B3EBBD55769886BC651D06B0CC53B0F63BCE3C3E27D2604B
/-- the curve at c -/
structure CurV (w : World) (c bm : Nat) : Prop where
  mod : w.cell? ⟨c, 0, none⟩ = some (mp bm)
  b : ArrAt w c 1 .u32 8 (dg W32 (mg curB))
  val : ModV w bm Prim.P256
theorem CurV.upd {S : Nat → Prop} {w w' : World} {c bm : Nat} (h : CurV w c bm) (u : Upd S w w') (hc : ¬ S c) (hb : ¬ S bm) : CurV w' c bm := ⟨u.cell h.mod hc, h.b.upd u hc, h.val.upd u hb⟩
theorem CurV.hp {w w' : World} {H : List Blk} {c bm : Nat} (h : CurV w c bm) (u : Hp w H w') (hc : Off H c) (hb : Off H bm) : CurV w' c bm := h.upd u.upd (fun y => y hc) fun y => y hb
theorem CurV.lt {w : World} {c bm : Nat} (h : CurV w c bm) : c < w.heap.size ∧ bm < w.heap.size := ⟨h.b.lt (by decide), h.val.blk⟩
end Go.Proofs.YtfaobdakpbpkbaaDoor
end
