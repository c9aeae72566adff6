/-
  MontSums: the walk. Conditions: none.
-/
import Derived.Test.YthmechgccfjmdaaLaw03
namespace Go.Proofs.Ythmechgccfjmdaa
open Go.RowKit Go.Pt
theorem modAddNil (x y : Nat) (w : World) : Calls Try.prog 27 #[.pointer none, numV x, numV y] w fun e w' => e = .returned (numV 0) ∧ Hp w [] w' := by
  refine enter (args := [_, _, _]) (Γ := [(0, _), (1, _), (2, _)]) Try.func27 Try.ntmps27 rfl (of_decide_eq_true rfl) (.cons rfl (.cons rfl (.cons rfl .nil))) ?_
  repeat' (first | (apply Gt.outN; exact rfl; infer_instance; exact rfl; (repeat (first | exact List.Mem.head _ | apply List.Mem.tail)); exact rfl; intro w' hp) | (apply Wl.storeW; exact rfl; exact rfl; (repeat (first | apply HSet.here | apply HSet.there)); exact rfl; (first | exact cellsN_len _ _ _ | exact rfl)) | (apply Wl.boxN; exact rfl; exact rfl; intro c hc ho) | (apply Wl.buildN; exact rfl; (repeat (first | exact Parts.nil | apply Parts.cons rfl)); (repeat (first | apply Fills.nil | (apply Fills.one; exact rfl; exact rfl; (repeat (first | apply LSet.z | apply LSet.s))) | (apply Fills.agg; exact rfl; exact rfl; (repeat (first | apply LPut.s | apply LPut.z | apply LOver.nil | apply LOver.cons))))); (first | exact one8 | exact zero8 | exact two8 | exact one16)) | (apply Wl.allocN; exact rfl; (first | exact z8 | exact z16 | exact z17 | exact z33 | exact z10); intro c hc ho) | (apply Wl.move; exact rfl; exact rfl) | (apply Wl.eqlNN; exact rfl; exact rfl; exact rfl) | (apply Wl.nil) | (apply St.seq) | (apply St.region) | (apply St.condT; exact rfl; (first | with_reducible rfl | with_reducible assumption | decide)) | (apply St.ret) | (apply Gt.next) | (apply Gt.thenRet) | (apply Wl.splitP; exact rfl; exact rfl; all_goals (intros; try (exfalso; omega))) | (apply Wl.splitB; exact rfl; exact rfl; all_goals intros) | (apply St.condP; exact rfl; all_goals (intros; try (exfalso; omega))) | (apply St.condB; exact rfl; all_goals intros))
  exact ⟨rfl, hp.drop (by simp; omega)⟩
theorem modModNil (w : World) : Calls Try.prog 30 #[.pointer none] w fun e w' => e = .returned (numV 0) ∧ Hp w [] w' := by
  refine enter (args := [_]) (Γ := [(0, _)]) Try.func30 Try.ntmps30 rfl (of_decide_eq_true rfl) (.cons rfl .nil) ?_
  repeat' (first | (apply Gt.outN; exact rfl; infer_instance; exact rfl; (repeat (first | exact List.Mem.head _ | apply List.Mem.tail)); exact rfl; intro w' hp) | (apply Wl.storeW; exact rfl; exact rfl; (repeat (first | apply HSet.here | apply HSet.there)); exact rfl; (first | exact cellsN_len _ _ _ | exact rfl)) | (apply Wl.buildN; exact rfl; (repeat (first | exact Parts.nil | apply Parts.cons rfl)); (repeat (first | apply Fills.nil | (apply Fills.one; exact rfl; exact rfl; (repeat (first | apply LSet.z | apply LSet.s))) | (apply Fills.agg; exact rfl; exact rfl; (repeat (first | apply LPut.s | apply LPut.z | apply LOver.nil | apply LOver.cons))))); (first | exact one8 | exact zero8 | exact two8 | exact one16)) | (apply Wl.allocN; exact rfl; (first | exact z8 | exact z16 | exact z17 | exact z33 | exact z10); intro c hc ho) | (apply Wl.move; exact rfl; exact rfl) | (apply Wl.eqlNN; exact rfl; exact rfl; exact rfl) | (apply Wl.nil) | (apply St.seq) | (apply St.region) | (apply St.condT; exact rfl; (first | with_reducible rfl | with_reducible assumption | decide)) | (apply St.ret) | (apply Gt.next) | (apply Gt.thenRet) | (apply Wl.splitP; exact rfl; exact rfl; all_goals (intros; try (exfalso; omega))) | (apply Wl.splitB; exact rfl; exact rfl; all_goals intros) | (apply St.condP; exact rfl; all_goals (intros; try (exfalso; omega))) | (apply St.condB; exact rfl; all_goals intros))
  exact ⟨rfl, hp.drop (by simp; omega)⟩
set_option maxHeartbeats 8000000 in
theorem sums03 (m a a2 : Nat) (w : World) (hm : m < W256) (ha : a < W256) (ha2 : a2 < W256) : Calls Try.prog 6 #[numV m, numV a, numV a2] w fun e w' => e = .returned (.bool true) ∧ Hp w [] w' := by
  refine enter (args := [_, _, _]) (Γ := [(0, _), (1, _), (2, _)]) Try.func6 Try.ntmps6 rfl (of_decide_eq_true rfl) (.cons rfl (.cons rfl (.cons rfl .nil))) ?_
  repeat' (first | (apply Wl.boxN; exact rfl; exact rfl; intro c hc ho) | (apply Wl.assign; exact rfl; exact rfl) | (apply Wl.nil) | (apply St.seq) | (apply St.region) | (apply Gt.next) | (apply Wl.splitP; exact rfl; exact rfl; all_goals (intros; try (exfalso; omega))) | (apply Wl.splitB; exact rfl; exact rfl; all_goals intros) | (apply St.condP; exact rfl; all_goals (intros; try (exfalso; omega))) | (apply St.condB; exact rfl; all_goals intros))
  rename_i c3 h3 o3 c4 h4 o4
  generalize c = c5 at *
  apply Wl.callQ
  exact rfl
  (repeat (first | exact Evs.nil | apply Evs.cons rfl))
  · intro wq hq
    refine (fit03 wq).mono ?_
    rintro e wr ⟨rfl, hr⟩
    exact ⟨rfl, hq.keep hr⟩
  repeat' (first | (apply Wl.loadW; exact rfl; exact rfl; (repeat (first | exact List.Mem.head _ | apply List.Mem.tail)); exact rfl) | (apply Wl.not; exact rfl; exact rfl) | (apply Wl.nil) | (apply St.seq) | (apply St.region) | (apply St.condF; exact rfl; (first | with_reducible rfl | with_reducible assumption | decide)) | (apply St.skip) | (apply Gt.next) | (apply Wl.splitP; exact rfl; exact rfl; all_goals (intros; try (exfalso; omega))) | (apply Wl.splitB; exact rfl; exact rfl; all_goals intros) | (apply St.condP; exact rfl; all_goals (intros; try (exfalso; omega))) | (apply St.condB; exact rfl; all_goals intros))
  apply Wl.callC
  exact rfl
  (repeat (first | exact Evs.nil | apply Evs.cons rfl))
  intro wq hq
  refine (modNew m hm wq).mono ?_
  have l0 := hq.own.lt (.head _)
  have l1 := hq.own.lt (.tail _ (.head _))
  have l2 := hq.own.lt (.tail _ (.tail _ (.head _)))
  simp only at l0 l1 l2
  rintro e wr (⟨hodd, hne1, b, rfl, hb, hV, hr⟩ | ⟨hno, rfl, hr⟩)
  · have hu : Upd (fun k => w.heap.size ≤ k) w wr := hpOn (hq.keep hr) (Upd.refl _ _) (by simp; omega)
    have hbl := hV.blk
    have hgt := hV.gt
    have hm0 : 0 < m := by omega
    have hWm : W256 % m < W256 := Nat.lt_trans (Nat.mod_lt _ hm0) hm
    have hlt (x : Nat) : x % m < m := Nat.mod_lt _ hm0
    have hltW (x : Nat) : x % m < W256 := Nat.lt_trans (hlt x) hm
    have hdm : dg W32 m 0 % 2 = m % 2 := by rw [dg0_mod]; omega
    have h0l := dlt m 0
    refine ⟨_, _, rfl, hpRb (hq.keep hr), ?_⟩
    have hs1 := hu.size
    clear hq hr
    repeat' (first | (apply Wl.indexA (j := 0); exact rfl; exact rfl; exact rfl; (decide)) | (apply Wl.buildN; exact rfl; (repeat (first | exact Parts.nil | apply Parts.cons rfl)); (repeat (first | apply Fills.nil | (apply Fills.one; exact rfl; exact rfl; (repeat (first | apply LSet.z | apply LSet.s))) | (apply Fills.agg; exact rfl; exact rfl; (repeat (first | apply LPut.s | apply LPut.z | apply LOver.nil | apply LOver.cons))))); (first | exact const8 1 (by decide) | exact const8 0 (by decide) | exact one16)) | (apply Wl.eqlA (b := decide (m = 1)); exact rfl; exact rfl; exact rfl; kernel_rfl; kernel_rfl; kernel_rfl; kernel_rfl; exact cell32 _ (dlt _); exact cell32 _ (dlt _); (first | exact d8_inj (by assumption) (by assumption) | exact d8_inj hm (by decide) | exact eqT (by first | rfl | assumption))) | (apply Wl.loadN; exact rfl; exact rfl; (repeat (first | exact List.Mem.head _ | apply List.Mem.tail)); (omega)) | (apply Wl.loadW; exact rfl; exact rfl; (repeat (first | exact List.Mem.head _ | apply List.Mem.tail)); exact rfl) | (apply Wl.remN (n := 2); exact rfl; exact rfl; exact rfl; (decide)) | (apply Wl.move; exact rfl; exact rfl) | (apply Wl.assign; exact rfl; exact rfl) | (apply Wl.on; exact rfl; exact rfl; (first | with_reducible rfl | with_reducible assumption | decide)) | (apply Wl.extract; exact rfl; exact rfl; exact rfl) | (apply Wl.pickF; exact rfl; exact rfl; (first | with_reducible rfl | with_reducible assumption | decide); exact rfl) | (apply Wl.eql; exact rfl; exact rfl; exact rfl) | (apply Wl.nil) | (apply St.seq) | (apply St.region) | (apply St.skip) | (apply Gt.next) | (apply Wl.splitP; exact rfl; exact rfl; all_goals (intros; try (exfalso; omega))) | (apply Wl.splitB; exact rfl; exact rfl; all_goals intros) | (apply St.condP; exact rfl; all_goals (intros; try (exfalso; omega))) | (apply St.condB; exact rfl; all_goals intros))
    repeat' (first | (apply Wl.move; exact rfl; exact rfl) | (apply Wl.on; exact rfl; exact rfl; (first | with_reducible rfl | with_reducible assumption | decide)) | (apply Wl.neqIs; exact rfl; exact rfl; exact rfl; (first | with_reducible assumption | with_reducible rfl)) | (apply St.draw; exact mixed; (kernel_rfl); exact (fun _ h => Hp.drew h)) | (apply Wl.splitP; exact rfl; exact rfl; all_goals (intros; try (exfalso; omega))) | (apply Wl.splitB; exact rfl; exact rfl; all_goals intros) | (apply St.condP; exact rfl; all_goals (intros; try (exfalso; omega))) | (apply St.condB; exact rfl; all_goals intros))
    apply Wl.callQQ
    exact rfl
    (repeat (first | exact Evs.nil | apply Evs.cons rfl))
    · intro wq hq
      refine (modModulus b m wq (hV.hp hq (by apply Off.of; simp <;> omega))).mono ?_
      rintro e wr ⟨rfl, hr⟩
      exact ⟨rfl, hq.keep hr⟩
    repeat' (first | (apply Wl.neqA (b := true); exact rfl; exact rfl; exact rfl; kernel_rfl; kernel_rfl; kernel_rfl; kernel_rfl; exact cell32 _ (dlt _); exact cell32 _ (dlt _); exact eqT (by first | rfl | assumption)) | (apply Wl.loadW; exact rfl; exact rfl; (repeat (first | exact List.Mem.head _ | apply List.Mem.tail)); exact rfl) | (apply Wl.on; exact rfl; exact rfl; (first | with_reducible rfl | with_reducible assumption | decide)) | (apply Wl.pickF; exact rfl; exact rfl; (first | with_reducible rfl | with_reducible assumption | decide); exact rfl) | (apply Wl.nilQ) | (apply St.seq) | (apply St.region) | (apply St.condF; exact rfl; (first | with_reducible rfl | with_reducible assumption | decide)) | (apply St.skip) | (apply Gt.next) | (apply Wl.splitP; exact rfl; exact rfl; all_goals (intros; try (exfalso; omega))) | (apply Wl.splitB; exact rfl; exact rfl; all_goals intros) | (apply St.condP; exact rfl; all_goals (intros; try (exfalso; omega))) | (apply St.condB; exact rfl; all_goals intros))
    apply Wl.callQ
    exact rfl
    (repeat (first | exact Evs.nil | apply Evs.cons rfl))
    · intro wq hq
      refine (refOf m wq).mono ?_
      rintro e wr ⟨rfl, hr⟩
      exact ⟨rfl, hq.keep hr⟩
    repeat' (first | (apply Wl.storeW; exact rfl; exact rfl; (repeat (first | apply HSet.here | apply HSet.there)); exact rfl; (first | exact cellsN_len _ _ _ | exact rfl)) | (apply Wl.allocN; exact rfl; (first | exact z8 | exact z16 | exact z17 | exact z33 | exact z10); intro c hc ho) | (apply Wl.nil) | (apply Gt.next) | (apply Wl.splitP; exact rfl; exact rfl; all_goals (intros; try (exfalso; omega))) | (apply Wl.splitB; exact rfl; exact rfl; all_goals intros) | (apply St.condP; exact rfl; all_goals (intros; try (exfalso; omega))) | (apply St.condB; exact rfl; all_goals intros))
    generalize c = c9 at *
    have hc9 : wr.heap.size ≤ c9 := by assumption
    refine St.cut (σ := Nat × Nat) (fun τ => wr.heap.size ≤ τ.1 ∧ wr.heap.size ≤ τ.2)
      (fun τ => [(3, mp c3), (4, mp c4), (5, mp c5), (6, .bool false), (7, mp b), (9, mp c9), (10, mp τ.1), (11, mp τ.2)])
      (fun τ => Hp wr [⟨τ.2, cellsN .u64 16 (dg D16 (a2 % m)), 32⟩, ⟨τ.1, cellsN .u64 16 (dg D16 (a % m)), 32⟩, ⟨c9, cellsN .u64 16 (dg D16 (m)), 32⟩, ⟨c5, cellsN .u32 8 (dg W32 (a2)), 24⟩, ⟨c4, cellsN .u32 8 (dg W32 (a)), 24⟩, ⟨c3, cellsN .u32 8 (dg W32 (m)), 24⟩]) ?_ ?_
    · refine St.tree (Hp wr [_, _, _, _]) mixed (fun _ h => ⟨Hp.drew h, Hp.drew h⟩) ?_
      refine Mt.pure 0 (by decide +kernel) (by exact rfl) (by exact rfl) (by decide +kernel) (by decide +kernel) ?_
      repeat' (first | (apply Wl.loadW; exact rfl; exact rfl; (repeat (first | exact List.Mem.head _ | apply List.Mem.tail)); exact rfl) | (apply Wl.nilM) | (apply Wl.splitP; exact rfl; exact rfl; all_goals (intros; try (exfalso; omega))) | (apply Wl.splitB; exact rfl; exact rfl; all_goals intros) | (apply St.condP; exact rfl; all_goals (intros; try (exfalso; omega))) | (apply St.condB; exact rfl; all_goals intros))
      apply Mt.back
      refine Mt.pure 2 (by decide +kernel) (by exact rfl) (by exact rfl) (by decide +kernel) (by decide +kernel) ?_
      repeat' (first | (apply Wl.loadW; exact rfl; exact rfl; (repeat (first | exact List.Mem.head _ | apply List.Mem.tail)); exact rfl) | (apply Wl.nilM) | (apply Wl.splitP; exact rfl; exact rfl; all_goals (intros; try (exfalso; omega))) | (apply Wl.splitB; exact rfl; exact rfl; all_goals intros) | (apply St.condP; exact rfl; all_goals (intros; try (exfalso; omega))) | (apply St.condB; exact rfl; all_goals intros))
      apply Mt.back
      refine Mt.pure 4 (by decide +kernel) (by exact rfl) (by exact rfl) (by decide +kernel) (by decide +kernel) ?_
      repeat' (first | (apply Wl.loadW; exact rfl; exact rfl; (repeat (first | exact List.Mem.head _ | apply List.Mem.tail)); exact rfl) | (apply Wl.nilM) | (apply Wl.splitP; exact rfl; exact rfl; all_goals (intros; try (exfalso; omega))) | (apply Wl.splitB; exact rfl; exact rfl; all_goals intros) | (apply St.condP; exact rfl; all_goals (intros; try (exfalso; omega))) | (apply St.condB; exact rfl; all_goals intros))
      apply Mt.back
      refine Mt.pure 6 (by decide +kernel) (by exact rfl) (by exact rfl) (by decide +kernel) (by decide +kernel) ?_
      repeat' (first | (apply Wl.loadW; exact rfl; exact rfl; (repeat (first | exact List.Mem.head _ | apply List.Mem.tail)); exact rfl) | (apply Wl.nilM) | (apply Wl.splitP; exact rfl; exact rfl; all_goals (intros; try (exfalso; omega))) | (apply Wl.splitB; exact rfl; exact rfl; all_goals intros) | (apply St.condP; exact rfl; all_goals (intros; try (exfalso; omega))) | (apply St.condB; exact rfl; all_goals intros))
      apply Mt.back
      refine Mt.eff3 (i := 1) (j := 8) (k := 9) (by decide +kernel) (by exact rfl) (by exact rfl) (by exact rfl) ?_ ?_ ?_
      · apply Wl.callQ
        exact rfl
        (repeat (first | exact Evs.nil | apply Evs.cons rfl))
        (intro wq hq; refine (refOf _ wq).mono ?_; rintro e wr ⟨rfl, hr⟩; exact ⟨rfl, hq.keep hr⟩)
        apply Wl.nil
        refine Mt.backE (fun _ h => by first | exact h | exact hpPop h (by simp only; omega) | exact hpPop (hpPop h (by simp only; omega)) (by simp only; omega)) ?_
        refine Mt.eff3 (i := 3) (j := 8) (k := 9) (by decide +kernel) (by exact rfl) (by exact rfl) (by exact rfl) ?_ ?_ ?_
        · apply Wl.callQ
          exact rfl
          (repeat (first | exact Evs.nil | apply Evs.cons rfl))
          (intro wq hq; refine (refReduce a m wq ha hm hm0).mono ?_; rintro e wr ⟨rfl, hr⟩; exact ⟨rfl, hq.keep hr⟩)
          apply Wl.nil
          refine Mt.backE (fun _ h => by first | exact h | exact hpPop h (by simp only; omega) | exact hpPop (hpPop h (by simp only; omega)) (by simp only; omega)) ?_
          refine Mt.eff3 (i := 5) (j := 8) (k := 9) (by decide +kernel) (by exact rfl) (by exact rfl) (by exact rfl) ?_ ?_ ?_
          · apply Wl.callQ
            exact rfl
            (repeat (first | exact Evs.nil | apply Evs.cons rfl))
            (intro wq hq; refine (refOf _ wq).mono ?_; rintro e wr ⟨rfl, hr⟩; exact ⟨rfl, hq.keep hr⟩)
            apply Wl.nil
            refine Mt.backE (fun _ h => by first | exact h | exact hpPop h (by simp only; omega) | exact hpPop (hpPop h (by simp only; omega)) (by simp only; omega)) ?_
            refine Mt.eff3 (i := 7) (j := 8) (k := 9) (by decide +kernel) (by exact rfl) (by exact rfl) (by exact rfl) ?_ ?_ ?_
            · apply Wl.callQ
              exact rfl
              (repeat (first | exact Evs.nil | apply Evs.cons rfl))
              (intro wq hq; refine (refReduce a2 m wq ha2 hm hm0).mono ?_; rintro e wr ⟨rfl, hr⟩; exact ⟨rfl, hq.keep hr⟩)
              apply Wl.nil
              refine Mt.backE (fun _ h => by first | exact h | exact hpPop h (by simp only; omega) | exact hpPop (hpPop h (by simp only; omega)) (by simp only; omega)) ?_
              refine Mt.eff2 (i := 8) (j := 9) (by decide +kernel) (by exact rfl) (by exact rfl) ?_ ?_
              · apply Wl.allocN
                exact rfl
                (first | exact z8 | exact z16 | exact z17 | exact z33 | exact z10)
                intro c hc ho
                apply Wl.nil
                refine Mt.backE (fun _ h => by first | exact h | exact hpPop h (by simp only; omega) | exact hpPop (hpPop h (by simp only; omega)) (by simp only; omega)) ?_
                refine Mt.eff1 (i := 9) (by decide +kernel) (by exact rfl) ?_
                apply Wl.allocN
                exact rfl
                (first | exact z8 | exact z16 | exact z17 | exact z33 | exact z10)
                intro c hc ho
                apply Wl.nil
                refine Mt.backE (fun _ h => by first | exact h | exact hpPop h (by simp only; omega) | exact hpPop (hpPop h (by simp only; omega)) (by simp only; omega)) ?_
                refine Mt.eff1 (i := 10) (by decide +kernel) (by exact rfl) ?_
                apply Wl.storeW
                exact rfl
                exact rfl
                (repeat (first | apply HSet.here | apply HSet.there))
                exact rfl
                (first | exact cellsN_len _ _ _ | exact rfl)
                apply Wl.nil
                refine Mt.backE (fun _ h => by first | exact h | exact hpPop h (by simp only; omega) | exact hpPop (hpPop h (by simp only; omega)) (by simp only; omega)) ?_
                refine Mt.eff1 (i := 11) (by decide +kernel) (by exact rfl) ?_
                apply Wl.storeW
                exact rfl
                exact rfl
                (repeat (first | apply HSet.here | apply HSet.there))
                exact rfl
                (first | exact cellsN_len _ _ _ | exact rfl)
                apply Wl.nil
                refine Mt.backE (fun _ h => by first | exact h | exact hpPop h (by simp only; omega) | exact hpPop (hpPop h (by simp only; omega)) (by simp only; omega)) ?_
                refine Mt.toGt (by decide +kernel) ?_
                apply Gt.meet (_, _)
                rotate_left
                · (repeat (first | exact Sub.nil | apply Sub.cons rfl))
                · first | exact fun _ h => h | exact fun _ h => hpSwap h
                · exact ⟨by assumption, by assumption⟩
              · apply Wl.allocN
                exact rfl
                (first | exact z8 | exact z16 | exact z17 | exact z33 | exact z10)
                intro c hc ho
                apply Wl.nil
                refine Mt.backE (fun _ h => by first | exact h | exact hpPop h (by simp only; omega) | exact hpPop (hpPop h (by simp only; omega)) (by simp only; omega)) ?_
                refine Mt.eff1 (i := 8) (by decide +kernel) (by exact rfl) ?_
                apply Wl.allocN
                exact rfl
                (first | exact z8 | exact z16 | exact z17 | exact z33 | exact z10)
                intro c hc ho
                apply Wl.nil
                refine Mt.backE (fun _ h => by first | exact h | exact hpPop h (by simp only; omega) | exact hpPop (hpPop h (by simp only; omega)) (by simp only; omega)) ?_
                refine Mt.eff1 (i := 10) (by decide +kernel) (by exact rfl) ?_
                apply Wl.storeW
                exact rfl
                exact rfl
                (repeat (first | apply HSet.here | apply HSet.there))
                exact rfl
                (first | exact cellsN_len _ _ _ | exact rfl)
                apply Wl.nil
                refine Mt.backE (fun _ h => by first | exact h | exact hpPop h (by simp only; omega) | exact hpPop (hpPop h (by simp only; omega)) (by simp only; omega)) ?_
                refine Mt.eff1 (i := 11) (by decide +kernel) (by exact rfl) ?_
                apply Wl.storeW
                exact rfl
                exact rfl
                (repeat (first | apply HSet.here | apply HSet.there))
                exact rfl
                (first | exact cellsN_len _ _ _ | exact rfl)
                apply Wl.nil
                refine Mt.backE (fun _ h => by first | exact h | exact hpPop h (by simp only; omega) | exact hpPop (hpPop h (by simp only; omega)) (by simp only; omega)) ?_
                refine Mt.toGt (by decide +kernel) ?_
                apply Gt.meet (_, _)
                rotate_left
                · (repeat (first | exact Sub.nil | apply Sub.cons rfl))
                · first | exact fun _ h => h | exact fun _ h => hpSwap h
                · exact ⟨by assumption, by assumption⟩
            · apply Wl.allocN
              exact rfl
              (first | exact z8 | exact z16 | exact z17 | exact z33 | exact z10)
              intro c hc ho
              apply Wl.nil
              refine Mt.backE (fun _ h => by first | exact h | exact hpPop h (by simp only; omega) | exact hpPop (hpPop h (by simp only; omega)) (by simp only; omega)) ?_
              refine Mt.eff2 (i := 7) (j := 9) (by decide +kernel) (by exact rfl) (by exact rfl) ?_ ?_
              · apply Wl.callQ
                exact rfl
                (repeat (first | exact Evs.nil | apply Evs.cons rfl))
                (intro wq hq; refine (refReduce a2 m wq ha2 hm hm0).mono ?_; rintro e wr ⟨rfl, hr⟩; exact ⟨rfl, hq.keep hr⟩)
                apply Wl.nil
                refine Mt.backE (fun _ h => by first | exact h | exact hpPop h (by simp only; omega) | exact hpPop (hpPop h (by simp only; omega)) (by simp only; omega)) ?_
                refine Mt.eff1 (i := 9) (by decide +kernel) (by exact rfl) ?_
                apply Wl.allocN
                exact rfl
                (first | exact z8 | exact z16 | exact z17 | exact z33 | exact z10)
                intro c hc ho
                apply Wl.nil
                refine Mt.backE (fun _ h => by first | exact h | exact hpPop h (by simp only; omega) | exact hpPop (hpPop h (by simp only; omega)) (by simp only; omega)) ?_
                refine Mt.eff1 (i := 10) (by decide +kernel) (by exact rfl) ?_
                apply Wl.storeW
                exact rfl
                exact rfl
                (repeat (first | apply HSet.here | apply HSet.there))
                exact rfl
                (first | exact cellsN_len _ _ _ | exact rfl)
                apply Wl.nil
                refine Mt.backE (fun _ h => by first | exact h | exact hpPop h (by simp only; omega) | exact hpPop (hpPop h (by simp only; omega)) (by simp only; omega)) ?_
                refine Mt.eff1 (i := 11) (by decide +kernel) (by exact rfl) ?_
                apply Wl.storeW
                exact rfl
                exact rfl
                (repeat (first | apply HSet.here | apply HSet.there))
                exact rfl
                (first | exact cellsN_len _ _ _ | exact rfl)
                apply Wl.nil
                refine Mt.backE (fun _ h => by first | exact h | exact hpPop h (by simp only; omega) | exact hpPop (hpPop h (by simp only; omega)) (by simp only; omega)) ?_
                refine Mt.toGt (by decide +kernel) ?_
                apply Gt.meet (_, _)
                rotate_left
                · (repeat (first | exact Sub.nil | apply Sub.cons rfl))
                · first | exact fun _ h => h | exact fun _ h => hpSwap h
                · exact ⟨by assumption, by assumption⟩
              · apply Wl.allocN
                exact rfl
                (first | exact z8 | exact z16 | exact z17 | exact z33 | exact z10)
                intro c hc ho
                apply Wl.nil
                refine Mt.backE (fun _ h => by first | exact h | exact hpPop h (by simp only; omega) | exact hpPop (hpPop h (by simp only; omega)) (by simp only; omega)) ?_
                refine Mt.eff1 (i := 7) (by decide +kernel) (by exact rfl) ?_
                apply Wl.callQ
                exact rfl
                (repeat (first | exact Evs.nil | apply Evs.cons rfl))
                (intro wq hq; refine (refReduce a2 m wq ha2 hm hm0).mono ?_; rintro e wr ⟨rfl, hr⟩; exact ⟨rfl, hq.keep hr⟩)
                apply Wl.nil
                refine Mt.backE (fun _ h => by first | exact h | exact hpPop h (by simp only; omega) | exact hpPop (hpPop h (by simp only; omega)) (by simp only; omega)) ?_
                refine Mt.eff1 (i := 10) (by decide +kernel) (by exact rfl) ?_
                apply Wl.storeW
                exact rfl
                exact rfl
                (repeat (first | apply HSet.here | apply HSet.there))
                exact rfl
                (first | exact cellsN_len _ _ _ | exact rfl)
                apply Wl.nil
                refine Mt.backE (fun _ h => by first | exact h | exact hpPop h (by simp only; omega) | exact hpPop (hpPop h (by simp only; omega)) (by simp only; omega)) ?_
                refine Mt.eff1 (i := 11) (by decide +kernel) (by exact rfl) ?_
                apply Wl.storeW
                exact rfl
                exact rfl
                (repeat (first | apply HSet.here | apply HSet.there))
                exact rfl
                (first | exact cellsN_len _ _ _ | exact rfl)
                apply Wl.nil
                refine Mt.backE (fun _ h => by first | exact h | exact hpPop h (by simp only; omega) | exact hpPop (hpPop h (by simp only; omega)) (by simp only; omega)) ?_
                refine Mt.toGt (by decide +kernel) ?_
                apply Gt.meet (_, _)
                rotate_left
                · (repeat (first | exact Sub.nil | apply Sub.cons rfl))
                · first | exact fun _ h => h | exact fun _ h => hpSwap h
                · exact ⟨by assumption, by assumption⟩
            · apply Wl.allocN
              exact rfl
              (first | exact z8 | exact z16 | exact z17 | exact z33 | exact z10)
              intro c hc ho
              apply Wl.nil
              refine Mt.backE (fun _ h => by first | exact h | exact hpPop h (by simp only; omega) | exact hpPop (hpPop h (by simp only; omega)) (by simp only; omega)) ?_
              refine Mt.eff2 (i := 7) (j := 8) (by decide +kernel) (by exact rfl) (by exact rfl) ?_ ?_
              · apply Wl.callQ
                exact rfl
                (repeat (first | exact Evs.nil | apply Evs.cons rfl))
                (intro wq hq; refine (refReduce a2 m wq ha2 hm hm0).mono ?_; rintro e wr ⟨rfl, hr⟩; exact ⟨rfl, hq.keep hr⟩)
                apply Wl.nil
                refine Mt.backE (fun _ h => by first | exact h | exact hpPop h (by simp only; omega) | exact hpPop (hpPop h (by simp only; omega)) (by simp only; omega)) ?_
                refine Mt.eff1 (i := 8) (by decide +kernel) (by exact rfl) ?_
                apply Wl.allocN
                exact rfl
                (first | exact z8 | exact z16 | exact z17 | exact z33 | exact z10)
                intro c hc ho
                apply Wl.nil
                refine Mt.backE (fun _ h => by first | exact h | exact hpPop h (by simp only; omega) | exact hpPop (hpPop h (by simp only; omega)) (by simp only; omega)) ?_
                refine Mt.eff1 (i := 10) (by decide +kernel) (by exact rfl) ?_
                apply Wl.storeW
                exact rfl
                exact rfl
                (repeat (first | apply HSet.here | apply HSet.there))
                exact rfl
                (first | exact cellsN_len _ _ _ | exact rfl)
                apply Wl.nil
                refine Mt.backE (fun _ h => by first | exact h | exact hpPop h (by simp only; omega) | exact hpPop (hpPop h (by simp only; omega)) (by simp only; omega)) ?_
                refine Mt.eff1 (i := 11) (by decide +kernel) (by exact rfl) ?_
                apply Wl.storeW
                exact rfl
                exact rfl
                (repeat (first | apply HSet.here | apply HSet.there))
                exact rfl
                (first | exact cellsN_len _ _ _ | exact rfl)
                apply Wl.nil
                refine Mt.backE (fun _ h => by first | exact h | exact hpPop h (by simp only; omega) | exact hpPop (hpPop h (by simp only; omega)) (by simp only; omega)) ?_
                refine Mt.toGt (by decide +kernel) ?_
                apply Gt.meet (_, _)
                rotate_left
                · (repeat (first | exact Sub.nil | apply Sub.cons rfl))
                · first | exact fun _ h => h | exact fun _ h => hpSwap h
                · exact ⟨by assumption, by assumption⟩
              · apply Wl.allocN
                exact rfl
                (first | exact z8 | exact z16 | exact z17 | exact z33 | exact z10)
                intro c hc ho
                apply Wl.nil
                refine Mt.backE (fun _ h => by first | exact h | exact hpPop h (by simp only; omega) | exact hpPop (hpPop h (by simp only; omega)) (by simp only; omega)) ?_
                refine Mt.eff1 (i := 7) (by decide +kernel) (by exact rfl) ?_
                apply Wl.callQ
                exact rfl
                (repeat (first | exact Evs.nil | apply Evs.cons rfl))
                (intro wq hq; refine (refReduce a2 m wq ha2 hm hm0).mono ?_; rintro e wr ⟨rfl, hr⟩; exact ⟨rfl, hq.keep hr⟩)
                apply Wl.nil
                refine Mt.backE (fun _ h => by first | exact h | exact hpPop h (by simp only; omega) | exact hpPop (hpPop h (by simp only; omega)) (by simp only; omega)) ?_
                refine Mt.eff1 (i := 10) (by decide +kernel) (by exact rfl) ?_
                apply Wl.storeW
                exact rfl
                exact rfl
                (repeat (first | apply HSet.here | apply HSet.there))
                exact rfl
                (first | exact cellsN_len _ _ _ | exact rfl)
                apply Wl.nil
                refine Mt.backE (fun _ h => by first | exact h | exact hpPop h (by simp only; omega) | exact hpPop (hpPop h (by simp only; omega)) (by simp only; omega)) ?_
                refine Mt.eff1 (i := 11) (by decide +kernel) (by exact rfl) ?_
                apply Wl.storeW
                exact rfl
                exact rfl
                (repeat (first | apply HSet.here | apply HSet.there))
                exact rfl
                (first | exact cellsN_len _ _ _ | exact rfl)
                apply Wl.nil
                refine Mt.backE (fun _ h => by first | exact h | exact hpPop h (by simp only; omega) | exact hpPop (hpPop h (by simp only; omega)) (by simp only; omega)) ?_
                refine Mt.toGt (by decide +kernel) ?_
                apply Gt.meet (_, _)
                rotate_left
                · (repeat (first | exact Sub.nil | apply Sub.cons rfl))
                · first | exact fun _ h => h | exact fun _ h => hpSwap h
                · exact ⟨by assumption, by assumption⟩
          · apply Wl.allocN
            exact rfl
            (first | exact z8 | exact z16 | exact z17 | exact z33 | exact z10)
            intro c hc ho
            apply Wl.nil
            refine Mt.backE (fun _ h => by first | exact h | exact hpPop h (by simp only; omega) | exact hpPop (hpPop h (by simp only; omega)) (by simp only; omega)) ?_
            refine Mt.eff2 (i := 5) (j := 9) (by decide +kernel) (by exact rfl) (by exact rfl) ?_ ?_
            · apply Wl.callQ
              exact rfl
              (repeat (first | exact Evs.nil | apply Evs.cons rfl))
              (intro wq hq; refine (refOf _ wq).mono ?_; rintro e wr ⟨rfl, hr⟩; exact ⟨rfl, hq.keep hr⟩)
              apply Wl.nil
              refine Mt.backE (fun _ h => by first | exact h | exact hpPop h (by simp only; omega) | exact hpPop (hpPop h (by simp only; omega)) (by simp only; omega)) ?_
              refine Mt.eff2 (i := 7) (j := 9) (by decide +kernel) (by exact rfl) (by exact rfl) ?_ ?_
              · apply Wl.callQ
                exact rfl
                (repeat (first | exact Evs.nil | apply Evs.cons rfl))
                (intro wq hq; refine (refReduce a2 m wq ha2 hm hm0).mono ?_; rintro e wr ⟨rfl, hr⟩; exact ⟨rfl, hq.keep hr⟩)
                apply Wl.nil
                refine Mt.backE (fun _ h => by first | exact h | exact hpPop h (by simp only; omega) | exact hpPop (hpPop h (by simp only; omega)) (by simp only; omega)) ?_
                refine Mt.eff1 (i := 9) (by decide +kernel) (by exact rfl) ?_
                apply Wl.allocN
                exact rfl
                (first | exact z8 | exact z16 | exact z17 | exact z33 | exact z10)
                intro c hc ho
                apply Wl.nil
                refine Mt.backE (fun _ h => by first | exact h | exact hpPop h (by simp only; omega) | exact hpPop (hpPop h (by simp only; omega)) (by simp only; omega)) ?_
                refine Mt.eff1 (i := 10) (by decide +kernel) (by exact rfl) ?_
                apply Wl.storeW
                exact rfl
                exact rfl
                (repeat (first | apply HSet.here | apply HSet.there))
                exact rfl
                (first | exact cellsN_len _ _ _ | exact rfl)
                apply Wl.nil
                refine Mt.backE (fun _ h => by first | exact h | exact hpPop h (by simp only; omega) | exact hpPop (hpPop h (by simp only; omega)) (by simp only; omega)) ?_
                refine Mt.eff1 (i := 11) (by decide +kernel) (by exact rfl) ?_
                apply Wl.storeW
                exact rfl
                exact rfl
                (repeat (first | apply HSet.here | apply HSet.there))
                exact rfl
                (first | exact cellsN_len _ _ _ | exact rfl)
                apply Wl.nil
                refine Mt.backE (fun _ h => by first | exact h | exact hpPop h (by simp only; omega) | exact hpPop (hpPop h (by simp only; omega)) (by simp only; omega)) ?_
                refine Mt.toGt (by decide +kernel) ?_
                apply Gt.meet (_, _)
                rotate_left
                · (repeat (first | exact Sub.nil | apply Sub.cons rfl))
                · first | exact fun _ h => h | exact fun _ h => hpSwap h
                · exact ⟨by assumption, by assumption⟩
              · apply Wl.allocN
                exact rfl
                (first | exact z8 | exact z16 | exact z17 | exact z33 | exact z10)
                intro c hc ho
                apply Wl.nil
                refine Mt.backE (fun _ h => by first | exact h | exact hpPop h (by simp only; omega) | exact hpPop (hpPop h (by simp only; omega)) (by simp only; omega)) ?_
                refine Mt.eff1 (i := 7) (by decide +kernel) (by exact rfl) ?_
                apply Wl.callQ
                exact rfl
                (repeat (first | exact Evs.nil | apply Evs.cons rfl))
                (intro wq hq; refine (refReduce a2 m wq ha2 hm hm0).mono ?_; rintro e wr ⟨rfl, hr⟩; exact ⟨rfl, hq.keep hr⟩)
                apply Wl.nil
                refine Mt.backE (fun _ h => by first | exact h | exact hpPop h (by simp only; omega) | exact hpPop (hpPop h (by simp only; omega)) (by simp only; omega)) ?_
                refine Mt.eff1 (i := 10) (by decide +kernel) (by exact rfl) ?_
                apply Wl.storeW
                exact rfl
                exact rfl
                (repeat (first | apply HSet.here | apply HSet.there))
                exact rfl
                (first | exact cellsN_len _ _ _ | exact rfl)
                apply Wl.nil
                refine Mt.backE (fun _ h => by first | exact h | exact hpPop h (by simp only; omega) | exact hpPop (hpPop h (by simp only; omega)) (by simp only; omega)) ?_
                refine Mt.eff1 (i := 11) (by decide +kernel) (by exact rfl) ?_
                apply Wl.storeW
                exact rfl
                exact rfl
                (repeat (first | apply HSet.here | apply HSet.there))
                exact rfl
                (first | exact cellsN_len _ _ _ | exact rfl)
                apply Wl.nil
                refine Mt.backE (fun _ h => by first | exact h | exact hpPop h (by simp only; omega) | exact hpPop (hpPop h (by simp only; omega)) (by simp only; omega)) ?_
                refine Mt.toGt (by decide +kernel) ?_
                apply Gt.meet (_, _)
                rotate_left
                · (repeat (first | exact Sub.nil | apply Sub.cons rfl))
                · first | exact fun _ h => h | exact fun _ h => hpSwap h
                · exact ⟨by assumption, by assumption⟩
            · apply Wl.allocN
              exact rfl
              (first | exact z8 | exact z16 | exact z17 | exact z33 | exact z10)
              intro c hc ho
              apply Wl.nil
              refine Mt.backE (fun _ h => by first | exact h | exact hpPop h (by simp only; omega) | exact hpPop (hpPop h (by simp only; omega)) (by simp only; omega)) ?_
              refine Mt.eff1 (i := 5) (by decide +kernel) (by exact rfl) ?_
              apply Wl.callQ
              exact rfl
              (repeat (first | exact Evs.nil | apply Evs.cons rfl))
              (intro wq hq; refine (refOf _ wq).mono ?_; rintro e wr ⟨rfl, hr⟩; exact ⟨rfl, hq.keep hr⟩)
              apply Wl.nil
              refine Mt.backE (fun _ h => by first | exact h | exact hpPop h (by simp only; omega) | exact hpPop (hpPop h (by simp only; omega)) (by simp only; omega)) ?_
              refine Mt.eff1 (i := 7) (by decide +kernel) (by exact rfl) ?_
              apply Wl.callQ
              exact rfl
              (repeat (first | exact Evs.nil | apply Evs.cons rfl))
              (intro wq hq; refine (refReduce a2 m wq ha2 hm hm0).mono ?_; rintro e wr ⟨rfl, hr⟩; exact ⟨rfl, hq.keep hr⟩)
              apply Wl.nil
              refine Mt.backE (fun _ h => by first | exact h | exact hpPop h (by simp only; omega) | exact hpPop (hpPop h (by simp only; omega)) (by simp only; omega)) ?_
              refine Mt.eff1 (i := 10) (by decide +kernel) (by exact rfl) ?_
              apply Wl.storeW
              exact rfl
              exact rfl
              (repeat (first | apply HSet.here | apply HSet.there))
              exact rfl
              (first | exact cellsN_len _ _ _ | exact rfl)
              apply Wl.nil
              refine Mt.backE (fun _ h => by first | exact h | exact hpPop h (by simp only; omega) | exact hpPop (hpPop h (by simp only; omega)) (by simp only; omega)) ?_
              refine Mt.eff1 (i := 11) (by decide +kernel) (by exact rfl) ?_
              apply Wl.storeW
              exact rfl
              exact rfl
              (repeat (first | apply HSet.here | apply HSet.there))
              exact rfl
              (first | exact cellsN_len _ _ _ | exact rfl)
              apply Wl.nil
              refine Mt.backE (fun _ h => by first | exact h | exact hpPop h (by simp only; omega) | exact hpPop (hpPop h (by simp only; omega)) (by simp only; omega)) ?_
              refine Mt.toGt (by decide +kernel) ?_
              apply Gt.meet (_, _)
              rotate_left
              · (repeat (first | exact Sub.nil | apply Sub.cons rfl))
              · first | exact fun _ h => h | exact fun _ h => hpSwap h
              · exact ⟨by assumption, by assumption⟩
          · apply Wl.allocN
            exact rfl
            (first | exact z8 | exact z16 | exact z17 | exact z33 | exact z10)
            intro c hc ho
            apply Wl.nil
            refine Mt.backE (fun _ h => by first | exact h | exact hpPop h (by simp only; omega) | exact hpPop (hpPop h (by simp only; omega)) (by simp only; omega)) ?_
            refine Mt.eff2 (i := 5) (j := 8) (by decide +kernel) (by exact rfl) (by exact rfl) ?_ ?_
            · apply Wl.callQ
              exact rfl
              (repeat (first | exact Evs.nil | apply Evs.cons rfl))
              (intro wq hq; refine (refOf _ wq).mono ?_; rintro e wr ⟨rfl, hr⟩; exact ⟨rfl, hq.keep hr⟩)
              apply Wl.nil
              refine Mt.backE (fun _ h => by first | exact h | exact hpPop h (by simp only; omega) | exact hpPop (hpPop h (by simp only; omega)) (by simp only; omega)) ?_
              refine Mt.eff2 (i := 7) (j := 8) (by decide +kernel) (by exact rfl) (by exact rfl) ?_ ?_
              · apply Wl.callQ
                exact rfl
                (repeat (first | exact Evs.nil | apply Evs.cons rfl))
                (intro wq hq; refine (refReduce a2 m wq ha2 hm hm0).mono ?_; rintro e wr ⟨rfl, hr⟩; exact ⟨rfl, hq.keep hr⟩)
                apply Wl.nil
                refine Mt.backE (fun _ h => by first | exact h | exact hpPop h (by simp only; omega) | exact hpPop (hpPop h (by simp only; omega)) (by simp only; omega)) ?_
                refine Mt.eff1 (i := 8) (by decide +kernel) (by exact rfl) ?_
                apply Wl.allocN
                exact rfl
                (first | exact z8 | exact z16 | exact z17 | exact z33 | exact z10)
                intro c hc ho
                apply Wl.nil
                refine Mt.backE (fun _ h => by first | exact h | exact hpPop h (by simp only; omega) | exact hpPop (hpPop h (by simp only; omega)) (by simp only; omega)) ?_
                refine Mt.eff1 (i := 10) (by decide +kernel) (by exact rfl) ?_
                apply Wl.storeW
                exact rfl
                exact rfl
                (repeat (first | apply HSet.here | apply HSet.there))
                exact rfl
                (first | exact cellsN_len _ _ _ | exact rfl)
                apply Wl.nil
                refine Mt.backE (fun _ h => by first | exact h | exact hpPop h (by simp only; omega) | exact hpPop (hpPop h (by simp only; omega)) (by simp only; omega)) ?_
                refine Mt.eff1 (i := 11) (by decide +kernel) (by exact rfl) ?_
                apply Wl.storeW
                exact rfl
                exact rfl
                (repeat (first | apply HSet.here | apply HSet.there))
                exact rfl
                (first | exact cellsN_len _ _ _ | exact rfl)
                apply Wl.nil
                refine Mt.backE (fun _ h => by first | exact h | exact hpPop h (by simp only; omega) | exact hpPop (hpPop h (by simp only; omega)) (by simp only; omega)) ?_
                refine Mt.toGt (by decide +kernel) ?_
                apply Gt.meet (_, _)
                rotate_left
                · (repeat (first | exact Sub.nil | apply Sub.cons rfl))
                · first | exact fun _ h => h | exact fun _ h => hpSwap h
                · exact ⟨by assumption, by assumption⟩
              · apply Wl.allocN
                exact rfl
                (first | exact z8 | exact z16 | exact z17 | exact z33 | exact z10)
                intro c hc ho
                apply Wl.nil
                refine Mt.backE (fun _ h => by first | exact h | exact hpPop h (by simp only; omega) | exact hpPop (hpPop h (by simp only; omega)) (by simp only; omega)) ?_
                refine Mt.eff1 (i := 7) (by decide +kernel) (by exact rfl) ?_
                apply Wl.callQ
                exact rfl
                (repeat (first | exact Evs.nil | apply Evs.cons rfl))
                (intro wq hq; refine (refReduce a2 m wq ha2 hm hm0).mono ?_; rintro e wr ⟨rfl, hr⟩; exact ⟨rfl, hq.keep hr⟩)
                apply Wl.nil
                refine Mt.backE (fun _ h => by first | exact h | exact hpPop h (by simp only; omega) | exact hpPop (hpPop h (by simp only; omega)) (by simp only; omega)) ?_
                refine Mt.eff1 (i := 10) (by decide +kernel) (by exact rfl) ?_
                apply Wl.storeW
                exact rfl
                exact rfl
                (repeat (first | apply HSet.here | apply HSet.there))
                exact rfl
                (first | exact cellsN_len _ _ _ | exact rfl)
                apply Wl.nil
                refine Mt.backE (fun _ h => by first | exact h | exact hpPop h (by simp only; omega) | exact hpPop (hpPop h (by simp only; omega)) (by simp only; omega)) ?_
                refine Mt.eff1 (i := 11) (by decide +kernel) (by exact rfl) ?_
                apply Wl.storeW
                exact rfl
                exact rfl
                (repeat (first | apply HSet.here | apply HSet.there))
                exact rfl
                (first | exact cellsN_len _ _ _ | exact rfl)
                apply Wl.nil
                refine Mt.backE (fun _ h => by first | exact h | exact hpPop h (by simp only; omega) | exact hpPop (hpPop h (by simp only; omega)) (by simp only; omega)) ?_
                refine Mt.toGt (by decide +kernel) ?_
                apply Gt.meet (_, _)
                rotate_left
                · (repeat (first | exact Sub.nil | apply Sub.cons rfl))
                · first | exact fun _ h => h | exact fun _ h => hpSwap h
                · exact ⟨by assumption, by assumption⟩
            · apply Wl.allocN
              exact rfl
              (first | exact z8 | exact z16 | exact z17 | exact z33 | exact z10)
              intro c hc ho
              apply Wl.nil
              refine Mt.backE (fun _ h => by first | exact h | exact hpPop h (by simp only; omega) | exact hpPop (hpPop h (by simp only; omega)) (by simp only; omega)) ?_
              refine Mt.eff1 (i := 5) (by decide +kernel) (by exact rfl) ?_
              apply Wl.callQ
              exact rfl
              (repeat (first | exact Evs.nil | apply Evs.cons rfl))
              (intro wq hq; refine (refOf _ wq).mono ?_; rintro e wr ⟨rfl, hr⟩; exact ⟨rfl, hq.keep hr⟩)
              apply Wl.nil
              refine Mt.backE (fun _ h => by first | exact h | exact hpPop h (by simp only; omega) | exact hpPop (hpPop h (by simp only; omega)) (by simp only; omega)) ?_
              refine Mt.eff1 (i := 7) (by decide +kernel) (by exact rfl) ?_
              apply Wl.callQ
              exact rfl
              (repeat (first | exact Evs.nil | apply Evs.cons rfl))
              (intro wq hq; refine (refReduce a2 m wq ha2 hm hm0).mono ?_; rintro e wr ⟨rfl, hr⟩; exact ⟨rfl, hq.keep hr⟩)
              apply Wl.nil
              refine Mt.backE (fun _ h => by first | exact h | exact hpPop h (by simp only; omega) | exact hpPop (hpPop h (by simp only; omega)) (by simp only; omega)) ?_
              refine Mt.eff1 (i := 10) (by decide +kernel) (by exact rfl) ?_
              apply Wl.storeW
              exact rfl
              exact rfl
              (repeat (first | apply HSet.here | apply HSet.there))
              exact rfl
              (first | exact cellsN_len _ _ _ | exact rfl)
              apply Wl.nil
              refine Mt.backE (fun _ h => by first | exact h | exact hpPop h (by simp only; omega) | exact hpPop (hpPop h (by simp only; omega)) (by simp only; omega)) ?_
              refine Mt.eff1 (i := 11) (by decide +kernel) (by exact rfl) ?_
              apply Wl.storeW
              exact rfl
              exact rfl
              (repeat (first | apply HSet.here | apply HSet.there))
              exact rfl
              (first | exact cellsN_len _ _ _ | exact rfl)
              apply Wl.nil
              refine Mt.backE (fun _ h => by first | exact h | exact hpPop h (by simp only; omega) | exact hpPop (hpPop h (by simp only; omega)) (by simp only; omega)) ?_
              refine Mt.toGt (by decide +kernel) ?_
              apply Gt.meet (_, _)
              rotate_left
              · (repeat (first | exact Sub.nil | apply Sub.cons rfl))
              · first | exact fun _ h => h | exact fun _ h => hpSwap h
              · exact ⟨by assumption, by assumption⟩
        · apply Wl.allocN
          exact rfl
          (first | exact z8 | exact z16 | exact z17 | exact z33 | exact z10)
          intro c hc ho
          apply Wl.nil
          refine Mt.backE (fun _ h => by first | exact h | exact hpPop h (by simp only; omega) | exact hpPop (hpPop h (by simp only; omega)) (by simp only; omega)) ?_
          refine Mt.eff2 (i := 3) (j := 9) (by decide +kernel) (by exact rfl) (by exact rfl) ?_ ?_
          · apply Wl.callQ
            exact rfl
            (repeat (first | exact Evs.nil | apply Evs.cons rfl))
            (intro wq hq; refine (refReduce a m wq ha hm hm0).mono ?_; rintro e wr ⟨rfl, hr⟩; exact ⟨rfl, hq.keep hr⟩)
            apply Wl.nil
            refine Mt.backE (fun _ h => by first | exact h | exact hpPop h (by simp only; omega) | exact hpPop (hpPop h (by simp only; omega)) (by simp only; omega)) ?_
            refine Mt.eff2 (i := 5) (j := 9) (by decide +kernel) (by exact rfl) (by exact rfl) ?_ ?_
            · apply Wl.callQ
              exact rfl
              (repeat (first | exact Evs.nil | apply Evs.cons rfl))
              (intro wq hq; refine (refOf _ wq).mono ?_; rintro e wr ⟨rfl, hr⟩; exact ⟨rfl, hq.keep hr⟩)
              apply Wl.nil
              refine Mt.backE (fun _ h => by first | exact h | exact hpPop h (by simp only; omega) | exact hpPop (hpPop h (by simp only; omega)) (by simp only; omega)) ?_
              refine Mt.eff2 (i := 7) (j := 9) (by decide +kernel) (by exact rfl) (by exact rfl) ?_ ?_
              · apply Wl.callQ
                exact rfl
                (repeat (first | exact Evs.nil | apply Evs.cons rfl))
                (intro wq hq; refine (refReduce a2 m wq ha2 hm hm0).mono ?_; rintro e wr ⟨rfl, hr⟩; exact ⟨rfl, hq.keep hr⟩)
                apply Wl.nil
                refine Mt.backE (fun _ h => by first | exact h | exact hpPop h (by simp only; omega) | exact hpPop (hpPop h (by simp only; omega)) (by simp only; omega)) ?_
                refine Mt.eff1 (i := 9) (by decide +kernel) (by exact rfl) ?_
                apply Wl.allocN
                exact rfl
                (first | exact z8 | exact z16 | exact z17 | exact z33 | exact z10)
                intro c hc ho
                apply Wl.nil
                refine Mt.backE (fun _ h => by first | exact h | exact hpPop h (by simp only; omega) | exact hpPop (hpPop h (by simp only; omega)) (by simp only; omega)) ?_
                refine Mt.eff1 (i := 10) (by decide +kernel) (by exact rfl) ?_
                apply Wl.storeW
                exact rfl
                exact rfl
                (repeat (first | apply HSet.here | apply HSet.there))
                exact rfl
                (first | exact cellsN_len _ _ _ | exact rfl)
                apply Wl.nil
                refine Mt.backE (fun _ h => by first | exact h | exact hpPop h (by simp only; omega) | exact hpPop (hpPop h (by simp only; omega)) (by simp only; omega)) ?_
                refine Mt.eff1 (i := 11) (by decide +kernel) (by exact rfl) ?_
                apply Wl.storeW
                exact rfl
                exact rfl
                (repeat (first | apply HSet.here | apply HSet.there))
                exact rfl
                (first | exact cellsN_len _ _ _ | exact rfl)
                apply Wl.nil
                refine Mt.backE (fun _ h => by first | exact h | exact hpPop h (by simp only; omega) | exact hpPop (hpPop h (by simp only; omega)) (by simp only; omega)) ?_
                refine Mt.toGt (by decide +kernel) ?_
                apply Gt.meet (_, _)
                rotate_left
                · (repeat (first | exact Sub.nil | apply Sub.cons rfl))
                · first | exact fun _ h => h | exact fun _ h => hpSwap h
                · exact ⟨by assumption, by assumption⟩
              · apply Wl.allocN
                exact rfl
                (first | exact z8 | exact z16 | exact z17 | exact z33 | exact z10)
                intro c hc ho
                apply Wl.nil
                refine Mt.backE (fun _ h => by first | exact h | exact hpPop h (by simp only; omega) | exact hpPop (hpPop h (by simp only; omega)) (by simp only; omega)) ?_
                refine Mt.eff1 (i := 7) (by decide +kernel) (by exact rfl) ?_
                apply Wl.callQ
                exact rfl
                (repeat (first | exact Evs.nil | apply Evs.cons rfl))
                (intro wq hq; refine (refReduce a2 m wq ha2 hm hm0).mono ?_; rintro e wr ⟨rfl, hr⟩; exact ⟨rfl, hq.keep hr⟩)
                apply Wl.nil
                refine Mt.backE (fun _ h => by first | exact h | exact hpPop h (by simp only; omega) | exact hpPop (hpPop h (by simp only; omega)) (by simp only; omega)) ?_
                refine Mt.eff1 (i := 10) (by decide +kernel) (by exact rfl) ?_
                apply Wl.storeW
                exact rfl
                exact rfl
                (repeat (first | apply HSet.here | apply HSet.there))
                exact rfl
                (first | exact cellsN_len _ _ _ | exact rfl)
                apply Wl.nil
                refine Mt.backE (fun _ h => by first | exact h | exact hpPop h (by simp only; omega) | exact hpPop (hpPop h (by simp only; omega)) (by simp only; omega)) ?_
                refine Mt.eff1 (i := 11) (by decide +kernel) (by exact rfl) ?_
                apply Wl.storeW
                exact rfl
                exact rfl
                (repeat (first | apply HSet.here | apply HSet.there))
                exact rfl
                (first | exact cellsN_len _ _ _ | exact rfl)
                apply Wl.nil
                refine Mt.backE (fun _ h => by first | exact h | exact hpPop h (by simp only; omega) | exact hpPop (hpPop h (by simp only; omega)) (by simp only; omega)) ?_
                refine Mt.toGt (by decide +kernel) ?_
                apply Gt.meet (_, _)
                rotate_left
                · (repeat (first | exact Sub.nil | apply Sub.cons rfl))
                · first | exact fun _ h => h | exact fun _ h => hpSwap h
                · exact ⟨by assumption, by assumption⟩
            · apply Wl.allocN
              exact rfl
              (first | exact z8 | exact z16 | exact z17 | exact z33 | exact z10)
              intro c hc ho
              apply Wl.nil
              refine Mt.backE (fun _ h => by first | exact h | exact hpPop h (by simp only; omega) | exact hpPop (hpPop h (by simp only; omega)) (by simp only; omega)) ?_
              refine Mt.eff1 (i := 5) (by decide +kernel) (by exact rfl) ?_
              apply Wl.callQ
              exact rfl
              (repeat (first | exact Evs.nil | apply Evs.cons rfl))
              (intro wq hq; refine (refOf _ wq).mono ?_; rintro e wr ⟨rfl, hr⟩; exact ⟨rfl, hq.keep hr⟩)
              apply Wl.nil
              refine Mt.backE (fun _ h => by first | exact h | exact hpPop h (by simp only; omega) | exact hpPop (hpPop h (by simp only; omega)) (by simp only; omega)) ?_
              refine Mt.eff1 (i := 7) (by decide +kernel) (by exact rfl) ?_
              apply Wl.callQ
              exact rfl
              (repeat (first | exact Evs.nil | apply Evs.cons rfl))
              (intro wq hq; refine (refReduce a2 m wq ha2 hm hm0).mono ?_; rintro e wr ⟨rfl, hr⟩; exact ⟨rfl, hq.keep hr⟩)
              apply Wl.nil
              refine Mt.backE (fun _ h => by first | exact h | exact hpPop h (by simp only; omega) | exact hpPop (hpPop h (by simp only; omega)) (by simp only; omega)) ?_
              refine Mt.eff1 (i := 10) (by decide +kernel) (by exact rfl) ?_
              apply Wl.storeW
              exact rfl
              exact rfl
              (repeat (first | apply HSet.here | apply HSet.there))
              exact rfl
              (first | exact cellsN_len _ _ _ | exact rfl)
              apply Wl.nil
              refine Mt.backE (fun _ h => by first | exact h | exact hpPop h (by simp only; omega) | exact hpPop (hpPop h (by simp only; omega)) (by simp only; omega)) ?_
              refine Mt.eff1 (i := 11) (by decide +kernel) (by exact rfl) ?_
              apply Wl.storeW
              exact rfl
              exact rfl
              (repeat (first | apply HSet.here | apply HSet.there))
              exact rfl
              (first | exact cellsN_len _ _ _ | exact rfl)
              apply Wl.nil
              refine Mt.backE (fun _ h => by first | exact h | exact hpPop h (by simp only; omega) | exact hpPop (hpPop h (by simp only; omega)) (by simp only; omega)) ?_
              refine Mt.toGt (by decide +kernel) ?_
              apply Gt.meet (_, _)
              rotate_left
              · (repeat (first | exact Sub.nil | apply Sub.cons rfl))
              · first | exact fun _ h => h | exact fun _ h => hpSwap h
              · exact ⟨by assumption, by assumption⟩
          · apply Wl.allocN
            exact rfl
            (first | exact z8 | exact z16 | exact z17 | exact z33 | exact z10)
            intro c hc ho
            apply Wl.nil
            refine Mt.backE (fun _ h => by first | exact h | exact hpPop h (by simp only; omega) | exact hpPop (hpPop h (by simp only; omega)) (by simp only; omega)) ?_
            refine Mt.eff1 (i := 3) (by decide +kernel) (by exact rfl) ?_
            apply Wl.callQ
            exact rfl
            (repeat (first | exact Evs.nil | apply Evs.cons rfl))
            (intro wq hq; refine (refReduce a m wq ha hm hm0).mono ?_; rintro e wr ⟨rfl, hr⟩; exact ⟨rfl, hq.keep hr⟩)
            apply Wl.nil
            refine Mt.backE (fun _ h => by first | exact h | exact hpPop h (by simp only; omega) | exact hpPop (hpPop h (by simp only; omega)) (by simp only; omega)) ?_
            refine Mt.eff1 (i := 5) (by decide +kernel) (by exact rfl) ?_
            apply Wl.callQ
            exact rfl
            (repeat (first | exact Evs.nil | apply Evs.cons rfl))
            (intro wq hq; refine (refOf _ wq).mono ?_; rintro e wr ⟨rfl, hr⟩; exact ⟨rfl, hq.keep hr⟩)
            apply Wl.nil
            refine Mt.backE (fun _ h => by first | exact h | exact hpPop h (by simp only; omega) | exact hpPop (hpPop h (by simp only; omega)) (by simp only; omega)) ?_
            refine Mt.eff1 (i := 7) (by decide +kernel) (by exact rfl) ?_
            apply Wl.callQ
            exact rfl
            (repeat (first | exact Evs.nil | apply Evs.cons rfl))
            (intro wq hq; refine (refReduce a2 m wq ha2 hm hm0).mono ?_; rintro e wr ⟨rfl, hr⟩; exact ⟨rfl, hq.keep hr⟩)
            apply Wl.nil
            refine Mt.backE (fun _ h => by first | exact h | exact hpPop h (by simp only; omega) | exact hpPop (hpPop h (by simp only; omega)) (by simp only; omega)) ?_
            refine Mt.eff1 (i := 10) (by decide +kernel) (by exact rfl) ?_
            apply Wl.storeW
            exact rfl
            exact rfl
            (repeat (first | apply HSet.here | apply HSet.there))
            exact rfl
            (first | exact cellsN_len _ _ _ | exact rfl)
            apply Wl.nil
            refine Mt.backE (fun _ h => by first | exact h | exact hpPop h (by simp only; omega) | exact hpPop (hpPop h (by simp only; omega)) (by simp only; omega)) ?_
            refine Mt.eff1 (i := 11) (by decide +kernel) (by exact rfl) ?_
            apply Wl.storeW
            exact rfl
            exact rfl
            (repeat (first | apply HSet.here | apply HSet.there))
            exact rfl
            (first | exact cellsN_len _ _ _ | exact rfl)
            apply Wl.nil
            refine Mt.backE (fun _ h => by first | exact h | exact hpPop h (by simp only; omega) | exact hpPop (hpPop h (by simp only; omega)) (by simp only; omega)) ?_
            refine Mt.toGt (by decide +kernel) ?_
            apply Gt.meet (_, _)
            rotate_left
            · (repeat (first | exact Sub.nil | apply Sub.cons rfl))
            · first | exact fun _ h => h | exact fun _ h => hpSwap h
            · exact ⟨by assumption, by assumption⟩
        · apply Wl.allocN
          exact rfl
          (first | exact z8 | exact z16 | exact z17 | exact z33 | exact z10)
          intro c hc ho
          apply Wl.nil
          refine Mt.backE (fun _ h => by first | exact h | exact hpPop h (by simp only; omega) | exact hpPop (hpPop h (by simp only; omega)) (by simp only; omega)) ?_
          refine Mt.eff2 (i := 3) (j := 8) (by decide +kernel) (by exact rfl) (by exact rfl) ?_ ?_
          · apply Wl.callQ
            exact rfl
            (repeat (first | exact Evs.nil | apply Evs.cons rfl))
            (intro wq hq; refine (refReduce a m wq ha hm hm0).mono ?_; rintro e wr ⟨rfl, hr⟩; exact ⟨rfl, hq.keep hr⟩)
            apply Wl.nil
            refine Mt.backE (fun _ h => by first | exact h | exact hpPop h (by simp only; omega) | exact hpPop (hpPop h (by simp only; omega)) (by simp only; omega)) ?_
            refine Mt.eff2 (i := 5) (j := 8) (by decide +kernel) (by exact rfl) (by exact rfl) ?_ ?_
            · apply Wl.callQ
              exact rfl
              (repeat (first | exact Evs.nil | apply Evs.cons rfl))
              (intro wq hq; refine (refOf _ wq).mono ?_; rintro e wr ⟨rfl, hr⟩; exact ⟨rfl, hq.keep hr⟩)
              apply Wl.nil
              refine Mt.backE (fun _ h => by first | exact h | exact hpPop h (by simp only; omega) | exact hpPop (hpPop h (by simp only; omega)) (by simp only; omega)) ?_
              refine Mt.eff2 (i := 7) (j := 8) (by decide +kernel) (by exact rfl) (by exact rfl) ?_ ?_
              · apply Wl.callQ
                exact rfl
                (repeat (first | exact Evs.nil | apply Evs.cons rfl))
                (intro wq hq; refine (refReduce a2 m wq ha2 hm hm0).mono ?_; rintro e wr ⟨rfl, hr⟩; exact ⟨rfl, hq.keep hr⟩)
                apply Wl.nil
                refine Mt.backE (fun _ h => by first | exact h | exact hpPop h (by simp only; omega) | exact hpPop (hpPop h (by simp only; omega)) (by simp only; omega)) ?_
                refine Mt.eff1 (i := 8) (by decide +kernel) (by exact rfl) ?_
                apply Wl.allocN
                exact rfl
                (first | exact z8 | exact z16 | exact z17 | exact z33 | exact z10)
                intro c hc ho
                apply Wl.nil
                refine Mt.backE (fun _ h => by first | exact h | exact hpPop h (by simp only; omega) | exact hpPop (hpPop h (by simp only; omega)) (by simp only; omega)) ?_
                refine Mt.eff1 (i := 10) (by decide +kernel) (by exact rfl) ?_
                apply Wl.storeW
                exact rfl
                exact rfl
                (repeat (first | apply HSet.here | apply HSet.there))
                exact rfl
                (first | exact cellsN_len _ _ _ | exact rfl)
                apply Wl.nil
                refine Mt.backE (fun _ h => by first | exact h | exact hpPop h (by simp only; omega) | exact hpPop (hpPop h (by simp only; omega)) (by simp only; omega)) ?_
                refine Mt.eff1 (i := 11) (by decide +kernel) (by exact rfl) ?_
                apply Wl.storeW
                exact rfl
                exact rfl
                (repeat (first | apply HSet.here | apply HSet.there))
                exact rfl
                (first | exact cellsN_len _ _ _ | exact rfl)
                apply Wl.nil
                refine Mt.backE (fun _ h => by first | exact h | exact hpPop h (by simp only; omega) | exact hpPop (hpPop h (by simp only; omega)) (by simp only; omega)) ?_
                refine Mt.toGt (by decide +kernel) ?_
                apply Gt.meet (_, _)
                rotate_left
                · (repeat (first | exact Sub.nil | apply Sub.cons rfl))
                · first | exact fun _ h => h | exact fun _ h => hpSwap h
                · exact ⟨by assumption, by assumption⟩
              · apply Wl.allocN
                exact rfl
                (first | exact z8 | exact z16 | exact z17 | exact z33 | exact z10)
                intro c hc ho
                apply Wl.nil
                refine Mt.backE (fun _ h => by first | exact h | exact hpPop h (by simp only; omega) | exact hpPop (hpPop h (by simp only; omega)) (by simp only; omega)) ?_
                refine Mt.eff1 (i := 7) (by decide +kernel) (by exact rfl) ?_
                apply Wl.callQ
                exact rfl
                (repeat (first | exact Evs.nil | apply Evs.cons rfl))
                (intro wq hq; refine (refReduce a2 m wq ha2 hm hm0).mono ?_; rintro e wr ⟨rfl, hr⟩; exact ⟨rfl, hq.keep hr⟩)
                apply Wl.nil
                refine Mt.backE (fun _ h => by first | exact h | exact hpPop h (by simp only; omega) | exact hpPop (hpPop h (by simp only; omega)) (by simp only; omega)) ?_
                refine Mt.eff1 (i := 10) (by decide +kernel) (by exact rfl) ?_
                apply Wl.storeW
                exact rfl
                exact rfl
                (repeat (first | apply HSet.here | apply HSet.there))
                exact rfl
                (first | exact cellsN_len _ _ _ | exact rfl)
                apply Wl.nil
                refine Mt.backE (fun _ h => by first | exact h | exact hpPop h (by simp only; omega) | exact hpPop (hpPop h (by simp only; omega)) (by simp only; omega)) ?_
                refine Mt.eff1 (i := 11) (by decide +kernel) (by exact rfl) ?_
                apply Wl.storeW
                exact rfl
                exact rfl
                (repeat (first | apply HSet.here | apply HSet.there))
                exact rfl
                (first | exact cellsN_len _ _ _ | exact rfl)
                apply Wl.nil
                refine Mt.backE (fun _ h => by first | exact h | exact hpPop h (by simp only; omega) | exact hpPop (hpPop h (by simp only; omega)) (by simp only; omega)) ?_
                refine Mt.toGt (by decide +kernel) ?_
                apply Gt.meet (_, _)
                rotate_left
                · (repeat (first | exact Sub.nil | apply Sub.cons rfl))
                · first | exact fun _ h => h | exact fun _ h => hpSwap h
                · exact ⟨by assumption, by assumption⟩
            · apply Wl.allocN
              exact rfl
              (first | exact z8 | exact z16 | exact z17 | exact z33 | exact z10)
              intro c hc ho
              apply Wl.nil
              refine Mt.backE (fun _ h => by first | exact h | exact hpPop h (by simp only; omega) | exact hpPop (hpPop h (by simp only; omega)) (by simp only; omega)) ?_
              refine Mt.eff1 (i := 5) (by decide +kernel) (by exact rfl) ?_
              apply Wl.callQ
              exact rfl
              (repeat (first | exact Evs.nil | apply Evs.cons rfl))
              (intro wq hq; refine (refOf _ wq).mono ?_; rintro e wr ⟨rfl, hr⟩; exact ⟨rfl, hq.keep hr⟩)
              apply Wl.nil
              refine Mt.backE (fun _ h => by first | exact h | exact hpPop h (by simp only; omega) | exact hpPop (hpPop h (by simp only; omega)) (by simp only; omega)) ?_
              refine Mt.eff1 (i := 7) (by decide +kernel) (by exact rfl) ?_
              apply Wl.callQ
              exact rfl
              (repeat (first | exact Evs.nil | apply Evs.cons rfl))
              (intro wq hq; refine (refReduce a2 m wq ha2 hm hm0).mono ?_; rintro e wr ⟨rfl, hr⟩; exact ⟨rfl, hq.keep hr⟩)
              apply Wl.nil
              refine Mt.backE (fun _ h => by first | exact h | exact hpPop h (by simp only; omega) | exact hpPop (hpPop h (by simp only; omega)) (by simp only; omega)) ?_
              refine Mt.eff1 (i := 10) (by decide +kernel) (by exact rfl) ?_
              apply Wl.storeW
              exact rfl
              exact rfl
              (repeat (first | apply HSet.here | apply HSet.there))
              exact rfl
              (first | exact cellsN_len _ _ _ | exact rfl)
              apply Wl.nil
              refine Mt.backE (fun _ h => by first | exact h | exact hpPop h (by simp only; omega) | exact hpPop (hpPop h (by simp only; omega)) (by simp only; omega)) ?_
              refine Mt.eff1 (i := 11) (by decide +kernel) (by exact rfl) ?_
              apply Wl.storeW
              exact rfl
              exact rfl
              (repeat (first | apply HSet.here | apply HSet.there))
              exact rfl
              (first | exact cellsN_len _ _ _ | exact rfl)
              apply Wl.nil
              refine Mt.backE (fun _ h => by first | exact h | exact hpPop h (by simp only; omega) | exact hpPop (hpPop h (by simp only; omega)) (by simp only; omega)) ?_
              refine Mt.toGt (by decide +kernel) ?_
              apply Gt.meet (_, _)
              rotate_left
              · (repeat (first | exact Sub.nil | apply Sub.cons rfl))
              · first | exact fun _ h => h | exact fun _ h => hpSwap h
              · exact ⟨by assumption, by assumption⟩
          · apply Wl.allocN
            exact rfl
            (first | exact z8 | exact z16 | exact z17 | exact z33 | exact z10)
            intro c hc ho
            apply Wl.nil
            refine Mt.backE (fun _ h => by first | exact h | exact hpPop h (by simp only; omega) | exact hpPop (hpPop h (by simp only; omega)) (by simp only; omega)) ?_
            refine Mt.eff1 (i := 3) (by decide +kernel) (by exact rfl) ?_
            apply Wl.callQ
            exact rfl
            (repeat (first | exact Evs.nil | apply Evs.cons rfl))
            (intro wq hq; refine (refReduce a m wq ha hm hm0).mono ?_; rintro e wr ⟨rfl, hr⟩; exact ⟨rfl, hq.keep hr⟩)
            apply Wl.nil
            refine Mt.backE (fun _ h => by first | exact h | exact hpPop h (by simp only; omega) | exact hpPop (hpPop h (by simp only; omega)) (by simp only; omega)) ?_
            refine Mt.eff1 (i := 5) (by decide +kernel) (by exact rfl) ?_
            apply Wl.callQ
            exact rfl
            (repeat (first | exact Evs.nil | apply Evs.cons rfl))
            (intro wq hq; refine (refOf _ wq).mono ?_; rintro e wr ⟨rfl, hr⟩; exact ⟨rfl, hq.keep hr⟩)
            apply Wl.nil
            refine Mt.backE (fun _ h => by first | exact h | exact hpPop h (by simp only; omega) | exact hpPop (hpPop h (by simp only; omega)) (by simp only; omega)) ?_
            refine Mt.eff1 (i := 7) (by decide +kernel) (by exact rfl) ?_
            apply Wl.callQ
            exact rfl
            (repeat (first | exact Evs.nil | apply Evs.cons rfl))
            (intro wq hq; refine (refReduce a2 m wq ha2 hm hm0).mono ?_; rintro e wr ⟨rfl, hr⟩; exact ⟨rfl, hq.keep hr⟩)
            apply Wl.nil
            refine Mt.backE (fun _ h => by first | exact h | exact hpPop h (by simp only; omega) | exact hpPop (hpPop h (by simp only; omega)) (by simp only; omega)) ?_
            refine Mt.eff1 (i := 10) (by decide +kernel) (by exact rfl) ?_
            apply Wl.storeW
            exact rfl
            exact rfl
            (repeat (first | apply HSet.here | apply HSet.there))
            exact rfl
            (first | exact cellsN_len _ _ _ | exact rfl)
            apply Wl.nil
            refine Mt.backE (fun _ h => by first | exact h | exact hpPop h (by simp only; omega) | exact hpPop (hpPop h (by simp only; omega)) (by simp only; omega)) ?_
            refine Mt.eff1 (i := 11) (by decide +kernel) (by exact rfl) ?_
            apply Wl.storeW
            exact rfl
            exact rfl
            (repeat (first | apply HSet.here | apply HSet.there))
            exact rfl
            (first | exact cellsN_len _ _ _ | exact rfl)
            apply Wl.nil
            refine Mt.backE (fun _ h => by first | exact h | exact hpPop h (by simp only; omega) | exact hpPop (hpPop h (by simp only; omega)) (by simp only; omega)) ?_
            refine Mt.toGt (by decide +kernel) ?_
            apply Gt.meet (_, _)
            rotate_left
            · (repeat (first | exact Sub.nil | apply Sub.cons rfl))
            · first | exact fun _ h => h | exact fun _ h => hpSwap h
            · exact ⟨by assumption, by assumption⟩
      · apply Wl.allocN
        exact rfl
        (first | exact z8 | exact z16 | exact z17 | exact z33 | exact z10)
        intro c hc ho
        apply Wl.nil
        refine Mt.backE (fun _ h => by first | exact h | exact hpPop h (by simp only; omega) | exact hpPop (hpPop h (by simp only; omega)) (by simp only; omega)) ?_
        refine Mt.eff2 (i := 1) (j := 9) (by decide +kernel) (by exact rfl) (by exact rfl) ?_ ?_
        · apply Wl.callQ
          exact rfl
          (repeat (first | exact Evs.nil | apply Evs.cons rfl))
          (intro wq hq; refine (refOf _ wq).mono ?_; rintro e wr ⟨rfl, hr⟩; exact ⟨rfl, hq.keep hr⟩)
          apply Wl.nil
          refine Mt.backE (fun _ h => by first | exact h | exact hpPop h (by simp only; omega) | exact hpPop (hpPop h (by simp only; omega)) (by simp only; omega)) ?_
          refine Mt.eff2 (i := 3) (j := 9) (by decide +kernel) (by exact rfl) (by exact rfl) ?_ ?_
          · apply Wl.callQ
            exact rfl
            (repeat (first | exact Evs.nil | apply Evs.cons rfl))
            (intro wq hq; refine (refReduce a m wq ha hm hm0).mono ?_; rintro e wr ⟨rfl, hr⟩; exact ⟨rfl, hq.keep hr⟩)
            apply Wl.nil
            refine Mt.backE (fun _ h => by first | exact h | exact hpPop h (by simp only; omega) | exact hpPop (hpPop h (by simp only; omega)) (by simp only; omega)) ?_
            refine Mt.eff2 (i := 5) (j := 9) (by decide +kernel) (by exact rfl) (by exact rfl) ?_ ?_
            · apply Wl.callQ
              exact rfl
              (repeat (first | exact Evs.nil | apply Evs.cons rfl))
              (intro wq hq; refine (refOf _ wq).mono ?_; rintro e wr ⟨rfl, hr⟩; exact ⟨rfl, hq.keep hr⟩)
              apply Wl.nil
              refine Mt.backE (fun _ h => by first | exact h | exact hpPop h (by simp only; omega) | exact hpPop (hpPop h (by simp only; omega)) (by simp only; omega)) ?_
              refine Mt.eff2 (i := 7) (j := 9) (by decide +kernel) (by exact rfl) (by exact rfl) ?_ ?_
              · apply Wl.callQ
                exact rfl
                (repeat (first | exact Evs.nil | apply Evs.cons rfl))
                (intro wq hq; refine (refReduce a2 m wq ha2 hm hm0).mono ?_; rintro e wr ⟨rfl, hr⟩; exact ⟨rfl, hq.keep hr⟩)
                apply Wl.nil
                refine Mt.backE (fun _ h => by first | exact h | exact hpPop h (by simp only; omega) | exact hpPop (hpPop h (by simp only; omega)) (by simp only; omega)) ?_
                refine Mt.eff1 (i := 9) (by decide +kernel) (by exact rfl) ?_
                apply Wl.allocN
                exact rfl
                (first | exact z8 | exact z16 | exact z17 | exact z33 | exact z10)
                intro c hc ho
                apply Wl.nil
                refine Mt.backE (fun _ h => by first | exact h | exact hpPop h (by simp only; omega) | exact hpPop (hpPop h (by simp only; omega)) (by simp only; omega)) ?_
                refine Mt.eff1 (i := 10) (by decide +kernel) (by exact rfl) ?_
                apply Wl.storeW
                exact rfl
                exact rfl
                (repeat (first | apply HSet.here | apply HSet.there))
                exact rfl
                (first | exact cellsN_len _ _ _ | exact rfl)
                apply Wl.nil
                refine Mt.backE (fun _ h => by first | exact h | exact hpPop h (by simp only; omega) | exact hpPop (hpPop h (by simp only; omega)) (by simp only; omega)) ?_
                refine Mt.eff1 (i := 11) (by decide +kernel) (by exact rfl) ?_
                apply Wl.storeW
                exact rfl
                exact rfl
                (repeat (first | apply HSet.here | apply HSet.there))
                exact rfl
                (first | exact cellsN_len _ _ _ | exact rfl)
                apply Wl.nil
                refine Mt.backE (fun _ h => by first | exact h | exact hpPop h (by simp only; omega) | exact hpPop (hpPop h (by simp only; omega)) (by simp only; omega)) ?_
                refine Mt.toGt (by decide +kernel) ?_
                apply Gt.meet (_, _)
                rotate_left
                · (repeat (first | exact Sub.nil | apply Sub.cons rfl))
                · first | exact fun _ h => h | exact fun _ h => hpSwap h
                · exact ⟨by assumption, by assumption⟩
              · apply Wl.allocN
                exact rfl
                (first | exact z8 | exact z16 | exact z17 | exact z33 | exact z10)
                intro c hc ho
                apply Wl.nil
                refine Mt.backE (fun _ h => by first | exact h | exact hpPop h (by simp only; omega) | exact hpPop (hpPop h (by simp only; omega)) (by simp only; omega)) ?_
                refine Mt.eff1 (i := 7) (by decide +kernel) (by exact rfl) ?_
                apply Wl.callQ
                exact rfl
                (repeat (first | exact Evs.nil | apply Evs.cons rfl))
                (intro wq hq; refine (refReduce a2 m wq ha2 hm hm0).mono ?_; rintro e wr ⟨rfl, hr⟩; exact ⟨rfl, hq.keep hr⟩)
                apply Wl.nil
                refine Mt.backE (fun _ h => by first | exact h | exact hpPop h (by simp only; omega) | exact hpPop (hpPop h (by simp only; omega)) (by simp only; omega)) ?_
                refine Mt.eff1 (i := 10) (by decide +kernel) (by exact rfl) ?_
                apply Wl.storeW
                exact rfl
                exact rfl
                (repeat (first | apply HSet.here | apply HSet.there))
                exact rfl
                (first | exact cellsN_len _ _ _ | exact rfl)
                apply Wl.nil
                refine Mt.backE (fun _ h => by first | exact h | exact hpPop h (by simp only; omega) | exact hpPop (hpPop h (by simp only; omega)) (by simp only; omega)) ?_
                refine Mt.eff1 (i := 11) (by decide +kernel) (by exact rfl) ?_
                apply Wl.storeW
                exact rfl
                exact rfl
                (repeat (first | apply HSet.here | apply HSet.there))
                exact rfl
                (first | exact cellsN_len _ _ _ | exact rfl)
                apply Wl.nil
                refine Mt.backE (fun _ h => by first | exact h | exact hpPop h (by simp only; omega) | exact hpPop (hpPop h (by simp only; omega)) (by simp only; omega)) ?_
                refine Mt.toGt (by decide +kernel) ?_
                apply Gt.meet (_, _)
                rotate_left
                · (repeat (first | exact Sub.nil | apply Sub.cons rfl))
                · first | exact fun _ h => h | exact fun _ h => hpSwap h
                · exact ⟨by assumption, by assumption⟩
            · apply Wl.allocN
              exact rfl
              (first | exact z8 | exact z16 | exact z17 | exact z33 | exact z10)
              intro c hc ho
              apply Wl.nil
              refine Mt.backE (fun _ h => by first | exact h | exact hpPop h (by simp only; omega) | exact hpPop (hpPop h (by simp only; omega)) (by simp only; omega)) ?_
              refine Mt.eff1 (i := 5) (by decide +kernel) (by exact rfl) ?_
              apply Wl.callQ
              exact rfl
              (repeat (first | exact Evs.nil | apply Evs.cons rfl))
              (intro wq hq; refine (refOf _ wq).mono ?_; rintro e wr ⟨rfl, hr⟩; exact ⟨rfl, hq.keep hr⟩)
              apply Wl.nil
              refine Mt.backE (fun _ h => by first | exact h | exact hpPop h (by simp only; omega) | exact hpPop (hpPop h (by simp only; omega)) (by simp only; omega)) ?_
              refine Mt.eff1 (i := 7) (by decide +kernel) (by exact rfl) ?_
              apply Wl.callQ
              exact rfl
              (repeat (first | exact Evs.nil | apply Evs.cons rfl))
              (intro wq hq; refine (refReduce a2 m wq ha2 hm hm0).mono ?_; rintro e wr ⟨rfl, hr⟩; exact ⟨rfl, hq.keep hr⟩)
              apply Wl.nil
              refine Mt.backE (fun _ h => by first | exact h | exact hpPop h (by simp only; omega) | exact hpPop (hpPop h (by simp only; omega)) (by simp only; omega)) ?_
              refine Mt.eff1 (i := 10) (by decide +kernel) (by exact rfl) ?_
              apply Wl.storeW
              exact rfl
              exact rfl
              (repeat (first | apply HSet.here | apply HSet.there))
              exact rfl
              (first | exact cellsN_len _ _ _ | exact rfl)
              apply Wl.nil
              refine Mt.backE (fun _ h => by first | exact h | exact hpPop h (by simp only; omega) | exact hpPop (hpPop h (by simp only; omega)) (by simp only; omega)) ?_
              refine Mt.eff1 (i := 11) (by decide +kernel) (by exact rfl) ?_
              apply Wl.storeW
              exact rfl
              exact rfl
              (repeat (first | apply HSet.here | apply HSet.there))
              exact rfl
              (first | exact cellsN_len _ _ _ | exact rfl)
              apply Wl.nil
              refine Mt.backE (fun _ h => by first | exact h | exact hpPop h (by simp only; omega) | exact hpPop (hpPop h (by simp only; omega)) (by simp only; omega)) ?_
              refine Mt.toGt (by decide +kernel) ?_
              apply Gt.meet (_, _)
              rotate_left
              · (repeat (first | exact Sub.nil | apply Sub.cons rfl))
              · first | exact fun _ h => h | exact fun _ h => hpSwap h
              · exact ⟨by assumption, by assumption⟩
          · apply Wl.allocN
            exact rfl
            (first | exact z8 | exact z16 | exact z17 | exact z33 | exact z10)
            intro c hc ho
            apply Wl.nil
            refine Mt.backE (fun _ h => by first | exact h | exact hpPop h (by simp only; omega) | exact hpPop (hpPop h (by simp only; omega)) (by simp only; omega)) ?_
            refine Mt.eff1 (i := 3) (by decide +kernel) (by exact rfl) ?_
            apply Wl.callQ
            exact rfl
            (repeat (first | exact Evs.nil | apply Evs.cons rfl))
            (intro wq hq; refine (refReduce a m wq ha hm hm0).mono ?_; rintro e wr ⟨rfl, hr⟩; exact ⟨rfl, hq.keep hr⟩)
            apply Wl.nil
            refine Mt.backE (fun _ h => by first | exact h | exact hpPop h (by simp only; omega) | exact hpPop (hpPop h (by simp only; omega)) (by simp only; omega)) ?_
            refine Mt.eff1 (i := 5) (by decide +kernel) (by exact rfl) ?_
            apply Wl.callQ
            exact rfl
            (repeat (first | exact Evs.nil | apply Evs.cons rfl))
            (intro wq hq; refine (refOf _ wq).mono ?_; rintro e wr ⟨rfl, hr⟩; exact ⟨rfl, hq.keep hr⟩)
            apply Wl.nil
            refine Mt.backE (fun _ h => by first | exact h | exact hpPop h (by simp only; omega) | exact hpPop (hpPop h (by simp only; omega)) (by simp only; omega)) ?_
            refine Mt.eff1 (i := 7) (by decide +kernel) (by exact rfl) ?_
            apply Wl.callQ
            exact rfl
            (repeat (first | exact Evs.nil | apply Evs.cons rfl))
            (intro wq hq; refine (refReduce a2 m wq ha2 hm hm0).mono ?_; rintro e wr ⟨rfl, hr⟩; exact ⟨rfl, hq.keep hr⟩)
            apply Wl.nil
            refine Mt.backE (fun _ h => by first | exact h | exact hpPop h (by simp only; omega) | exact hpPop (hpPop h (by simp only; omega)) (by simp only; omega)) ?_
            refine Mt.eff1 (i := 10) (by decide +kernel) (by exact rfl) ?_
            apply Wl.storeW
            exact rfl
            exact rfl
            (repeat (first | apply HSet.here | apply HSet.there))
            exact rfl
            (first | exact cellsN_len _ _ _ | exact rfl)
            apply Wl.nil
            refine Mt.backE (fun _ h => by first | exact h | exact hpPop h (by simp only; omega) | exact hpPop (hpPop h (by simp only; omega)) (by simp only; omega)) ?_
            refine Mt.eff1 (i := 11) (by decide +kernel) (by exact rfl) ?_
            apply Wl.storeW
            exact rfl
            exact rfl
            (repeat (first | apply HSet.here | apply HSet.there))
            exact rfl
            (first | exact cellsN_len _ _ _ | exact rfl)
            apply Wl.nil
            refine Mt.backE (fun _ h => by first | exact h | exact hpPop h (by simp only; omega) | exact hpPop (hpPop h (by simp only; omega)) (by simp only; omega)) ?_
            refine Mt.toGt (by decide +kernel) ?_
            apply Gt.meet (_, _)
            rotate_left
            · (repeat (first | exact Sub.nil | apply Sub.cons rfl))
            · first | exact fun _ h => h | exact fun _ h => hpSwap h
            · exact ⟨by assumption, by assumption⟩
        · apply Wl.allocN
          exact rfl
          (first | exact z8 | exact z16 | exact z17 | exact z33 | exact z10)
          intro c hc ho
          apply Wl.nil
          refine Mt.backE (fun _ h => by first | exact h | exact hpPop h (by simp only; omega) | exact hpPop (hpPop h (by simp only; omega)) (by simp only; omega)) ?_
          refine Mt.eff1 (i := 1) (by decide +kernel) (by exact rfl) ?_
          apply Wl.callQ
          exact rfl
          (repeat (first | exact Evs.nil | apply Evs.cons rfl))
          (intro wq hq; refine (refOf _ wq).mono ?_; rintro e wr ⟨rfl, hr⟩; exact ⟨rfl, hq.keep hr⟩)
          apply Wl.nil
          refine Mt.backE (fun _ h => by first | exact h | exact hpPop h (by simp only; omega) | exact hpPop (hpPop h (by simp only; omega)) (by simp only; omega)) ?_
          refine Mt.eff1 (i := 3) (by decide +kernel) (by exact rfl) ?_
          apply Wl.callQ
          exact rfl
          (repeat (first | exact Evs.nil | apply Evs.cons rfl))
          (intro wq hq; refine (refReduce a m wq ha hm hm0).mono ?_; rintro e wr ⟨rfl, hr⟩; exact ⟨rfl, hq.keep hr⟩)
          apply Wl.nil
          refine Mt.backE (fun _ h => by first | exact h | exact hpPop h (by simp only; omega) | exact hpPop (hpPop h (by simp only; omega)) (by simp only; omega)) ?_
          refine Mt.eff1 (i := 5) (by decide +kernel) (by exact rfl) ?_
          apply Wl.callQ
          exact rfl
          (repeat (first | exact Evs.nil | apply Evs.cons rfl))
          (intro wq hq; refine (refOf _ wq).mono ?_; rintro e wr ⟨rfl, hr⟩; exact ⟨rfl, hq.keep hr⟩)
          apply Wl.nil
          refine Mt.backE (fun _ h => by first | exact h | exact hpPop h (by simp only; omega) | exact hpPop (hpPop h (by simp only; omega)) (by simp only; omega)) ?_
          refine Mt.eff1 (i := 7) (by decide +kernel) (by exact rfl) ?_
          apply Wl.callQ
          exact rfl
          (repeat (first | exact Evs.nil | apply Evs.cons rfl))
          (intro wq hq; refine (refReduce a2 m wq ha2 hm hm0).mono ?_; rintro e wr ⟨rfl, hr⟩; exact ⟨rfl, hq.keep hr⟩)
          apply Wl.nil
          refine Mt.backE (fun _ h => by first | exact h | exact hpPop h (by simp only; omega) | exact hpPop (hpPop h (by simp only; omega)) (by simp only; omega)) ?_
          refine Mt.eff1 (i := 10) (by decide +kernel) (by exact rfl) ?_
          apply Wl.storeW
          exact rfl
          exact rfl
          (repeat (first | apply HSet.here | apply HSet.there))
          exact rfl
          (first | exact cellsN_len _ _ _ | exact rfl)
          apply Wl.nil
          refine Mt.backE (fun _ h => by first | exact h | exact hpPop h (by simp only; omega) | exact hpPop (hpPop h (by simp only; omega)) (by simp only; omega)) ?_
          refine Mt.eff1 (i := 11) (by decide +kernel) (by exact rfl) ?_
          apply Wl.storeW
          exact rfl
          exact rfl
          (repeat (first | apply HSet.here | apply HSet.there))
          exact rfl
          (first | exact cellsN_len _ _ _ | exact rfl)
          apply Wl.nil
          refine Mt.backE (fun _ h => by first | exact h | exact hpPop h (by simp only; omega) | exact hpPop (hpPop h (by simp only; omega)) (by simp only; omega)) ?_
          refine Mt.toGt (by decide +kernel) ?_
          apply Gt.meet (_, _)
          rotate_left
          · (repeat (first | exact Sub.nil | apply Sub.cons rfl))
          · first | exact fun _ h => h | exact fun _ h => hpSwap h
          · exact ⟨by assumption, by assumption⟩
      · apply Wl.allocN
        exact rfl
        (first | exact z8 | exact z16 | exact z17 | exact z33 | exact z10)
        intro c hc ho
        apply Wl.nil
        refine Mt.backE (fun _ h => by first | exact h | exact hpPop h (by simp only; omega) | exact hpPop (hpPop h (by simp only; omega)) (by simp only; omega)) ?_
        refine Mt.eff2 (i := 1) (j := 8) (by decide +kernel) (by exact rfl) (by exact rfl) ?_ ?_
        · apply Wl.callQ
          exact rfl
          (repeat (first | exact Evs.nil | apply Evs.cons rfl))
          (intro wq hq; refine (refOf _ wq).mono ?_; rintro e wr ⟨rfl, hr⟩; exact ⟨rfl, hq.keep hr⟩)
          apply Wl.nil
          refine Mt.backE (fun _ h => by first | exact h | exact hpPop h (by simp only; omega) | exact hpPop (hpPop h (by simp only; omega)) (by simp only; omega)) ?_
          refine Mt.eff2 (i := 3) (j := 8) (by decide +kernel) (by exact rfl) (by exact rfl) ?_ ?_
          · apply Wl.callQ
            exact rfl
            (repeat (first | exact Evs.nil | apply Evs.cons rfl))
            (intro wq hq; refine (refReduce a m wq ha hm hm0).mono ?_; rintro e wr ⟨rfl, hr⟩; exact ⟨rfl, hq.keep hr⟩)
            apply Wl.nil
            refine Mt.backE (fun _ h => by first | exact h | exact hpPop h (by simp only; omega) | exact hpPop (hpPop h (by simp only; omega)) (by simp only; omega)) ?_
            refine Mt.eff2 (i := 5) (j := 8) (by decide +kernel) (by exact rfl) (by exact rfl) ?_ ?_
            · apply Wl.callQ
              exact rfl
              (repeat (first | exact Evs.nil | apply Evs.cons rfl))
              (intro wq hq; refine (refOf _ wq).mono ?_; rintro e wr ⟨rfl, hr⟩; exact ⟨rfl, hq.keep hr⟩)
              apply Wl.nil
              refine Mt.backE (fun _ h => by first | exact h | exact hpPop h (by simp only; omega) | exact hpPop (hpPop h (by simp only; omega)) (by simp only; omega)) ?_
              refine Mt.eff2 (i := 7) (j := 8) (by decide +kernel) (by exact rfl) (by exact rfl) ?_ ?_
              · apply Wl.callQ
                exact rfl
                (repeat (first | exact Evs.nil | apply Evs.cons rfl))
                (intro wq hq; refine (refReduce a2 m wq ha2 hm hm0).mono ?_; rintro e wr ⟨rfl, hr⟩; exact ⟨rfl, hq.keep hr⟩)
                apply Wl.nil
                refine Mt.backE (fun _ h => by first | exact h | exact hpPop h (by simp only; omega) | exact hpPop (hpPop h (by simp only; omega)) (by simp only; omega)) ?_
                refine Mt.eff1 (i := 8) (by decide +kernel) (by exact rfl) ?_
                apply Wl.allocN
                exact rfl
                (first | exact z8 | exact z16 | exact z17 | exact z33 | exact z10)
                intro c hc ho
                apply Wl.nil
                refine Mt.backE (fun _ h => by first | exact h | exact hpPop h (by simp only; omega) | exact hpPop (hpPop h (by simp only; omega)) (by simp only; omega)) ?_
                refine Mt.eff1 (i := 10) (by decide +kernel) (by exact rfl) ?_
                apply Wl.storeW
                exact rfl
                exact rfl
                (repeat (first | apply HSet.here | apply HSet.there))
                exact rfl
                (first | exact cellsN_len _ _ _ | exact rfl)
                apply Wl.nil
                refine Mt.backE (fun _ h => by first | exact h | exact hpPop h (by simp only; omega) | exact hpPop (hpPop h (by simp only; omega)) (by simp only; omega)) ?_
                refine Mt.eff1 (i := 11) (by decide +kernel) (by exact rfl) ?_
                apply Wl.storeW
                exact rfl
                exact rfl
                (repeat (first | apply HSet.here | apply HSet.there))
                exact rfl
                (first | exact cellsN_len _ _ _ | exact rfl)
                apply Wl.nil
                refine Mt.backE (fun _ h => by first | exact h | exact hpPop h (by simp only; omega) | exact hpPop (hpPop h (by simp only; omega)) (by simp only; omega)) ?_
                refine Mt.toGt (by decide +kernel) ?_
                apply Gt.meet (_, _)
                rotate_left
                · (repeat (first | exact Sub.nil | apply Sub.cons rfl))
                · first | exact fun _ h => h | exact fun _ h => hpSwap h
                · exact ⟨by assumption, by assumption⟩
              · apply Wl.allocN
                exact rfl
                (first | exact z8 | exact z16 | exact z17 | exact z33 | exact z10)
                intro c hc ho
                apply Wl.nil
                refine Mt.backE (fun _ h => by first | exact h | exact hpPop h (by simp only; omega) | exact hpPop (hpPop h (by simp only; omega)) (by simp only; omega)) ?_
                refine Mt.eff1 (i := 7) (by decide +kernel) (by exact rfl) ?_
                apply Wl.callQ
                exact rfl
                (repeat (first | exact Evs.nil | apply Evs.cons rfl))
                (intro wq hq; refine (refReduce a2 m wq ha2 hm hm0).mono ?_; rintro e wr ⟨rfl, hr⟩; exact ⟨rfl, hq.keep hr⟩)
                apply Wl.nil
                refine Mt.backE (fun _ h => by first | exact h | exact hpPop h (by simp only; omega) | exact hpPop (hpPop h (by simp only; omega)) (by simp only; omega)) ?_
                refine Mt.eff1 (i := 10) (by decide +kernel) (by exact rfl) ?_
                apply Wl.storeW
                exact rfl
                exact rfl
                (repeat (first | apply HSet.here | apply HSet.there))
                exact rfl
                (first | exact cellsN_len _ _ _ | exact rfl)
                apply Wl.nil
                refine Mt.backE (fun _ h => by first | exact h | exact hpPop h (by simp only; omega) | exact hpPop (hpPop h (by simp only; omega)) (by simp only; omega)) ?_
                refine Mt.eff1 (i := 11) (by decide +kernel) (by exact rfl) ?_
                apply Wl.storeW
                exact rfl
                exact rfl
                (repeat (first | apply HSet.here | apply HSet.there))
                exact rfl
                (first | exact cellsN_len _ _ _ | exact rfl)
                apply Wl.nil
                refine Mt.backE (fun _ h => by first | exact h | exact hpPop h (by simp only; omega) | exact hpPop (hpPop h (by simp only; omega)) (by simp only; omega)) ?_
                refine Mt.toGt (by decide +kernel) ?_
                apply Gt.meet (_, _)
                rotate_left
                · (repeat (first | exact Sub.nil | apply Sub.cons rfl))
                · first | exact fun _ h => h | exact fun _ h => hpSwap h
                · exact ⟨by assumption, by assumption⟩
            · apply Wl.allocN
              exact rfl
              (first | exact z8 | exact z16 | exact z17 | exact z33 | exact z10)
              intro c hc ho
              apply Wl.nil
              refine Mt.backE (fun _ h => by first | exact h | exact hpPop h (by simp only; omega) | exact hpPop (hpPop h (by simp only; omega)) (by simp only; omega)) ?_
              refine Mt.eff1 (i := 5) (by decide +kernel) (by exact rfl) ?_
              apply Wl.callQ
              exact rfl
              (repeat (first | exact Evs.nil | apply Evs.cons rfl))
              (intro wq hq; refine (refOf _ wq).mono ?_; rintro e wr ⟨rfl, hr⟩; exact ⟨rfl, hq.keep hr⟩)
              apply Wl.nil
              refine Mt.backE (fun _ h => by first | exact h | exact hpPop h (by simp only; omega) | exact hpPop (hpPop h (by simp only; omega)) (by simp only; omega)) ?_
              refine Mt.eff1 (i := 7) (by decide +kernel) (by exact rfl) ?_
              apply Wl.callQ
              exact rfl
              (repeat (first | exact Evs.nil | apply Evs.cons rfl))
              (intro wq hq; refine (refReduce a2 m wq ha2 hm hm0).mono ?_; rintro e wr ⟨rfl, hr⟩; exact ⟨rfl, hq.keep hr⟩)
              apply Wl.nil
              refine Mt.backE (fun _ h => by first | exact h | exact hpPop h (by simp only; omega) | exact hpPop (hpPop h (by simp only; omega)) (by simp only; omega)) ?_
              refine Mt.eff1 (i := 10) (by decide +kernel) (by exact rfl) ?_
              apply Wl.storeW
              exact rfl
              exact rfl
              (repeat (first | apply HSet.here | apply HSet.there))
              exact rfl
              (first | exact cellsN_len _ _ _ | exact rfl)
              apply Wl.nil
              refine Mt.backE (fun _ h => by first | exact h | exact hpPop h (by simp only; omega) | exact hpPop (hpPop h (by simp only; omega)) (by simp only; omega)) ?_
              refine Mt.eff1 (i := 11) (by decide +kernel) (by exact rfl) ?_
              apply Wl.storeW
              exact rfl
              exact rfl
              (repeat (first | apply HSet.here | apply HSet.there))
              exact rfl
              (first | exact cellsN_len _ _ _ | exact rfl)
              apply Wl.nil
              refine Mt.backE (fun _ h => by first | exact h | exact hpPop h (by simp only; omega) | exact hpPop (hpPop h (by simp only; omega)) (by simp only; omega)) ?_
              refine Mt.toGt (by decide +kernel) ?_
              apply Gt.meet (_, _)
              rotate_left
              · (repeat (first | exact Sub.nil | apply Sub.cons rfl))
              · first | exact fun _ h => h | exact fun _ h => hpSwap h
              · exact ⟨by assumption, by assumption⟩
          · apply Wl.allocN
            exact rfl
            (first | exact z8 | exact z16 | exact z17 | exact z33 | exact z10)
            intro c hc ho
            apply Wl.nil
            refine Mt.backE (fun _ h => by first | exact h | exact hpPop h (by simp only; omega) | exact hpPop (hpPop h (by simp only; omega)) (by simp only; omega)) ?_
            refine Mt.eff1 (i := 3) (by decide +kernel) (by exact rfl) ?_
            apply Wl.callQ
            exact rfl
            (repeat (first | exact Evs.nil | apply Evs.cons rfl))
            (intro wq hq; refine (refReduce a m wq ha hm hm0).mono ?_; rintro e wr ⟨rfl, hr⟩; exact ⟨rfl, hq.keep hr⟩)
            apply Wl.nil
            refine Mt.backE (fun _ h => by first | exact h | exact hpPop h (by simp only; omega) | exact hpPop (hpPop h (by simp only; omega)) (by simp only; omega)) ?_
            refine Mt.eff1 (i := 5) (by decide +kernel) (by exact rfl) ?_
            apply Wl.callQ
            exact rfl
            (repeat (first | exact Evs.nil | apply Evs.cons rfl))
            (intro wq hq; refine (refOf _ wq).mono ?_; rintro e wr ⟨rfl, hr⟩; exact ⟨rfl, hq.keep hr⟩)
            apply Wl.nil
            refine Mt.backE (fun _ h => by first | exact h | exact hpPop h (by simp only; omega) | exact hpPop (hpPop h (by simp only; omega)) (by simp only; omega)) ?_
            refine Mt.eff1 (i := 7) (by decide +kernel) (by exact rfl) ?_
            apply Wl.callQ
            exact rfl
            (repeat (first | exact Evs.nil | apply Evs.cons rfl))
            (intro wq hq; refine (refReduce a2 m wq ha2 hm hm0).mono ?_; rintro e wr ⟨rfl, hr⟩; exact ⟨rfl, hq.keep hr⟩)
            apply Wl.nil
            refine Mt.backE (fun _ h => by first | exact h | exact hpPop h (by simp only; omega) | exact hpPop (hpPop h (by simp only; omega)) (by simp only; omega)) ?_
            refine Mt.eff1 (i := 10) (by decide +kernel) (by exact rfl) ?_
            apply Wl.storeW
            exact rfl
            exact rfl
            (repeat (first | apply HSet.here | apply HSet.there))
            exact rfl
            (first | exact cellsN_len _ _ _ | exact rfl)
            apply Wl.nil
            refine Mt.backE (fun _ h => by first | exact h | exact hpPop h (by simp only; omega) | exact hpPop (hpPop h (by simp only; omega)) (by simp only; omega)) ?_
            refine Mt.eff1 (i := 11) (by decide +kernel) (by exact rfl) ?_
            apply Wl.storeW
            exact rfl
            exact rfl
            (repeat (first | apply HSet.here | apply HSet.there))
            exact rfl
            (first | exact cellsN_len _ _ _ | exact rfl)
            apply Wl.nil
            refine Mt.backE (fun _ h => by first | exact h | exact hpPop h (by simp only; omega) | exact hpPop (hpPop h (by simp only; omega)) (by simp only; omega)) ?_
            refine Mt.toGt (by decide +kernel) ?_
            apply Gt.meet (_, _)
            rotate_left
            · (repeat (first | exact Sub.nil | apply Sub.cons rfl))
            · first | exact fun _ h => h | exact fun _ h => hpSwap h
            · exact ⟨by assumption, by assumption⟩
        · apply Wl.allocN
          exact rfl
          (first | exact z8 | exact z16 | exact z17 | exact z33 | exact z10)
          intro c hc ho
          apply Wl.nil
          refine Mt.backE (fun _ h => by first | exact h | exact hpPop h (by simp only; omega) | exact hpPop (hpPop h (by simp only; omega)) (by simp only; omega)) ?_
          refine Mt.eff1 (i := 1) (by decide +kernel) (by exact rfl) ?_
          apply Wl.callQ
          exact rfl
          (repeat (first | exact Evs.nil | apply Evs.cons rfl))
          (intro wq hq; refine (refOf _ wq).mono ?_; rintro e wr ⟨rfl, hr⟩; exact ⟨rfl, hq.keep hr⟩)
          apply Wl.nil
          refine Mt.backE (fun _ h => by first | exact h | exact hpPop h (by simp only; omega) | exact hpPop (hpPop h (by simp only; omega)) (by simp only; omega)) ?_
          refine Mt.eff1 (i := 3) (by decide +kernel) (by exact rfl) ?_
          apply Wl.callQ
          exact rfl
          (repeat (first | exact Evs.nil | apply Evs.cons rfl))
          (intro wq hq; refine (refReduce a m wq ha hm hm0).mono ?_; rintro e wr ⟨rfl, hr⟩; exact ⟨rfl, hq.keep hr⟩)
          apply Wl.nil
          refine Mt.backE (fun _ h => by first | exact h | exact hpPop h (by simp only; omega) | exact hpPop (hpPop h (by simp only; omega)) (by simp only; omega)) ?_
          refine Mt.eff1 (i := 5) (by decide +kernel) (by exact rfl) ?_
          apply Wl.callQ
          exact rfl
          (repeat (first | exact Evs.nil | apply Evs.cons rfl))
          (intro wq hq; refine (refOf _ wq).mono ?_; rintro e wr ⟨rfl, hr⟩; exact ⟨rfl, hq.keep hr⟩)
          apply Wl.nil
          refine Mt.backE (fun _ h => by first | exact h | exact hpPop h (by simp only; omega) | exact hpPop (hpPop h (by simp only; omega)) (by simp only; omega)) ?_
          refine Mt.eff1 (i := 7) (by decide +kernel) (by exact rfl) ?_
          apply Wl.callQ
          exact rfl
          (repeat (first | exact Evs.nil | apply Evs.cons rfl))
          (intro wq hq; refine (refReduce a2 m wq ha2 hm hm0).mono ?_; rintro e wr ⟨rfl, hr⟩; exact ⟨rfl, hq.keep hr⟩)
          apply Wl.nil
          refine Mt.backE (fun _ h => by first | exact h | exact hpPop h (by simp only; omega) | exact hpPop (hpPop h (by simp only; omega)) (by simp only; omega)) ?_
          refine Mt.eff1 (i := 10) (by decide +kernel) (by exact rfl) ?_
          apply Wl.storeW
          exact rfl
          exact rfl
          (repeat (first | apply HSet.here | apply HSet.there))
          exact rfl
          (first | exact cellsN_len _ _ _ | exact rfl)
          apply Wl.nil
          refine Mt.backE (fun _ h => by first | exact h | exact hpPop h (by simp only; omega) | exact hpPop (hpPop h (by simp only; omega)) (by simp only; omega)) ?_
          refine Mt.eff1 (i := 11) (by decide +kernel) (by exact rfl) ?_
          apply Wl.storeW
          exact rfl
          exact rfl
          (repeat (first | apply HSet.here | apply HSet.there))
          exact rfl
          (first | exact cellsN_len _ _ _ | exact rfl)
          apply Wl.nil
          refine Mt.backE (fun _ h => by first | exact h | exact hpPop h (by simp only; omega) | exact hpPop (hpPop h (by simp only; omega)) (by simp only; omega)) ?_
          refine Mt.toGt (by decide +kernel) ?_
          apply Gt.meet (_, _)
          rotate_left
          · (repeat (first | exact Sub.nil | apply Sub.cons rfl))
          · first | exact fun _ h => h | exact fun _ h => hpSwap h
          · exact ⟨by assumption, by assumption⟩
    rintro ⟨c10, c11⟩ ⟨h10, h11⟩
    simp only at h10 h11 ⊢
    repeat' (first | (apply Wl.splitP; exact rfl; exact rfl; all_goals (intros; try (exfalso; omega))) | (apply Wl.splitB; exact rfl; exact rfl; all_goals intros) | (apply St.condP; exact rfl; all_goals (intros; try (exfalso; omega))) | (apply St.condB; exact rfl; all_goals intros))
    refine St.cut (σ := Nat × Nat) (fun τ => wr.heap.size ≤ τ.1 ∧ wr.heap.size ≤ τ.2)
      (fun τ => [(3, mp c3), (4, mp c4), (5, mp c5), (6, .bool false), (7, mp b), (9, mp c9), (10, mp c10), (11, mp c11), (12, mp τ.1), (13, mp τ.2)])
      (fun τ => Hp wr [⟨τ.2, cellsN .u32 8 (dg W32 (a2 % m)), 23⟩, ⟨τ.1, cellsN .u32 8 (dg W32 (a % m)), 23⟩, ⟨c11, cellsN .u64 16 (dg D16 (a2 % m)), 32⟩, ⟨c10, cellsN .u64 16 (dg D16 (a % m)), 32⟩, ⟨c9, cellsN .u64 16 (dg D16 (m)), 32⟩, ⟨c5, cellsN .u32 8 (dg W32 (a2)), 24⟩, ⟨c4, cellsN .u32 8 (dg W32 (a)), 24⟩, ⟨c3, cellsN .u32 8 (dg W32 (m)), 24⟩]) ?_ ?_
    · refine St.tree (Hp wr [_, _, _, _, _, _]) mixed (fun _ h => ⟨Hp.drew h, Hp.drew h⟩) ?_
      refine Mt.pure 0 (by decide +kernel) (by exact rfl) (by exact rfl) (by decide +kernel) (by decide +kernel) ?_
      repeat' (first | (apply Wl.loadW; exact rfl; exact rfl; (repeat (first | exact List.Mem.head _ | apply List.Mem.tail)); exact rfl) | (apply Wl.nilM) | (apply Wl.splitP; exact rfl; exact rfl; all_goals (intros; try (exfalso; omega))) | (apply Wl.splitB; exact rfl; exact rfl; all_goals intros) | (apply St.condP; exact rfl; all_goals (intros; try (exfalso; omega))) | (apply St.condB; exact rfl; all_goals intros))
      apply Mt.back
      refine Mt.pure 2 (by decide +kernel) (by exact rfl) (by exact rfl) (by decide +kernel) (by decide +kernel) ?_
      repeat' (first | (apply Wl.loadW; exact rfl; exact rfl; (repeat (first | exact List.Mem.head _ | apply List.Mem.tail)); exact rfl) | (apply Wl.nilM) | (apply Wl.splitP; exact rfl; exact rfl; all_goals (intros; try (exfalso; omega))) | (apply Wl.splitB; exact rfl; exact rfl; all_goals intros) | (apply St.condP; exact rfl; all_goals (intros; try (exfalso; omega))) | (apply St.condB; exact rfl; all_goals intros))
      apply Mt.back
      refine Mt.eff3 (i := 1) (j := 4) (k := 5) (by decide +kernel) (by exact rfl) (by exact rfl) (by exact rfl) ?_ ?_ ?_
      · apply Wl.callQ
        exact rfl
        (repeat (first | exact Evs.nil | apply Evs.cons rfl))
        (intro wq hq; refine (refWords _ wq).mono ?_; rintro e wr ⟨rfl, hr⟩; exact ⟨rfl, hq.keep hr⟩)
        apply Wl.nil
        refine Mt.backE (fun _ h => by first | exact h | exact hpPop h (by simp only; omega) | exact hpPop (hpPop h (by simp only; omega)) (by simp only; omega)) ?_
        refine Mt.eff3 (i := 3) (j := 4) (k := 5) (by decide +kernel) (by exact rfl) (by exact rfl) (by exact rfl) ?_ ?_ ?_
        · apply Wl.callQ
          exact rfl
          (repeat (first | exact Evs.nil | apply Evs.cons rfl))
          (intro wq hq; refine (refWords _ wq).mono ?_; rintro e wr ⟨rfl, hr⟩; exact ⟨rfl, hq.keep hr⟩)
          apply Wl.nil
          refine Mt.backE (fun _ h => by first | exact h | exact hpPop h (by simp only; omega) | exact hpPop (hpPop h (by simp only; omega)) (by simp only; omega)) ?_
          refine Mt.eff2 (i := 4) (j := 5) (by decide +kernel) (by exact rfl) (by exact rfl) ?_ ?_
          · apply Wl.allocN
            exact rfl
            (first | exact z8 | exact z16 | exact z17 | exact z33 | exact z10)
            intro c hc ho
            apply Wl.nil
            refine Mt.backE (fun _ h => by first | exact h | exact hpPop h (by simp only; omega) | exact hpPop (hpPop h (by simp only; omega)) (by simp only; omega)) ?_
            refine Mt.eff1 (i := 5) (by decide +kernel) (by exact rfl) ?_
            apply Wl.allocN
            exact rfl
            (first | exact z8 | exact z16 | exact z17 | exact z33 | exact z10)
            intro c hc ho
            apply Wl.nil
            refine Mt.backE (fun _ h => by first | exact h | exact hpPop h (by simp only; omega) | exact hpPop (hpPop h (by simp only; omega)) (by simp only; omega)) ?_
            refine Mt.eff1 (i := 6) (by decide +kernel) (by exact rfl) ?_
            apply Wl.storeW
            exact rfl
            exact rfl
            (repeat (first | apply HSet.here | apply HSet.there))
            exact rfl
            (first | exact cellsN_len _ _ _ | exact rfl)
            apply Wl.nil
            refine Mt.backE (fun _ h => by first | exact h | exact hpPop h (by simp only; omega) | exact hpPop (hpPop h (by simp only; omega)) (by simp only; omega)) ?_
            refine Mt.eff1 (i := 7) (by decide +kernel) (by exact rfl) ?_
            apply Wl.storeW
            exact rfl
            exact rfl
            (repeat (first | apply HSet.here | apply HSet.there))
            exact rfl
            (first | exact cellsN_len _ _ _ | exact rfl)
            apply Wl.nil
            refine Mt.backE (fun _ h => by first | exact h | exact hpPop h (by simp only; omega) | exact hpPop (hpPop h (by simp only; omega)) (by simp only; omega)) ?_
            refine Mt.toGt (by decide +kernel) ?_
            apply Gt.meet (_, _)
            rotate_left
            · (repeat (first | exact Sub.nil | apply Sub.cons rfl))
            · first | exact fun _ h => h | exact fun _ h => hpSwap h
            · exact ⟨by assumption, by assumption⟩
          · apply Wl.allocN
            exact rfl
            (first | exact z8 | exact z16 | exact z17 | exact z33 | exact z10)
            intro c hc ho
            apply Wl.nil
            refine Mt.backE (fun _ h => by first | exact h | exact hpPop h (by simp only; omega) | exact hpPop (hpPop h (by simp only; omega)) (by simp only; omega)) ?_
            refine Mt.eff1 (i := 4) (by decide +kernel) (by exact rfl) ?_
            apply Wl.allocN
            exact rfl
            (first | exact z8 | exact z16 | exact z17 | exact z33 | exact z10)
            intro c hc ho
            apply Wl.nil
            refine Mt.backE (fun _ h => by first | exact h | exact hpPop h (by simp only; omega) | exact hpPop (hpPop h (by simp only; omega)) (by simp only; omega)) ?_
            refine Mt.eff1 (i := 6) (by decide +kernel) (by exact rfl) ?_
            apply Wl.storeW
            exact rfl
            exact rfl
            (repeat (first | apply HSet.here | apply HSet.there))
            exact rfl
            (first | exact cellsN_len _ _ _ | exact rfl)
            apply Wl.nil
            refine Mt.backE (fun _ h => by first | exact h | exact hpPop h (by simp only; omega) | exact hpPop (hpPop h (by simp only; omega)) (by simp only; omega)) ?_
            refine Mt.eff1 (i := 7) (by decide +kernel) (by exact rfl) ?_
            apply Wl.storeW
            exact rfl
            exact rfl
            (repeat (first | apply HSet.here | apply HSet.there))
            exact rfl
            (first | exact cellsN_len _ _ _ | exact rfl)
            apply Wl.nil
            refine Mt.backE (fun _ h => by first | exact h | exact hpPop h (by simp only; omega) | exact hpPop (hpPop h (by simp only; omega)) (by simp only; omega)) ?_
            refine Mt.toGt (by decide +kernel) ?_
            apply Gt.meet (_, _)
            rotate_left
            · (repeat (first | exact Sub.nil | apply Sub.cons rfl))
            · first | exact fun _ h => h | exact fun _ h => hpSwap h
            · exact ⟨by assumption, by assumption⟩
        · apply Wl.allocN
          exact rfl
          (first | exact z8 | exact z16 | exact z17 | exact z33 | exact z10)
          intro c hc ho
          apply Wl.nil
          refine Mt.backE (fun _ h => by first | exact h | exact hpPop h (by simp only; omega) | exact hpPop (hpPop h (by simp only; omega)) (by simp only; omega)) ?_
          refine Mt.eff2 (i := 3) (j := 5) (by decide +kernel) (by exact rfl) (by exact rfl) ?_ ?_
          · apply Wl.callQ
            exact rfl
            (repeat (first | exact Evs.nil | apply Evs.cons rfl))
            (intro wq hq; refine (refWords _ wq).mono ?_; rintro e wr ⟨rfl, hr⟩; exact ⟨rfl, hq.keep hr⟩)
            apply Wl.nil
            refine Mt.backE (fun _ h => by first | exact h | exact hpPop h (by simp only; omega) | exact hpPop (hpPop h (by simp only; omega)) (by simp only; omega)) ?_
            refine Mt.eff1 (i := 5) (by decide +kernel) (by exact rfl) ?_
            apply Wl.allocN
            exact rfl
            (first | exact z8 | exact z16 | exact z17 | exact z33 | exact z10)
            intro c hc ho
            apply Wl.nil
            refine Mt.backE (fun _ h => by first | exact h | exact hpPop h (by simp only; omega) | exact hpPop (hpPop h (by simp only; omega)) (by simp only; omega)) ?_
            refine Mt.eff1 (i := 6) (by decide +kernel) (by exact rfl) ?_
            apply Wl.storeW
            exact rfl
            exact rfl
            (repeat (first | apply HSet.here | apply HSet.there))
            exact rfl
            (first | exact cellsN_len _ _ _ | exact rfl)
            apply Wl.nil
            refine Mt.backE (fun _ h => by first | exact h | exact hpPop h (by simp only; omega) | exact hpPop (hpPop h (by simp only; omega)) (by simp only; omega)) ?_
            refine Mt.eff1 (i := 7) (by decide +kernel) (by exact rfl) ?_
            apply Wl.storeW
            exact rfl
            exact rfl
            (repeat (first | apply HSet.here | apply HSet.there))
            exact rfl
            (first | exact cellsN_len _ _ _ | exact rfl)
            apply Wl.nil
            refine Mt.backE (fun _ h => by first | exact h | exact hpPop h (by simp only; omega) | exact hpPop (hpPop h (by simp only; omega)) (by simp only; omega)) ?_
            refine Mt.toGt (by decide +kernel) ?_
            apply Gt.meet (_, _)
            rotate_left
            · (repeat (first | exact Sub.nil | apply Sub.cons rfl))
            · first | exact fun _ h => h | exact fun _ h => hpSwap h
            · exact ⟨by assumption, by assumption⟩
          · apply Wl.allocN
            exact rfl
            (first | exact z8 | exact z16 | exact z17 | exact z33 | exact z10)
            intro c hc ho
            apply Wl.nil
            refine Mt.backE (fun _ h => by first | exact h | exact hpPop h (by simp only; omega) | exact hpPop (hpPop h (by simp only; omega)) (by simp only; omega)) ?_
            refine Mt.eff1 (i := 3) (by decide +kernel) (by exact rfl) ?_
            apply Wl.callQ
            exact rfl
            (repeat (first | exact Evs.nil | apply Evs.cons rfl))
            (intro wq hq; refine (refWords _ wq).mono ?_; rintro e wr ⟨rfl, hr⟩; exact ⟨rfl, hq.keep hr⟩)
            apply Wl.nil
            refine Mt.backE (fun _ h => by first | exact h | exact hpPop h (by simp only; omega) | exact hpPop (hpPop h (by simp only; omega)) (by simp only; omega)) ?_
            refine Mt.eff1 (i := 6) (by decide +kernel) (by exact rfl) ?_
            apply Wl.storeW
            exact rfl
            exact rfl
            (repeat (first | apply HSet.here | apply HSet.there))
            exact rfl
            (first | exact cellsN_len _ _ _ | exact rfl)
            apply Wl.nil
            refine Mt.backE (fun _ h => by first | exact h | exact hpPop h (by simp only; omega) | exact hpPop (hpPop h (by simp only; omega)) (by simp only; omega)) ?_
            refine Mt.eff1 (i := 7) (by decide +kernel) (by exact rfl) ?_
            apply Wl.storeW
            exact rfl
            exact rfl
            (repeat (first | apply HSet.here | apply HSet.there))
            exact rfl
            (first | exact cellsN_len _ _ _ | exact rfl)
            apply Wl.nil
            refine Mt.backE (fun _ h => by first | exact h | exact hpPop h (by simp only; omega) | exact hpPop (hpPop h (by simp only; omega)) (by simp only; omega)) ?_
            refine Mt.toGt (by decide +kernel) ?_
            apply Gt.meet (_, _)
            rotate_left
            · (repeat (first | exact Sub.nil | apply Sub.cons rfl))
            · first | exact fun _ h => h | exact fun _ h => hpSwap h
            · exact ⟨by assumption, by assumption⟩
        · apply Wl.allocN
          exact rfl
          (first | exact z8 | exact z16 | exact z17 | exact z33 | exact z10)
          intro c hc ho
          apply Wl.nil
          refine Mt.backE (fun _ h => by first | exact h | exact hpPop h (by simp only; omega) | exact hpPop (hpPop h (by simp only; omega)) (by simp only; omega)) ?_
          refine Mt.eff2 (i := 3) (j := 4) (by decide +kernel) (by exact rfl) (by exact rfl) ?_ ?_
          · apply Wl.callQ
            exact rfl
            (repeat (first | exact Evs.nil | apply Evs.cons rfl))
            (intro wq hq; refine (refWords _ wq).mono ?_; rintro e wr ⟨rfl, hr⟩; exact ⟨rfl, hq.keep hr⟩)
            apply Wl.nil
            refine Mt.backE (fun _ h => by first | exact h | exact hpPop h (by simp only; omega) | exact hpPop (hpPop h (by simp only; omega)) (by simp only; omega)) ?_
            refine Mt.eff1 (i := 4) (by decide +kernel) (by exact rfl) ?_
            apply Wl.allocN
            exact rfl
            (first | exact z8 | exact z16 | exact z17 | exact z33 | exact z10)
            intro c hc ho
            apply Wl.nil
            refine Mt.backE (fun _ h => by first | exact h | exact hpPop h (by simp only; omega) | exact hpPop (hpPop h (by simp only; omega)) (by simp only; omega)) ?_
            refine Mt.eff1 (i := 6) (by decide +kernel) (by exact rfl) ?_
            apply Wl.storeW
            exact rfl
            exact rfl
            (repeat (first | apply HSet.here | apply HSet.there))
            exact rfl
            (first | exact cellsN_len _ _ _ | exact rfl)
            apply Wl.nil
            refine Mt.backE (fun _ h => by first | exact h | exact hpPop h (by simp only; omega) | exact hpPop (hpPop h (by simp only; omega)) (by simp only; omega)) ?_
            refine Mt.eff1 (i := 7) (by decide +kernel) (by exact rfl) ?_
            apply Wl.storeW
            exact rfl
            exact rfl
            (repeat (first | apply HSet.here | apply HSet.there))
            exact rfl
            (first | exact cellsN_len _ _ _ | exact rfl)
            apply Wl.nil
            refine Mt.backE (fun _ h => by first | exact h | exact hpPop h (by simp only; omega) | exact hpPop (hpPop h (by simp only; omega)) (by simp only; omega)) ?_
            refine Mt.toGt (by decide +kernel) ?_
            apply Gt.meet (_, _)
            rotate_left
            · (repeat (first | exact Sub.nil | apply Sub.cons rfl))
            · first | exact fun _ h => h | exact fun _ h => hpSwap h
            · exact ⟨by assumption, by assumption⟩
          · apply Wl.allocN
            exact rfl
            (first | exact z8 | exact z16 | exact z17 | exact z33 | exact z10)
            intro c hc ho
            apply Wl.nil
            refine Mt.backE (fun _ h => by first | exact h | exact hpPop h (by simp only; omega) | exact hpPop (hpPop h (by simp only; omega)) (by simp only; omega)) ?_
            refine Mt.eff1 (i := 3) (by decide +kernel) (by exact rfl) ?_
            apply Wl.callQ
            exact rfl
            (repeat (first | exact Evs.nil | apply Evs.cons rfl))
            (intro wq hq; refine (refWords _ wq).mono ?_; rintro e wr ⟨rfl, hr⟩; exact ⟨rfl, hq.keep hr⟩)
            apply Wl.nil
            refine Mt.backE (fun _ h => by first | exact h | exact hpPop h (by simp only; omega) | exact hpPop (hpPop h (by simp only; omega)) (by simp only; omega)) ?_
            refine Mt.eff1 (i := 6) (by decide +kernel) (by exact rfl) ?_
            apply Wl.storeW
            exact rfl
            exact rfl
            (repeat (first | apply HSet.here | apply HSet.there))
            exact rfl
            (first | exact cellsN_len _ _ _ | exact rfl)
            apply Wl.nil
            refine Mt.backE (fun _ h => by first | exact h | exact hpPop h (by simp only; omega) | exact hpPop (hpPop h (by simp only; omega)) (by simp only; omega)) ?_
            refine Mt.eff1 (i := 7) (by decide +kernel) (by exact rfl) ?_
            apply Wl.storeW
            exact rfl
            exact rfl
            (repeat (first | apply HSet.here | apply HSet.there))
            exact rfl
            (first | exact cellsN_len _ _ _ | exact rfl)
            apply Wl.nil
            refine Mt.backE (fun _ h => by first | exact h | exact hpPop h (by simp only; omega) | exact hpPop (hpPop h (by simp only; omega)) (by simp only; omega)) ?_
            refine Mt.toGt (by decide +kernel) ?_
            apply Gt.meet (_, _)
            rotate_left
            · (repeat (first | exact Sub.nil | apply Sub.cons rfl))
            · first | exact fun _ h => h | exact fun _ h => hpSwap h
            · exact ⟨by assumption, by assumption⟩
      · apply Wl.allocN
        exact rfl
        (first | exact z8 | exact z16 | exact z17 | exact z33 | exact z10)
        intro c hc ho
        apply Wl.nil
        refine Mt.backE (fun _ h => by first | exact h | exact hpPop h (by simp only; omega) | exact hpPop (hpPop h (by simp only; omega)) (by simp only; omega)) ?_
        refine Mt.eff2 (i := 1) (j := 5) (by decide +kernel) (by exact rfl) (by exact rfl) ?_ ?_
        · apply Wl.callQ
          exact rfl
          (repeat (first | exact Evs.nil | apply Evs.cons rfl))
          (intro wq hq; refine (refWords _ wq).mono ?_; rintro e wr ⟨rfl, hr⟩; exact ⟨rfl, hq.keep hr⟩)
          apply Wl.nil
          refine Mt.backE (fun _ h => by first | exact h | exact hpPop h (by simp only; omega) | exact hpPop (hpPop h (by simp only; omega)) (by simp only; omega)) ?_
          refine Mt.eff2 (i := 3) (j := 5) (by decide +kernel) (by exact rfl) (by exact rfl) ?_ ?_
          · apply Wl.callQ
            exact rfl
            (repeat (first | exact Evs.nil | apply Evs.cons rfl))
            (intro wq hq; refine (refWords _ wq).mono ?_; rintro e wr ⟨rfl, hr⟩; exact ⟨rfl, hq.keep hr⟩)
            apply Wl.nil
            refine Mt.backE (fun _ h => by first | exact h | exact hpPop h (by simp only; omega) | exact hpPop (hpPop h (by simp only; omega)) (by simp only; omega)) ?_
            refine Mt.eff1 (i := 5) (by decide +kernel) (by exact rfl) ?_
            apply Wl.allocN
            exact rfl
            (first | exact z8 | exact z16 | exact z17 | exact z33 | exact z10)
            intro c hc ho
            apply Wl.nil
            refine Mt.backE (fun _ h => by first | exact h | exact hpPop h (by simp only; omega) | exact hpPop (hpPop h (by simp only; omega)) (by simp only; omega)) ?_
            refine Mt.eff1 (i := 6) (by decide +kernel) (by exact rfl) ?_
            apply Wl.storeW
            exact rfl
            exact rfl
            (repeat (first | apply HSet.here | apply HSet.there))
            exact rfl
            (first | exact cellsN_len _ _ _ | exact rfl)
            apply Wl.nil
            refine Mt.backE (fun _ h => by first | exact h | exact hpPop h (by simp only; omega) | exact hpPop (hpPop h (by simp only; omega)) (by simp only; omega)) ?_
            refine Mt.eff1 (i := 7) (by decide +kernel) (by exact rfl) ?_
            apply Wl.storeW
            exact rfl
            exact rfl
            (repeat (first | apply HSet.here | apply HSet.there))
            exact rfl
            (first | exact cellsN_len _ _ _ | exact rfl)
            apply Wl.nil
            refine Mt.backE (fun _ h => by first | exact h | exact hpPop h (by simp only; omega) | exact hpPop (hpPop h (by simp only; omega)) (by simp only; omega)) ?_
            refine Mt.toGt (by decide +kernel) ?_
            apply Gt.meet (_, _)
            rotate_left
            · (repeat (first | exact Sub.nil | apply Sub.cons rfl))
            · first | exact fun _ h => h | exact fun _ h => hpSwap h
            · exact ⟨by assumption, by assumption⟩
          · apply Wl.allocN
            exact rfl
            (first | exact z8 | exact z16 | exact z17 | exact z33 | exact z10)
            intro c hc ho
            apply Wl.nil
            refine Mt.backE (fun _ h => by first | exact h | exact hpPop h (by simp only; omega) | exact hpPop (hpPop h (by simp only; omega)) (by simp only; omega)) ?_
            refine Mt.eff1 (i := 3) (by decide +kernel) (by exact rfl) ?_
            apply Wl.callQ
            exact rfl
            (repeat (first | exact Evs.nil | apply Evs.cons rfl))
            (intro wq hq; refine (refWords _ wq).mono ?_; rintro e wr ⟨rfl, hr⟩; exact ⟨rfl, hq.keep hr⟩)
            apply Wl.nil
            refine Mt.backE (fun _ h => by first | exact h | exact hpPop h (by simp only; omega) | exact hpPop (hpPop h (by simp only; omega)) (by simp only; omega)) ?_
            refine Mt.eff1 (i := 6) (by decide +kernel) (by exact rfl) ?_
            apply Wl.storeW
            exact rfl
            exact rfl
            (repeat (first | apply HSet.here | apply HSet.there))
            exact rfl
            (first | exact cellsN_len _ _ _ | exact rfl)
            apply Wl.nil
            refine Mt.backE (fun _ h => by first | exact h | exact hpPop h (by simp only; omega) | exact hpPop (hpPop h (by simp only; omega)) (by simp only; omega)) ?_
            refine Mt.eff1 (i := 7) (by decide +kernel) (by exact rfl) ?_
            apply Wl.storeW
            exact rfl
            exact rfl
            (repeat (first | apply HSet.here | apply HSet.there))
            exact rfl
            (first | exact cellsN_len _ _ _ | exact rfl)
            apply Wl.nil
            refine Mt.backE (fun _ h => by first | exact h | exact hpPop h (by simp only; omega) | exact hpPop (hpPop h (by simp only; omega)) (by simp only; omega)) ?_
            refine Mt.toGt (by decide +kernel) ?_
            apply Gt.meet (_, _)
            rotate_left
            · (repeat (first | exact Sub.nil | apply Sub.cons rfl))
            · first | exact fun _ h => h | exact fun _ h => hpSwap h
            · exact ⟨by assumption, by assumption⟩
        · apply Wl.allocN
          exact rfl
          (first | exact z8 | exact z16 | exact z17 | exact z33 | exact z10)
          intro c hc ho
          apply Wl.nil
          refine Mt.backE (fun _ h => by first | exact h | exact hpPop h (by simp only; omega) | exact hpPop (hpPop h (by simp only; omega)) (by simp only; omega)) ?_
          refine Mt.eff1 (i := 1) (by decide +kernel) (by exact rfl) ?_
          apply Wl.callQ
          exact rfl
          (repeat (first | exact Evs.nil | apply Evs.cons rfl))
          (intro wq hq; refine (refWords _ wq).mono ?_; rintro e wr ⟨rfl, hr⟩; exact ⟨rfl, hq.keep hr⟩)
          apply Wl.nil
          refine Mt.backE (fun _ h => by first | exact h | exact hpPop h (by simp only; omega) | exact hpPop (hpPop h (by simp only; omega)) (by simp only; omega)) ?_
          refine Mt.eff1 (i := 3) (by decide +kernel) (by exact rfl) ?_
          apply Wl.callQ
          exact rfl
          (repeat (first | exact Evs.nil | apply Evs.cons rfl))
          (intro wq hq; refine (refWords _ wq).mono ?_; rintro e wr ⟨rfl, hr⟩; exact ⟨rfl, hq.keep hr⟩)
          apply Wl.nil
          refine Mt.backE (fun _ h => by first | exact h | exact hpPop h (by simp only; omega) | exact hpPop (hpPop h (by simp only; omega)) (by simp only; omega)) ?_
          refine Mt.eff1 (i := 6) (by decide +kernel) (by exact rfl) ?_
          apply Wl.storeW
          exact rfl
          exact rfl
          (repeat (first | apply HSet.here | apply HSet.there))
          exact rfl
          (first | exact cellsN_len _ _ _ | exact rfl)
          apply Wl.nil
          refine Mt.backE (fun _ h => by first | exact h | exact hpPop h (by simp only; omega) | exact hpPop (hpPop h (by simp only; omega)) (by simp only; omega)) ?_
          refine Mt.eff1 (i := 7) (by decide +kernel) (by exact rfl) ?_
          apply Wl.storeW
          exact rfl
          exact rfl
          (repeat (first | apply HSet.here | apply HSet.there))
          exact rfl
          (first | exact cellsN_len _ _ _ | exact rfl)
          apply Wl.nil
          refine Mt.backE (fun _ h => by first | exact h | exact hpPop h (by simp only; omega) | exact hpPop (hpPop h (by simp only; omega)) (by simp only; omega)) ?_
          refine Mt.toGt (by decide +kernel) ?_
          apply Gt.meet (_, _)
          rotate_left
          · (repeat (first | exact Sub.nil | apply Sub.cons rfl))
          · first | exact fun _ h => h | exact fun _ h => hpSwap h
          · exact ⟨by assumption, by assumption⟩
      · apply Wl.allocN
        exact rfl
        (first | exact z8 | exact z16 | exact z17 | exact z33 | exact z10)
        intro c hc ho
        apply Wl.nil
        refine Mt.backE (fun _ h => by first | exact h | exact hpPop h (by simp only; omega) | exact hpPop (hpPop h (by simp only; omega)) (by simp only; omega)) ?_
        refine Mt.eff2 (i := 1) (j := 4) (by decide +kernel) (by exact rfl) (by exact rfl) ?_ ?_
        · apply Wl.callQ
          exact rfl
          (repeat (first | exact Evs.nil | apply Evs.cons rfl))
          (intro wq hq; refine (refWords _ wq).mono ?_; rintro e wr ⟨rfl, hr⟩; exact ⟨rfl, hq.keep hr⟩)
          apply Wl.nil
          refine Mt.backE (fun _ h => by first | exact h | exact hpPop h (by simp only; omega) | exact hpPop (hpPop h (by simp only; omega)) (by simp only; omega)) ?_
          refine Mt.eff2 (i := 3) (j := 4) (by decide +kernel) (by exact rfl) (by exact rfl) ?_ ?_
          · apply Wl.callQ
            exact rfl
            (repeat (first | exact Evs.nil | apply Evs.cons rfl))
            (intro wq hq; refine (refWords _ wq).mono ?_; rintro e wr ⟨rfl, hr⟩; exact ⟨rfl, hq.keep hr⟩)
            apply Wl.nil
            refine Mt.backE (fun _ h => by first | exact h | exact hpPop h (by simp only; omega) | exact hpPop (hpPop h (by simp only; omega)) (by simp only; omega)) ?_
            refine Mt.eff1 (i := 4) (by decide +kernel) (by exact rfl) ?_
            apply Wl.allocN
            exact rfl
            (first | exact z8 | exact z16 | exact z17 | exact z33 | exact z10)
            intro c hc ho
            apply Wl.nil
            refine Mt.backE (fun _ h => by first | exact h | exact hpPop h (by simp only; omega) | exact hpPop (hpPop h (by simp only; omega)) (by simp only; omega)) ?_
            refine Mt.eff1 (i := 6) (by decide +kernel) (by exact rfl) ?_
            apply Wl.storeW
            exact rfl
            exact rfl
            (repeat (first | apply HSet.here | apply HSet.there))
            exact rfl
            (first | exact cellsN_len _ _ _ | exact rfl)
            apply Wl.nil
            refine Mt.backE (fun _ h => by first | exact h | exact hpPop h (by simp only; omega) | exact hpPop (hpPop h (by simp only; omega)) (by simp only; omega)) ?_
            refine Mt.eff1 (i := 7) (by decide +kernel) (by exact rfl) ?_
            apply Wl.storeW
            exact rfl
            exact rfl
            (repeat (first | apply HSet.here | apply HSet.there))
            exact rfl
            (first | exact cellsN_len _ _ _ | exact rfl)
            apply Wl.nil
            refine Mt.backE (fun _ h => by first | exact h | exact hpPop h (by simp only; omega) | exact hpPop (hpPop h (by simp only; omega)) (by simp only; omega)) ?_
            refine Mt.toGt (by decide +kernel) ?_
            apply Gt.meet (_, _)
            rotate_left
            · (repeat (first | exact Sub.nil | apply Sub.cons rfl))
            · first | exact fun _ h => h | exact fun _ h => hpSwap h
            · exact ⟨by assumption, by assumption⟩
          · apply Wl.allocN
            exact rfl
            (first | exact z8 | exact z16 | exact z17 | exact z33 | exact z10)
            intro c hc ho
            apply Wl.nil
            refine Mt.backE (fun _ h => by first | exact h | exact hpPop h (by simp only; omega) | exact hpPop (hpPop h (by simp only; omega)) (by simp only; omega)) ?_
            refine Mt.eff1 (i := 3) (by decide +kernel) (by exact rfl) ?_
            apply Wl.callQ
            exact rfl
            (repeat (first | exact Evs.nil | apply Evs.cons rfl))
            (intro wq hq; refine (refWords _ wq).mono ?_; rintro e wr ⟨rfl, hr⟩; exact ⟨rfl, hq.keep hr⟩)
            apply Wl.nil
            refine Mt.backE (fun _ h => by first | exact h | exact hpPop h (by simp only; omega) | exact hpPop (hpPop h (by simp only; omega)) (by simp only; omega)) ?_
            refine Mt.eff1 (i := 6) (by decide +kernel) (by exact rfl) ?_
            apply Wl.storeW
            exact rfl
            exact rfl
            (repeat (first | apply HSet.here | apply HSet.there))
            exact rfl
            (first | exact cellsN_len _ _ _ | exact rfl)
            apply Wl.nil
            refine Mt.backE (fun _ h => by first | exact h | exact hpPop h (by simp only; omega) | exact hpPop (hpPop h (by simp only; omega)) (by simp only; omega)) ?_
            refine Mt.eff1 (i := 7) (by decide +kernel) (by exact rfl) ?_
            apply Wl.storeW
            exact rfl
            exact rfl
            (repeat (first | apply HSet.here | apply HSet.there))
            exact rfl
            (first | exact cellsN_len _ _ _ | exact rfl)
            apply Wl.nil
            refine Mt.backE (fun _ h => by first | exact h | exact hpPop h (by simp only; omega) | exact hpPop (hpPop h (by simp only; omega)) (by simp only; omega)) ?_
            refine Mt.toGt (by decide +kernel) ?_
            apply Gt.meet (_, _)
            rotate_left
            · (repeat (first | exact Sub.nil | apply Sub.cons rfl))
            · first | exact fun _ h => h | exact fun _ h => hpSwap h
            · exact ⟨by assumption, by assumption⟩
        · apply Wl.allocN
          exact rfl
          (first | exact z8 | exact z16 | exact z17 | exact z33 | exact z10)
          intro c hc ho
          apply Wl.nil
          refine Mt.backE (fun _ h => by first | exact h | exact hpPop h (by simp only; omega) | exact hpPop (hpPop h (by simp only; omega)) (by simp only; omega)) ?_
          refine Mt.eff1 (i := 1) (by decide +kernel) (by exact rfl) ?_
          apply Wl.callQ
          exact rfl
          (repeat (first | exact Evs.nil | apply Evs.cons rfl))
          (intro wq hq; refine (refWords _ wq).mono ?_; rintro e wr ⟨rfl, hr⟩; exact ⟨rfl, hq.keep hr⟩)
          apply Wl.nil
          refine Mt.backE (fun _ h => by first | exact h | exact hpPop h (by simp only; omega) | exact hpPop (hpPop h (by simp only; omega)) (by simp only; omega)) ?_
          refine Mt.eff1 (i := 3) (by decide +kernel) (by exact rfl) ?_
          apply Wl.callQ
          exact rfl
          (repeat (first | exact Evs.nil | apply Evs.cons rfl))
          (intro wq hq; refine (refWords _ wq).mono ?_; rintro e wr ⟨rfl, hr⟩; exact ⟨rfl, hq.keep hr⟩)
          apply Wl.nil
          refine Mt.backE (fun _ h => by first | exact h | exact hpPop h (by simp only; omega) | exact hpPop (hpPop h (by simp only; omega)) (by simp only; omega)) ?_
          refine Mt.eff1 (i := 6) (by decide +kernel) (by exact rfl) ?_
          apply Wl.storeW
          exact rfl
          exact rfl
          (repeat (first | apply HSet.here | apply HSet.there))
          exact rfl
          (first | exact cellsN_len _ _ _ | exact rfl)
          apply Wl.nil
          refine Mt.backE (fun _ h => by first | exact h | exact hpPop h (by simp only; omega) | exact hpPop (hpPop h (by simp only; omega)) (by simp only; omega)) ?_
          refine Mt.eff1 (i := 7) (by decide +kernel) (by exact rfl) ?_
          apply Wl.storeW
          exact rfl
          exact rfl
          (repeat (first | apply HSet.here | apply HSet.there))
          exact rfl
          (first | exact cellsN_len _ _ _ | exact rfl)
          apply Wl.nil
          refine Mt.backE (fun _ h => by first | exact h | exact hpPop h (by simp only; omega) | exact hpPop (hpPop h (by simp only; omega)) (by simp only; omega)) ?_
          refine Mt.toGt (by decide +kernel) ?_
          apply Gt.meet (_, _)
          rotate_left
          · (repeat (first | exact Sub.nil | apply Sub.cons rfl))
          · first | exact fun _ h => h | exact fun _ h => hpSwap h
          · exact ⟨by assumption, by assumption⟩
    rintro ⟨c12, c13⟩ ⟨h12, h13⟩
    simp only at h12 h13 ⊢
    repeat' (first | (apply Wl.loadW; exact rfl; exact rfl; (repeat (first | exact List.Mem.head _ | apply List.Mem.tail)); exact rfl) | (apply Wl.move; exact rfl; exact rfl) | (apply St.seq) | (apply St.draw; exact mixed; (kernel_rfl); exact (fun _ h => Hp.drew h)) | (apply Wl.splitP; exact rfl; exact rfl; all_goals (intros; try (exfalso; omega))) | (apply Wl.splitB; exact rfl; exact rfl; all_goals intros) | (apply St.condP; exact rfl; all_goals (intros; try (exfalso; omega))) | (apply St.condB; exact rfl; all_goals intros))
    apply Wl.callQQ
    exact rfl
    (repeat (first | exact Evs.nil | apply Evs.cons rfl))
    · intro wq hq
      refine (modReduce b m a wq (hV.hp hq (by apply Off.of; simp <;> omega)) ha).mono ?_
      rintro e wr ⟨rfl, hr⟩
      exact ⟨rfl, hq.keep hr⟩
    repeat' (first | (apply Wl.loadW; exact rfl; exact rfl; (repeat (first | exact List.Mem.head _ | apply List.Mem.tail)); exact rfl) | (apply Wl.splitP; exact rfl; exact rfl; all_goals (intros; try (exfalso; omega))) | (apply Wl.splitB; exact rfl; exact rfl; all_goals intros) | (apply St.condP; exact rfl; all_goals (intros; try (exfalso; omega))) | (apply St.condB; exact rfl; all_goals intros))
    apply Wl.callQQ
    exact rfl
    (repeat (first | exact Evs.nil | apply Evs.cons rfl))
    · intro wq hq
      refine (likeTrue (a := a % m) (b := a % m) rfl (hltW _) wq).mono ?_
      rintro e wr ⟨rfl, hr⟩
      exact ⟨rfl, hq.keep hr⟩
    repeat' (first | (apply Wl.loadW; exact rfl; exact rfl; (repeat (first | exact List.Mem.head _ | apply List.Mem.tail)); exact rfl) | (apply Wl.move; exact rfl; exact rfl) | (apply Wl.on; exact rfl; exact rfl; (first | with_reducible rfl | with_reducible assumption | decide)) | (apply Wl.splitP; exact rfl; exact rfl; all_goals (intros; try (exfalso; omega))) | (apply Wl.splitB; exact rfl; exact rfl; all_goals intros) | (apply St.condP; exact rfl; all_goals (intros; try (exfalso; omega))) | (apply St.condB; exact rfl; all_goals intros))
    apply Wl.callQQ
    exact rfl
    (repeat (first | exact Evs.nil | apply Evs.cons rfl))
    · intro wq hq
      refine (modAdd b m (a % m) (a2 % m) wq (hV.hp hq (by apply Off.of; simp <;> omega)).mod hm (hlt _) (hlt _)).mono ?_
      rintro e wr ⟨rfl, hr⟩
      exact ⟨rfl, hq.keep hr⟩
    repeat' (first | (apply Wl.loadW; exact rfl; exact rfl; (repeat (first | exact List.Mem.head _ | apply List.Mem.tail)); exact rfl) | (apply Wl.on; exact rfl; exact rfl; (first | with_reducible rfl | with_reducible assumption | decide)) | (apply Wl.splitP; exact rfl; exact rfl; all_goals (intros; try (exfalso; omega))) | (apply Wl.splitB; exact rfl; exact rfl; all_goals intros) | (apply St.condP; exact rfl; all_goals (intros; try (exfalso; omega))) | (apply St.condB; exact rfl; all_goals intros))
    apply Wl.callQQ
    exact rfl
    (repeat (first | exact Evs.nil | apply Evs.cons rfl))
    · intro wq hq
      refine (refAdd (a % m) (a2 % m) m wq hm (hlt _) (hlt _)).mono ?_
      rintro e wr ⟨rfl, hr⟩
      exact ⟨rfl, hq.keep hr⟩
    repeat' (first | (apply Wl.on; exact rfl; exact rfl; (first | with_reducible rfl | with_reducible assumption | decide)) | (apply Wl.splitP; exact rfl; exact rfl; all_goals (intros; try (exfalso; omega))) | (apply Wl.splitB; exact rfl; exact rfl; all_goals intros) | (apply St.condP; exact rfl; all_goals (intros; try (exfalso; omega))) | (apply St.condB; exact rfl; all_goals intros))
    apply Wl.callQQ
    exact rfl
    (repeat (first | exact Evs.nil | apply Evs.cons rfl))
    · intro wq hq
      refine (likeTrue (a := (a % m + a2 % m) % m) (b := (a % m + a2 % m) % m) rfl (hltW _) wq).mono ?_
      rintro e wr ⟨rfl, hr⟩
      exact ⟨rfl, hq.keep hr⟩
    repeat' (first | (apply Wl.loadW; exact rfl; exact rfl; (repeat (first | exact List.Mem.head _ | apply List.Mem.tail)); exact rfl) | (apply Wl.move; exact rfl; exact rfl) | (apply Wl.on; exact rfl; exact rfl; (first | with_reducible rfl | with_reducible assumption | decide)) | (apply Wl.pickT; exact rfl; exact rfl; (first | with_reducible rfl | with_reducible assumption | decide); exact rfl) | (apply Wl.splitP; exact rfl; exact rfl; all_goals (intros; try (exfalso; omega))) | (apply Wl.splitB; exact rfl; exact rfl; all_goals intros) | (apply St.condP; exact rfl; all_goals (intros; try (exfalso; omega))) | (apply St.condB; exact rfl; all_goals intros))
    apply Wl.callQQ
    exact rfl
    (repeat (first | exact Evs.nil | apply Evs.cons rfl))
    · intro wq hq
      refine (modSub b m (a % m) (a2 % m) wq (hV.hp hq (by apply Off.of; simp <;> omega)).mod hm (hlt _) (hlt _)).mono ?_
      rintro e wr ⟨rfl, hr⟩
      exact ⟨rfl, hq.keep hr⟩
    repeat' (first | (apply Wl.loadW; exact rfl; exact rfl; (repeat (first | exact List.Mem.head _ | apply List.Mem.tail)); exact rfl) | (apply Wl.on; exact rfl; exact rfl; (first | with_reducible rfl | with_reducible assumption | decide)) | (apply Wl.splitP; exact rfl; exact rfl; all_goals (intros; try (exfalso; omega))) | (apply Wl.splitB; exact rfl; exact rfl; all_goals intros) | (apply St.condP; exact rfl; all_goals (intros; try (exfalso; omega))) | (apply St.condB; exact rfl; all_goals intros))
    apply Wl.callQQ
    exact rfl
    (repeat (first | exact Evs.nil | apply Evs.cons rfl))
    · intro wq hq
      refine (refSub (a % m) (a2 % m) m wq hm (hlt _) (hlt _)).mono ?_
      rintro e wr ⟨rfl, hr⟩
      exact ⟨rfl, hq.keep hr⟩
    repeat' (first | (apply Wl.on; exact rfl; exact rfl; (first | with_reducible rfl | with_reducible assumption | decide)) | (apply Wl.splitP; exact rfl; exact rfl; all_goals (intros; try (exfalso; omega))) | (apply Wl.splitB; exact rfl; exact rfl; all_goals intros) | (apply St.condP; exact rfl; all_goals (intros; try (exfalso; omega))) | (apply St.condB; exact rfl; all_goals intros))
    apply Wl.callQQ
    exact rfl
    (repeat (first | exact Evs.nil | apply Evs.cons rfl))
    · intro wq hq
      refine (likeTrue (a := (a % m + m - a2 % m) % m) (b := (a % m + m - a2 % m) % m) rfl (hltW _) wq).mono ?_
      rintro e wr ⟨rfl, hr⟩
      exact ⟨rfl, hq.keep hr⟩
    repeat' (first | (apply Wl.assign; exact rfl; exact rfl) | (apply Wl.pickT; exact rfl; exact rfl; (first | with_reducible rfl | with_reducible assumption | decide); exact rfl) | (apply Wl.nilQ) | (apply St.ret) | (apply Gt.next) | (apply Gt.out1; exact rfl; exact rfl; intro w' hp) | (apply Wl.splitP; exact rfl; exact rfl; all_goals (intros; try (exfalso; omega))) | (apply Wl.splitB; exact rfl; exact rfl; all_goals intros) | (apply St.condP; exact rfl; all_goals (intros; try (exfalso; omega))) | (apply St.condB; exact rfl; all_goals intros))
    exact ⟨rfl, hpFin hp hu (by simp; omega)⟩
  · have hdm : dg W32 m 0 % 2 = m % 2 := by rw [dg0_mod]; omega
    have h0l := dlt m 0
    refine ⟨_, _, rfl, hq.keep hr, ?_⟩
    clear hq hr
    by_cases hpar : m % 2 = 1
    · have h1 : m = 1 := Decidable.byContradiction fun h => hno ⟨hpar, h⟩
      repeat' (first | (apply Wl.indexA (j := 0); exact rfl; exact rfl; exact rfl; (decide)) | (apply Wl.buildN; exact rfl; (repeat (first | exact Parts.nil | apply Parts.cons rfl)); (repeat (first | apply Fills.nil | (apply Fills.one; exact rfl; exact rfl; (repeat (first | apply LSet.z | apply LSet.s))) | (apply Fills.agg; exact rfl; exact rfl; (repeat (first | apply LPut.s | apply LPut.z | apply LOver.nil | apply LOver.cons))))); (first | exact const8 1 (by decide) | exact const8 0 (by decide) | exact one16)) | (apply Wl.eqlA (b := true); exact rfl; exact rfl; exact rfl; kernel_rfl; kernel_rfl; kernel_rfl; kernel_rfl; exact cell32 _ (dlt _); exact cell32 _ (dlt _); exact eqT (by first | rfl | assumption)) | (apply Wl.loadN; exact rfl; exact rfl; (repeat (first | exact List.Mem.head _ | apply List.Mem.tail)); (omega)) | (apply Wl.loadW; exact rfl; exact rfl; (repeat (first | exact List.Mem.head _ | apply List.Mem.tail)); exact rfl) | (apply Wl.remN (n := 2); exact rfl; exact rfl; exact rfl; (decide)) | (apply Wl.move; exact rfl; exact rfl) | (apply Wl.assign; exact rfl; exact rfl) | (apply Wl.on; exact rfl; exact rfl; (first | with_reducible rfl | with_reducible assumption | decide)) | (apply Wl.extract; exact rfl; exact rfl; exact rfl) | (apply Wl.pickT; exact rfl; exact rfl; (first | with_reducible rfl | with_reducible assumption | decide); exact rfl) | (apply Wl.pickF; exact rfl; exact rfl; (first | with_reducible rfl | with_reducible assumption | decide); exact rfl) | (apply Wl.eqlNN; exact rfl; exact rfl; exact rfl) | (apply Wl.eqlIs; exact rfl; exact rfl; exact rfl; (first | with_reducible assumption | with_reducible rfl)) | (apply Wl.eql; exact rfl; exact rfl; exact rfl) | (apply Wl.nil) | (apply St.seq) | (apply St.region) | (apply St.condT; exact rfl; (first | with_reducible rfl | with_reducible assumption | decide)) | (apply Gt.next) | (apply Wl.splitP; exact rfl; exact rfl; all_goals (intros; try (exfalso; omega))) | (apply Wl.splitB; exact rfl; exact rfl; all_goals intros) | (apply St.condP; exact rfl; all_goals (intros; try (exfalso; omega))) | (apply St.condB; exact rfl; all_goals intros))
      apply Wl.callQ
      exact rfl
      (repeat (first | exact Evs.nil | apply Evs.cons rfl))
      · intro wq hq
        refine (modAddNil a a2 wq).mono ?_
        rintro e wr ⟨rfl, hr⟩
        exact ⟨rfl, hq.keep hr⟩
      repeat' (first | (apply Wl.buildN; exact rfl; (repeat (first | exact Parts.nil | apply Parts.cons rfl)); (repeat (first | apply Fills.nil | (apply Fills.one; exact rfl; exact rfl; (repeat (first | apply LSet.z | apply LSet.s))) | (apply Fills.agg; exact rfl; exact rfl; (repeat (first | apply LPut.s | apply LPut.z | apply LOver.nil | apply LOver.cons))))); (first | exact const8 1 (by decide) | exact const8 0 (by decide) | exact one16)) | (apply Wl.eqlA (b := true); exact rfl; exact rfl; exact rfl; kernel_rfl; kernel_rfl; kernel_rfl; kernel_rfl; exact cell32 _ (dlt _); exact cell32 _ (dlt _); exact eqT (by first | rfl | assumption)) | (apply Wl.move; exact rfl; exact rfl) | (apply Wl.on; exact rfl; exact rfl; (first | with_reducible rfl | with_reducible assumption | decide)) | (apply Wl.pickT; exact rfl; exact rfl; (first | with_reducible rfl | with_reducible assumption | decide); exact rfl) | (apply Wl.splitP; exact rfl; exact rfl; all_goals (intros; try (exfalso; omega))) | (apply Wl.splitB; exact rfl; exact rfl; all_goals intros) | (apply St.condP; exact rfl; all_goals (intros; try (exfalso; omega))) | (apply St.condB; exact rfl; all_goals intros))
      apply Wl.callQ
      exact rfl
      (repeat (first | exact Evs.nil | apply Evs.cons rfl))
      · intro wq hq
        refine (modModNil wq).mono ?_
        rintro e wr ⟨rfl, hr⟩
        exact ⟨rfl, hq.keep hr⟩
      repeat' (first | (apply Wl.buildN; exact rfl; (repeat (first | exact Parts.nil | apply Parts.cons rfl)); (repeat (first | apply Fills.nil | (apply Fills.one; exact rfl; exact rfl; (repeat (first | apply LSet.z | apply LSet.s))) | (apply Fills.agg; exact rfl; exact rfl; (repeat (first | apply LPut.s | apply LPut.z | apply LOver.nil | apply LOver.cons))))); (first | exact const8 1 (by decide) | exact const8 0 (by decide) | exact one16)) | (apply Wl.eqlA (b := true); exact rfl; exact rfl; exact rfl; kernel_rfl; kernel_rfl; kernel_rfl; kernel_rfl; exact cell32 _ (dlt _); exact cell32 _ (dlt _); exact eqT (by first | rfl | assumption)) | (apply Wl.assign; exact rfl; exact rfl) | (apply Wl.on; exact rfl; exact rfl; (first | with_reducible rfl | with_reducible assumption | decide)) | (apply Wl.pickT; exact rfl; exact rfl; (first | with_reducible rfl | with_reducible assumption | decide); exact rfl) | (apply Wl.nil) | (apply St.ret) | (apply Gt.next) | (apply Gt.thenRet) | (apply Gt.out1; exact rfl; exact rfl; intro w' hp) | (apply Wl.splitP; exact rfl; exact rfl; all_goals (intros; try (exfalso; omega))) | (apply Wl.splitB; exact rfl; exact rfl; all_goals intros) | (apply St.condP; exact rfl; all_goals (intros; try (exfalso; omega))) | (apply St.condB; exact rfl; all_goals intros))
      exact ⟨rfl, hp.drop (by simp; omega)⟩
    · repeat' (first | (apply Wl.indexA (j := 0); exact rfl; exact rfl; exact rfl; (decide)) | (apply Wl.loadN; exact rfl; exact rfl; (repeat (first | exact List.Mem.head _ | apply List.Mem.tail)); (omega)) | (apply Wl.loadW; exact rfl; exact rfl; (repeat (first | exact List.Mem.head _ | apply List.Mem.tail)); exact rfl) | (apply Wl.remN (n := 2); exact rfl; exact rfl; exact rfl; (decide)) | (apply Wl.move; exact rfl; exact rfl) | (apply Wl.assign; exact rfl; exact rfl) | (apply Wl.on; exact rfl; exact rfl; (first | with_reducible rfl | with_reducible assumption | decide)) | (apply Wl.off; exact rfl; exact rfl; exact rfl; (first | with_reducible rfl | (show _ = false; with_reducible assumption) | (show _ = true; with_reducible assumption) | decide)) | (apply Wl.extract; exact rfl; exact rfl; exact rfl) | (apply Wl.pickT; exact rfl; exact rfl; (first | with_reducible rfl | with_reducible assumption | decide); exact rfl) | (apply Wl.eqlNN; exact rfl; exact rfl; exact rfl) | (apply Wl.eqlIs; exact rfl; exact rfl; exact rfl; (first | with_reducible assumption | with_reducible rfl)) | (apply Wl.eql; exact rfl; exact rfl; exact rfl) | (apply Wl.nil) | (apply St.seq) | (apply St.region) | (apply St.condT; exact rfl; (first | with_reducible rfl | with_reducible assumption | decide)) | (apply Gt.next) | (apply Wl.splitP; exact rfl; exact rfl; all_goals (intros; try (exfalso; omega))) | (apply Wl.splitB; exact rfl; exact rfl; all_goals intros) | (apply St.condP; exact rfl; all_goals (intros; try (exfalso; omega))) | (apply St.condB; exact rfl; all_goals intros))
      apply Wl.callQ
      exact rfl
      (repeat (first | exact Evs.nil | apply Evs.cons rfl))
      · intro wq hq
        refine (modAddNil a a2 wq).mono ?_
        rintro e wr ⟨rfl, hr⟩
        exact ⟨rfl, hq.keep hr⟩
      repeat' (first | (apply Wl.buildN; exact rfl; (repeat (first | exact Parts.nil | apply Parts.cons rfl)); (repeat (first | apply Fills.nil | (apply Fills.one; exact rfl; exact rfl; (repeat (first | apply LSet.z | apply LSet.s))) | (apply Fills.agg; exact rfl; exact rfl; (repeat (first | apply LPut.s | apply LPut.z | apply LOver.nil | apply LOver.cons))))); (first | exact const8 1 (by decide) | exact const8 0 (by decide) | exact one16)) | (apply Wl.eqlA (b := true); exact rfl; exact rfl; exact rfl; kernel_rfl; kernel_rfl; kernel_rfl; kernel_rfl; exact cell32 _ (dlt _); exact cell32 _ (dlt _); exact eqT (by first | rfl | assumption)) | (apply Wl.move; exact rfl; exact rfl) | (apply Wl.on; exact rfl; exact rfl; (first | with_reducible rfl | with_reducible assumption | decide)) | (apply Wl.pickT; exact rfl; exact rfl; (first | with_reducible rfl | with_reducible assumption | decide); exact rfl) | (apply Wl.splitP; exact rfl; exact rfl; all_goals (intros; try (exfalso; omega))) | (apply Wl.splitB; exact rfl; exact rfl; all_goals intros) | (apply St.condP; exact rfl; all_goals (intros; try (exfalso; omega))) | (apply St.condB; exact rfl; all_goals intros))
      apply Wl.callQ
      exact rfl
      (repeat (first | exact Evs.nil | apply Evs.cons rfl))
      · intro wq hq
        refine (modModNil wq).mono ?_
        rintro e wr ⟨rfl, hr⟩
        exact ⟨rfl, hq.keep hr⟩
      repeat' (first | (apply Wl.buildN; exact rfl; (repeat (first | exact Parts.nil | apply Parts.cons rfl)); (repeat (first | apply Fills.nil | (apply Fills.one; exact rfl; exact rfl; (repeat (first | apply LSet.z | apply LSet.s))) | (apply Fills.agg; exact rfl; exact rfl; (repeat (first | apply LPut.s | apply LPut.z | apply LOver.nil | apply LOver.cons))))); (first | exact const8 1 (by decide) | exact const8 0 (by decide) | exact one16)) | (apply Wl.eqlA (b := true); exact rfl; exact rfl; exact rfl; kernel_rfl; kernel_rfl; kernel_rfl; kernel_rfl; exact cell32 _ (dlt _); exact cell32 _ (dlt _); exact eqT (by first | rfl | assumption)) | (apply Wl.assign; exact rfl; exact rfl) | (apply Wl.on; exact rfl; exact rfl; (first | with_reducible rfl | with_reducible assumption | decide)) | (apply Wl.pickT; exact rfl; exact rfl; (first | with_reducible rfl | with_reducible assumption | decide); exact rfl) | (apply Wl.nil) | (apply St.ret) | (apply Gt.next) | (apply Gt.thenRet) | (apply Gt.out1; exact rfl; exact rfl; intro w' hp) | (apply Wl.splitP; exact rfl; exact rfl; all_goals (intros; try (exfalso; omega))) | (apply Wl.splitB; exact rfl; exact rfl; all_goals intros) | (apply St.condP; exact rfl; all_goals (intros; try (exfalso; omega))) | (apply St.condB; exact rfl; all_goals intros))
      exact ⟨rfl, hp.drop (by simp; omega)⟩
end Go.Proofs.Ythmechgccfjmdaa
