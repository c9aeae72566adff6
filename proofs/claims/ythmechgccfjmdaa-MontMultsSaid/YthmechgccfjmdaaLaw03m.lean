/-
  MontMults: the walk. Conditions: none.
-/
import Derived.Test.YthmechgccfjmdaaLaw03
namespace Go.Proofs.Ythmechgccfjmdaa
open Go.RowKit Go.Pt
set_option maxHeartbeats 8000000 in
theorem mults03 (m a a2 : Nat) (w : World) (hm : m < W256) (ha : a < W256) (ha2 : a2 < W256) : Calls Try.prog 3 #[numV m, numV a, numV a2] w fun e w' => e = .returned (.bool true) ∧ Hp w [] w' := by
  refine enter (args := [_, _, _]) (Γ := [(0, _), (1, _), (2, _)]) Try.func3 Try.ntmps3 rfl (of_decide_eq_true rfl) (.cons rfl (.cons rfl (.cons rfl .nil))) ?_
  repeat' (first | (apply Wl.boxN; exact rfl; exact rfl; intro c hc ho) | (apply Wl.assign; exact rfl; exact rfl) | (apply Wl.nil) | (apply St.seq) | (apply St.region) | (apply Gt.next) | (apply Wl.splitP; exact rfl; exact rfl; all_goals (intros; try (exfalso; omega))) | (apply Wl.splitB; exact rfl; exact rfl; all_goals intros) | (apply St.condP; exact rfl; all_goals (intros; try (exfalso; omega))) | (apply St.condB; exact rfl; all_goals intros))
  rename_i c3 h3 o3 c4 h4 o4
  generalize c = c5 at *
  apply Wl.callQ
  exact rfl
  (repeat (first | exact Evs.nil | apply Evs.cons rfl))
  · intro wq hq
    refine (fit03 wq).mono ?_
    rintro e wr ⟨rfl, hr⟩
    exact ⟨rfl, hq.keep hr⟩
  repeat' (first | (apply Wl.loadW; exact rfl; exact rfl; (repeat (first | exact List.Mem.head _ | apply List.Mem.tail)); exact rfl) | (apply Wl.not; exact rfl; exact rfl) | (apply Wl.nil) | (apply St.seq) | (apply St.region) | (apply St.condF; exact rfl; (first | with_reducible rfl | with_reducible assumption | decide)) | (apply St.skip) | (apply Gt.next) | (apply Wl.splitP; exact rfl; exact rfl; all_goals (intros; try (exfalso; omega))) | (apply Wl.splitB; exact rfl; exact rfl; all_goals intros) | (apply St.condP; exact rfl; all_goals (intros; try (exfalso; omega))) | (apply St.condB; exact rfl; all_goals intros))
  apply Wl.callC
  exact rfl
  (repeat (first | exact Evs.nil | apply Evs.cons rfl))
  intro wq hq
  refine (modNew m hm wq).mono ?_
  have l0 := hq.own.lt (.head _)
  have l1 := hq.own.lt (.tail _ (.head _))
  have l2 := hq.own.lt (.tail _ (.tail _ (.head _)))
  simp only at l0 l1 l2
  rintro e wr (⟨hodd, hne1, b, rfl, hb, hV, hr⟩ | ⟨hno, rfl, hr⟩)
  · have hu : Upd (fun k => w.heap.size ≤ k) w wr := hpOn (hq.keep hr) (Upd.refl _ _) (by simp; omega)
    have hbl := hV.blk
    have hgt := hV.gt
    have hm0 : 0 < m := by omega
    have hWm : W256 % m < W256 := Nat.lt_trans (Nat.mod_lt _ hm0) hm
    refine ⟨_, _, rfl, hpRb (hq.keep hr), ?_⟩
    have hs1 := hu.size
    clear hq hr
    repeat' (first | (apply Wl.loadW; exact rfl; exact rfl; (repeat (first | exact List.Mem.head _ | apply List.Mem.tail)); exact rfl) | (apply Wl.move; exact rfl; exact rfl) | (apply Wl.assign; exact rfl; exact rfl) | (apply Wl.extract; exact rfl; exact rfl; exact rfl) | (apply Wl.neqIs; exact rfl; exact rfl; exact rfl; (first | with_reducible assumption | with_reducible rfl)) | (apply Wl.nil) | (apply St.seq) | (apply St.region) | (apply St.condF; exact rfl; (first | with_reducible rfl | with_reducible assumption | decide)) | (apply St.skip) | (apply Gt.next) | (apply Wl.splitP; exact rfl; exact rfl; all_goals (intros; try (exfalso; omega))) | (apply Wl.splitB; exact rfl; exact rfl; all_goals intros) | (apply St.condP; exact rfl; all_goals (intros; try (exfalso; omega))) | (apply St.condB; exact rfl; all_goals intros))
    apply Wl.callQ
    exact rfl
    (repeat (first | exact Evs.nil | apply Evs.cons rfl))
    · intro wq hq
      refine (refOf m wq).mono ?_
      rintro e wr ⟨rfl, hr⟩
      exact ⟨rfl, hq.keep hr⟩
    repeat' (first | (apply Wl.storeW; exact rfl; exact rfl; (repeat (first | apply HSet.here | apply HSet.there)); exact rfl; (first | exact cellsN_len _ _ _ | exact rfl)) | (apply Wl.allocN; exact rfl; (first | exact z8 | exact z16 | exact z17 | exact z33 | exact z10); intro c hc ho) | (apply Wl.nil) | (apply Gt.next) | (apply Wl.splitP; exact rfl; exact rfl; all_goals (intros; try (exfalso; omega))) | (apply Wl.splitB; exact rfl; exact rfl; all_goals intros) | (apply St.condP; exact rfl; all_goals (intros; try (exfalso; omega))) | (apply St.condB; exact rfl; all_goals intros))
    generalize c = c9 at *
    have hc9 : wr.heap.size ≤ c9 := hc
    refine St.cut (σ := Nat × Nat) (fun τ => wr.heap.size ≤ τ.1 ∧ wr.heap.size ≤ τ.2)
      (fun τ => [(3, mp c3), (4, mp c4), (5, mp c5), (6, .bool false), (7, mp b), (9, mp c9), (10, mp τ.1), (11, mp τ.2)])
      (fun τ => Hp wr [⟨τ.2, cellsN .u64 16 (dg D16 a2), 32⟩, ⟨τ.1, cellsN .u64 16 (dg D16 a), 32⟩, ⟨c9, cellsN .u64 16 (dg D16 m), 32⟩, ⟨c5, cellsN .u32 8 (dg W32 a2), 24⟩, ⟨c4, cellsN .u32 8 (dg W32 a), 24⟩, ⟨c3, cellsN .u32 8 (dg W32 m), 24⟩]) ?_ ?_
    · refine St.tree (Hp wr [_, _, _, _]) mixed (fun _ h => ⟨Hp.drew h, Hp.drew h⟩) ?_
      repeat' (first | (refine Mt.toGt (by decide +kernel) ?_) | (refine Mt.pure 0 (by decide +kernel) (by exact rfl) (by exact rfl) (by decide +kernel) (by decide +kernel) ?_) | (refine Mt.pure 2 (by decide +kernel) (by exact rfl) (by exact rfl) (by decide +kernel) (by decide +kernel) ?_) | (refine Mt.eff3 (i := 1) (j := 4) (k := 5) (by decide +kernel) (by exact rfl) (by exact rfl) (by exact rfl) ?_ ?_ ?_) | (refine Mt.eff3 (i := 3) (j := 4) (k := 5) (by decide +kernel) (by exact rfl) (by exact rfl) (by exact rfl) ?_ ?_ ?_) | (refine Mt.eff2 (i := 1) (j := 4) (by decide +kernel) (by exact rfl) (by exact rfl) ?_ ?_) | (refine Mt.eff2 (i := 1) (j := 5) (by decide +kernel) (by exact rfl) (by exact rfl) ?_ ?_) | (refine Mt.eff2 (i := 3) (j := 4) (by decide +kernel) (by exact rfl) (by exact rfl) ?_ ?_) | (refine Mt.eff2 (i := 3) (j := 5) (by decide +kernel) (by exact rfl) (by exact rfl) ?_ ?_) | (refine Mt.eff2 (i := 4) (j := 5) (by decide +kernel) (by exact rfl) (by exact rfl) ?_ ?_) | (refine Mt.eff1 (i := 1) (by decide +kernel) (by exact rfl) ?_) | (refine Mt.eff1 (i := 3) (by decide +kernel) (by exact rfl) ?_) | (refine Mt.eff1 (i := 4) (by decide +kernel) (by exact rfl) ?_) | (refine Mt.eff1 (i := 5) (by decide +kernel) (by exact rfl) ?_) | (refine Mt.eff1 (i := 6) (by decide +kernel) (by exact rfl) ?_) | (refine Mt.eff1 (i := 7) (by decide +kernel) (by exact rfl) ?_) | (apply Mt.back) | (refine Mt.backE (fun _ h => by first | exact h | exact hpPop h (by simp only; omega) | exact hpPop (hpPop h (by simp only; omega)) (by simp only; omega)) ?_) | (apply Wl.callQ; exact rfl; (repeat (first | exact Evs.nil | apply Evs.cons rfl)); (intro wq hq; refine (refOf _ wq).mono ?_; rintro e wr ⟨rfl, hr⟩; exact ⟨rfl, hq.keep hr⟩)) | (apply Wl.loadW; exact rfl; exact rfl; (repeat (first | exact List.Mem.head _ | apply List.Mem.tail)); exact rfl) | (apply Wl.storeW; exact rfl; exact rfl; (repeat (first | apply HSet.here | apply HSet.there)); exact rfl; (first | exact cellsN_len _ _ _ | exact rfl)) | (apply Wl.allocN; exact rfl; (first | exact z8 | exact z16 | exact z17 | exact z33 | exact z10); intro c hc ho) | (apply Wl.nil) | (apply Wl.nilM) | (apply Wl.splitP; exact rfl; exact rfl; all_goals (intros; try (exfalso; omega))) | (apply Wl.splitB; exact rfl; exact rfl; all_goals intros) | (apply St.condP; exact rfl; all_goals (intros; try (exfalso; omega))) | (apply St.condB; exact rfl; all_goals intros))
      all_goals
        apply Gt.meet (_, _)
        rotate_left
        · (repeat (first | exact Sub.nil | apply Sub.cons rfl))
        · first | exact fun _ h => h | exact fun _ h => hpSwap h
        · exact ⟨by assumption, by assumption⟩
    rintro ⟨c10, c11⟩ ⟨h10, h11⟩
    simp only at h10 h11 ⊢
    repeat' (first | (apply Wl.loadW; exact rfl; exact rfl; (repeat (first | exact List.Mem.head _ | apply List.Mem.tail)); exact rfl) | (apply St.seq) | (apply St.region) | (apply Wl.splitP; exact rfl; exact rfl; all_goals (intros; try (exfalso; omega))) | (apply Wl.splitB; exact rfl; exact rfl; all_goals intros) | (apply St.condP; exact rfl; all_goals (intros; try (exfalso; omega))) | (apply St.condB; exact rfl; all_goals intros))
    apply Wl.callQ
    exact rfl
    (repeat (first | exact Evs.nil | apply Evs.cons rfl))
    · intro wq hq
      refine (refMul a a2 m wq ha ha2 hm hm0).mono ?_
      rintro e wr ⟨rfl, hr⟩
      exact ⟨rfl, hq.keep hr⟩
    repeat' (first | (apply Wl.storeW; exact rfl; exact rfl; (repeat (first | apply HSet.here | apply HSet.there)); exact rfl; (first | exact cellsN_len _ _ _ | exact rfl)) | (apply Wl.allocN; exact rfl; (first | exact z8 | exact z16 | exact z17 | exact z33 | exact z10); intro c hc ho) | (apply Wl.nil) | (apply Gt.next) | (apply Wl.splitP; exact rfl; exact rfl; all_goals (intros; try (exfalso; omega))) | (apply Wl.splitB; exact rfl; exact rfl; all_goals intros) | (apply St.condP; exact rfl; all_goals (intros; try (exfalso; omega))) | (apply St.condB; exact rfl; all_goals intros))
    generalize c = c12 at *
    have hc12 : wr.heap.size ≤ c12 := by assumption
    refine St.cut (σ := Nat) (fun τ => wr.heap.size ≤ τ)
      (fun τ => [(3, mp c3), (4, mp c4), (5, mp c5), (6, .bool false), (7, mp b), (9, mp c9), (10, mp c10), (11, mp c11), (12, mp c12), (13, mp τ)])
      (fun τ => Hp wr [⟨τ, cellsN .u64 16 (dg D16 (a * (W256 % m) % m)), 32⟩, ⟨c12, cellsN .u64 16 (dg D16 (a * a2 % m)), 32⟩, ⟨c11, cellsN .u64 16 (dg D16 a2), 32⟩, ⟨c10, cellsN .u64 16 (dg D16 a), 32⟩, ⟨c9, cellsN .u64 16 (dg D16 m), 32⟩, ⟨c5, cellsN .u32 8 (dg W32 a2), 24⟩, ⟨c4, cellsN .u32 8 (dg W32 a), 24⟩, ⟨c3, cellsN .u32 8 (dg W32 m), 24⟩]) ?_ ?_
    · refine St.tree (Hp wr [_, _, _, _, _, _, _]) mixed (fun _ h => ⟨Hp.drew h, Hp.drew h⟩) ?_
      repeat' (first | (refine Mt.toGt (by decide +kernel) ?_) | (refine Mt.pure 0 (by decide +kernel) (by exact rfl) (by exact rfl) (by decide +kernel) (by decide +kernel) ?_) | (refine Mt.pure 1 (by decide +kernel) (by exact rfl) (by exact rfl) (by decide +kernel) (by decide +kernel) ?_) | (refine Mt.pure 3 (by decide +kernel) (by exact rfl) (by exact rfl) (by decide +kernel) (by decide +kernel) ?_) | (refine Mt.eff2 (i := 2) (j := 5) (by decide +kernel) (by exact rfl) (by exact rfl) ?_ ?_) | (refine Mt.eff2 (i := 4) (j := 5) (by decide +kernel) (by exact rfl) (by exact rfl) ?_ ?_) | (refine Mt.eff1 (i := 2) (by decide +kernel) (by exact rfl) ?_) | (refine Mt.eff1 (i := 4) (by decide +kernel) (by exact rfl) ?_) | (refine Mt.eff1 (i := 5) (by decide +kernel) (by exact rfl) ?_) | (refine Mt.eff1 (i := 6) (by decide +kernel) (by exact rfl) ?_) | (apply Mt.back) | (refine Mt.backE (fun _ h => by first | exact h | exact hpPop h (by simp only; omega) | exact hpPop (hpPop h (by simp only; omega)) (by simp only; omega)) ?_) | (apply Wl.callQ; exact rfl; (repeat (first | exact Evs.nil | apply Evs.cons rfl)); (intro wq hq; refine (refR m wq hm hgt).mono ?_; rintro e wr ⟨rfl, hr⟩; exact ⟨rfl, hq.keep hr⟩)) | (apply Wl.callQ; exact rfl; (repeat (first | exact Evs.nil | apply Evs.cons rfl)); (intro wq hq; refine (refMul a (W256 % m) m wq ha hWm hm hm0).mono ?_; rintro e wr ⟨rfl, hr⟩; exact ⟨rfl, hq.keep hr⟩)) | (apply Wl.loadW; exact rfl; exact rfl; (repeat (first | exact List.Mem.head _ | apply List.Mem.tail)); exact rfl) | (apply Wl.storeW; exact rfl; exact rfl; (repeat (first | apply HSet.here | apply HSet.there)); exact rfl; (first | exact cellsN_len _ _ _ | exact rfl)) | (apply Wl.allocN; exact rfl; (first | exact z8 | exact z16 | exact z17 | exact z33 | exact z10); intro c hc ho) | (apply Wl.nil) | (apply Wl.nilM) | (apply Wl.splitP; exact rfl; exact rfl; all_goals (intros; try (exfalso; omega))) | (apply Wl.splitB; exact rfl; exact rfl; all_goals intros) | (apply St.condP; exact rfl; all_goals (intros; try (exfalso; omega))) | (apply St.condB; exact rfl; all_goals intros))
      all_goals
        apply Gt.meet
        rotate_left
        · (repeat (first | exact Sub.nil | apply Sub.cons rfl))
        · exact fun _ h => h
        · assumption
    intro c13 h13
    have hlt (x : Nat) : x % m < m := Nat.mod_lt _ hm0
    have hltW (x : Nat) : x % m < W256 := Nat.lt_trans (hlt x) hm
    have q4 : a * W256 % m = a * (W256 % m) % m := (Nat.mul_mod_mod _ _ _).symm
    have q6 : a * W256 % m * rinv m % m = a % m := outIn hodd
    have q11 : a * W256 % m * (a2 % m) * rinv m % m = a * a2 % m := by
      have e : a * W256 % m * (a2 % m) * rinv m % m = a * a2 * W256 * rinv m % m := by
        rw [show a * a2 * W256 = a * W256 * a2 by rw [Nat.mul_assoc, Nat.mul_comm a2, ← Nat.mul_assoc]]
        simp only [Nat.mul_mod, Nat.mod_mod]
      rw [e]; exact inW hodd
    have q18 : a % m * (a2 % m) * rinv m % m = a * a2 % m * rinv m % m := by simp only [Nat.mul_mod, Nat.mod_mod]
    repeat' (first | (apply Wl.loadW; exact rfl; exact rfl; (repeat (first | exact List.Mem.head _ | apply List.Mem.tail)); exact rfl) | (apply Wl.move; exact rfl; exact rfl) | (apply St.seq) | (apply St.draw; exact mixed; (kernel_rfl); exact (fun _ h => Hp.drew h)) | (apply Wl.splitP; exact rfl; exact rfl; all_goals (intros; try (exfalso; omega))) | (apply Wl.splitB; exact rfl; exact rfl; all_goals intros) | (apply St.condP; exact rfl; all_goals (intros; try (exfalso; omega))) | (apply St.condB; exact rfl; all_goals intros))
    apply Wl.callQQ
    exact rfl
    (repeat (first | exact Evs.nil | apply Evs.cons rfl))
    · intro wq hq
      refine (modMul b m a a2 wq (hV.hp hq (by apply Off.of; simp <;> omega)) ha ha2).mono ?_
      rintro e wr ⟨rfl, hr⟩
      exact ⟨rfl, hq.keep hr⟩
    repeat' (first | (apply Wl.loadW; exact rfl; exact rfl; (repeat (first | exact List.Mem.head _ | apply List.Mem.tail)); exact rfl) | (apply Wl.splitP; exact rfl; exact rfl; all_goals (intros; try (exfalso; omega))) | (apply Wl.splitB; exact rfl; exact rfl; all_goals intros) | (apply St.condP; exact rfl; all_goals (intros; try (exfalso; omega))) | (apply St.condB; exact rfl; all_goals intros))
    apply Wl.callQQ
    exact rfl
    (repeat (first | exact Evs.nil | apply Evs.cons rfl))
    · intro wq hq
      refine (likeTrue (a := a * a2 % m) (b := a * a2 % m) rfl (hltW _) wq).mono ?_
      rintro e wr ⟨rfl, hr⟩
      exact ⟨rfl, hq.keep hr⟩
    repeat' (first | (apply Wl.loadW; exact rfl; exact rfl; (repeat (first | exact List.Mem.head _ | apply List.Mem.tail)); exact rfl) | (apply Wl.move; exact rfl; exact rfl) | (apply Wl.on; exact rfl; exact rfl; (first | with_reducible rfl | with_reducible assumption | decide)) | (apply Wl.splitP; exact rfl; exact rfl; all_goals (intros; try (exfalso; omega))) | (apply Wl.splitB; exact rfl; exact rfl; all_goals intros) | (apply St.condP; exact rfl; all_goals (intros; try (exfalso; omega))) | (apply St.condB; exact rfl; all_goals intros))
    apply Wl.callQQ
    exact rfl
    (repeat (first | exact Evs.nil | apply Evs.cons rfl))
    · intro wq hq
      refine (modIn b m a wq (hV.hp hq (by apply Off.of; simp <;> omega)) ha).mono ?_
      rintro e wr ⟨rfl, hr⟩
      exact ⟨rfl, hq.keep hr⟩
    repeat' (first | (apply Wl.loadW; exact rfl; exact rfl; (repeat (first | exact List.Mem.head _ | apply List.Mem.tail)); exact rfl) | (apply Wl.on; exact rfl; exact rfl; (first | with_reducible rfl | with_reducible assumption | decide)) | (apply Wl.splitP; exact rfl; exact rfl; all_goals (intros; try (exfalso; omega))) | (apply Wl.splitB; exact rfl; exact rfl; all_goals intros) | (apply St.condP; exact rfl; all_goals (intros; try (exfalso; omega))) | (apply St.condB; exact rfl; all_goals intros))
    apply Wl.callQQ
    exact rfl
    (repeat (first | exact Evs.nil | apply Evs.cons rfl))
    · intro wq hq
      refine (likeTrue q4 (hltW _) wq).mono ?_
      rintro e wr ⟨rfl, hr⟩
      exact ⟨rfl, hq.keep hr⟩
    repeat' (first | (apply Wl.loadW; exact rfl; exact rfl; (repeat (first | exact List.Mem.head _ | apply List.Mem.tail)); exact rfl) | (apply Wl.move; exact rfl; exact rfl) | (apply Wl.on; exact rfl; exact rfl; (first | with_reducible rfl | with_reducible assumption | decide)) | (apply Wl.pickT; exact rfl; exact rfl; (first | with_reducible rfl | with_reducible assumption | decide); exact rfl) | (apply Wl.splitP; exact rfl; exact rfl; all_goals (intros; try (exfalso; omega))) | (apply Wl.splitB; exact rfl; exact rfl; all_goals intros) | (apply St.condP; exact rfl; all_goals (intros; try (exfalso; omega))) | (apply St.condB; exact rfl; all_goals intros))
    apply Wl.callQQ
    exact rfl
    (repeat (first | exact Evs.nil | apply Evs.cons rfl))
    · intro wq hq
      refine (modIn b m a wq (hV.hp hq (by apply Off.of; simp <;> omega)) ha).mono ?_
      rintro e wr ⟨rfl, hr⟩
      exact ⟨rfl, hq.keep hr⟩
    repeat' (first | (apply Wl.on; exact rfl; exact rfl; (first | with_reducible rfl | with_reducible assumption | decide)) | (apply Wl.splitP; exact rfl; exact rfl; all_goals (intros; try (exfalso; omega))) | (apply Wl.splitB; exact rfl; exact rfl; all_goals intros) | (apply St.condP; exact rfl; all_goals (intros; try (exfalso; omega))) | (apply St.condB; exact rfl; all_goals intros))
    apply Wl.callQQ
    exact rfl
    (repeat (first | exact Evs.nil | apply Evs.cons rfl))
    · intro wq hq
      refine (modOut b m _ wq (hV.hp hq (by apply Off.of; simp <;> omega)) (hltW _)).mono ?_
      rintro e wr ⟨rfl, hr⟩
      exact ⟨rfl, hq.keep hr⟩
    rw [q6]
    repeat' (first | (apply Wl.loadW; exact rfl; exact rfl; (repeat (first | exact List.Mem.head _ | apply List.Mem.tail)); exact rfl) | (apply Wl.on; exact rfl; exact rfl; (first | with_reducible rfl | with_reducible assumption | decide)) | (apply Wl.splitP; exact rfl; exact rfl; all_goals (intros; try (exfalso; omega))) | (apply Wl.splitB; exact rfl; exact rfl; all_goals intros) | (apply St.condP; exact rfl; all_goals (intros; try (exfalso; omega))) | (apply St.condB; exact rfl; all_goals intros))
    apply Wl.callQQ
    exact rfl
    (repeat (first | exact Evs.nil | apply Evs.cons rfl))
    · intro wq hq
      refine (refReduce a m wq ha hm hm0).mono ?_
      rintro e wr ⟨rfl, hr⟩
      exact ⟨rfl, hq.keep hr⟩
    repeat' (first | (apply Wl.on; exact rfl; exact rfl; (first | with_reducible rfl | with_reducible assumption | decide)) | (apply Wl.splitP; exact rfl; exact rfl; all_goals (intros; try (exfalso; omega))) | (apply Wl.splitB; exact rfl; exact rfl; all_goals intros) | (apply St.condP; exact rfl; all_goals (intros; try (exfalso; omega))) | (apply St.condB; exact rfl; all_goals intros))
    apply Wl.callQQ
    exact rfl
    (repeat (first | exact Evs.nil | apply Evs.cons rfl))
    · intro wq hq
      refine (likeTrue (a := a % m) (b := a % m) rfl (hltW _) wq).mono ?_
      rintro e wr ⟨rfl, hr⟩
      exact ⟨rfl, hq.keep hr⟩
    repeat' (first | (apply Wl.loadW; exact rfl; exact rfl; (repeat (first | exact List.Mem.head _ | apply List.Mem.tail)); exact rfl) | (apply Wl.move; exact rfl; exact rfl) | (apply Wl.on; exact rfl; exact rfl; (first | with_reducible rfl | with_reducible assumption | decide)) | (apply Wl.pickT; exact rfl; exact rfl; (first | with_reducible rfl | with_reducible assumption | decide); exact rfl) | (apply Wl.splitP; exact rfl; exact rfl; all_goals (intros; try (exfalso; omega))) | (apply Wl.splitB; exact rfl; exact rfl; all_goals intros) | (apply St.condP; exact rfl; all_goals (intros; try (exfalso; omega))) | (apply St.condB; exact rfl; all_goals intros))
    apply Wl.callQQ
    exact rfl
    (repeat (first | exact Evs.nil | apply Evs.cons rfl))
    · intro wq hq
      refine (modIn b m a wq (hV.hp hq (by apply Off.of; simp <;> omega)) ha).mono ?_
      rintro e wr ⟨rfl, hr⟩
      exact ⟨rfl, hq.keep hr⟩
    repeat' (first | (apply Wl.loadW; exact rfl; exact rfl; (repeat (first | exact List.Mem.head _ | apply List.Mem.tail)); exact rfl) | (apply Wl.move; exact rfl; exact rfl) | (apply Wl.on; exact rfl; exact rfl; (first | with_reducible rfl | with_reducible assumption | decide)) | (apply Wl.splitP; exact rfl; exact rfl; all_goals (intros; try (exfalso; omega))) | (apply Wl.splitB; exact rfl; exact rfl; all_goals intros) | (apply St.condP; exact rfl; all_goals (intros; try (exfalso; omega))) | (apply St.condB; exact rfl; all_goals intros))
    apply Wl.callQQ
    exact rfl
    (repeat (first | exact Evs.nil | apply Evs.cons rfl))
    · intro wq hq
      refine (modReduce b m a2 wq (hV.hp hq (by apply Off.of; simp <;> omega)) ha2).mono ?_
      rintro e wr ⟨rfl, hr⟩
      exact ⟨rfl, hq.keep hr⟩
    repeat' (first | (apply Wl.on; exact rfl; exact rfl; (first | with_reducible rfl | with_reducible assumption | decide)) | (apply Wl.splitP; exact rfl; exact rfl; all_goals (intros; try (exfalso; omega))) | (apply Wl.splitB; exact rfl; exact rfl; all_goals intros) | (apply St.condP; exact rfl; all_goals (intros; try (exfalso; omega))) | (apply St.condB; exact rfl; all_goals intros))
    apply Wl.callQQ
    exact rfl
    (repeat (first | exact Evs.nil | apply Evs.cons rfl))
    · intro wq hq
      refine (modTimes' (hV.hp hq (by apply Off.of; simp <;> omega)) (hltW _) (hlt _)).mono ?_
      rintro e wr ⟨rfl, hr⟩
      exact ⟨rfl, hq.keep hr⟩
    rw [q11]
    repeat' (first | (apply Wl.loadW; exact rfl; exact rfl; (repeat (first | exact List.Mem.head _ | apply List.Mem.tail)); exact rfl) | (apply Wl.on; exact rfl; exact rfl; (first | with_reducible rfl | with_reducible assumption | decide)) | (apply Wl.splitP; exact rfl; exact rfl; all_goals (intros; try (exfalso; omega))) | (apply Wl.splitB; exact rfl; exact rfl; all_goals intros) | (apply St.condP; exact rfl; all_goals (intros; try (exfalso; omega))) | (apply St.condB; exact rfl; all_goals intros))
    apply Wl.callQQ
    exact rfl
    (repeat (first | exact Evs.nil | apply Evs.cons rfl))
    · intro wq hq
      refine (likeTrue (a := a * a2 % m) (b := a * a2 % m) rfl (hltW _) wq).mono ?_
      rintro e wr ⟨rfl, hr⟩
      exact ⟨rfl, hq.keep hr⟩
    repeat' (first | (apply Wl.move; exact rfl; exact rfl) | (apply Wl.on; exact rfl; exact rfl; (first | with_reducible rfl | with_reducible assumption | decide)) | (apply Wl.pickT; exact rfl; exact rfl; (first | with_reducible rfl | with_reducible assumption | decide); exact rfl) | (apply Wl.splitP; exact rfl; exact rfl; all_goals (intros; try (exfalso; omega))) | (apply Wl.splitB; exact rfl; exact rfl; all_goals intros) | (apply St.condP; exact rfl; all_goals (intros; try (exfalso; omega))) | (apply St.condB; exact rfl; all_goals intros))
    apply Wl.callQQ
    exact rfl
    (repeat (first | exact Evs.nil | apply Evs.cons rfl))
    · intro wq hq
      refine (modOne b m wq (hV.hp hq (by apply Off.of; simp <;> omega))).mono ?_
      rintro e wr ⟨rfl, hr⟩
      exact ⟨rfl, hq.keep hr⟩
    repeat' (first | (apply Wl.loadW; exact rfl; exact rfl; (repeat (first | exact List.Mem.head _ | apply List.Mem.tail)); exact rfl) | (apply Wl.on; exact rfl; exact rfl; (first | with_reducible rfl | with_reducible assumption | decide)) | (apply Wl.splitP; exact rfl; exact rfl; all_goals (intros; try (exfalso; omega))) | (apply Wl.splitB; exact rfl; exact rfl; all_goals intros) | (apply St.condP; exact rfl; all_goals (intros; try (exfalso; omega))) | (apply St.condB; exact rfl; all_goals intros))
    apply Wl.callQQ
    exact rfl
    (repeat (first | exact Evs.nil | apply Evs.cons rfl))
    · intro wq hq
      refine (refR m wq hm hgt).mono ?_
      rintro e wr ⟨rfl, hr⟩
      exact ⟨rfl, hq.keep hr⟩
    repeat' (first | (apply Wl.on; exact rfl; exact rfl; (first | with_reducible rfl | with_reducible assumption | decide)) | (apply Wl.splitP; exact rfl; exact rfl; all_goals (intros; try (exfalso; omega))) | (apply Wl.splitB; exact rfl; exact rfl; all_goals intros) | (apply St.condP; exact rfl; all_goals (intros; try (exfalso; omega))) | (apply St.condB; exact rfl; all_goals intros))
    apply Wl.callQQ
    exact rfl
    (repeat (first | exact Evs.nil | apply Evs.cons rfl))
    · intro wq hq
      refine (likeTrue (a := W256 % m) (b := W256 % m) rfl (hltW _) wq).mono ?_
      rintro e wr ⟨rfl, hr⟩
      exact ⟨rfl, hq.keep hr⟩
    repeat' (first | (apply Wl.loadW; exact rfl; exact rfl; (repeat (first | exact List.Mem.head _ | apply List.Mem.tail)); exact rfl) | (apply Wl.move; exact rfl; exact rfl) | (apply Wl.on; exact rfl; exact rfl; (first | with_reducible rfl | with_reducible assumption | decide)) | (apply Wl.pickT; exact rfl; exact rfl; (first | with_reducible rfl | with_reducible assumption | decide); exact rfl) | (apply Wl.splitP; exact rfl; exact rfl; all_goals (intros; try (exfalso; omega))) | (apply Wl.splitB; exact rfl; exact rfl; all_goals intros) | (apply St.condP; exact rfl; all_goals (intros; try (exfalso; omega))) | (apply St.condB; exact rfl; all_goals intros))
    apply Wl.callQQ
    exact rfl
    (repeat (first | exact Evs.nil | apply Evs.cons rfl))
    · intro wq hq
      refine (modReduce b m a wq (hV.hp hq (by apply Off.of; simp <;> omega)) ha).mono ?_
      rintro e wr ⟨rfl, hr⟩
      exact ⟨rfl, hq.keep hr⟩
    repeat' (first | (apply Wl.loadW; exact rfl; exact rfl; (repeat (first | exact List.Mem.head _ | apply List.Mem.tail)); exact rfl) | (apply Wl.move; exact rfl; exact rfl) | (apply Wl.on; exact rfl; exact rfl; (first | with_reducible rfl | with_reducible assumption | decide)) | (apply Wl.splitP; exact rfl; exact rfl; all_goals (intros; try (exfalso; omega))) | (apply Wl.splitB; exact rfl; exact rfl; all_goals intros) | (apply St.condP; exact rfl; all_goals (intros; try (exfalso; omega))) | (apply St.condB; exact rfl; all_goals intros))
    apply Wl.callQQ
    exact rfl
    (repeat (first | exact Evs.nil | apply Evs.cons rfl))
    · intro wq hq
      refine (modReduce b m a2 wq (hV.hp hq (by apply Off.of; simp <;> omega)) ha2).mono ?_
      rintro e wr ⟨rfl, hr⟩
      exact ⟨rfl, hq.keep hr⟩
    repeat' (first | (apply Wl.on; exact rfl; exact rfl; (first | with_reducible rfl | with_reducible assumption | decide)) | (apply Wl.splitP; exact rfl; exact rfl; all_goals (intros; try (exfalso; omega))) | (apply Wl.splitB; exact rfl; exact rfl; all_goals intros) | (apply St.condP; exact rfl; all_goals (intros; try (exfalso; omega))) | (apply St.condB; exact rfl; all_goals intros))
    apply Wl.callQQ
    exact rfl
    (repeat (first | exact Evs.nil | apply Evs.cons rfl))
    · intro wq hq
      refine (modTimes' (hV.hp hq (by apply Off.of; simp <;> omega)) (hltW _) (hlt _)).mono ?_
      rintro e wr ⟨rfl, hr⟩
      exact ⟨rfl, hq.keep hr⟩
    repeat' (first | (apply Wl.loadW; exact rfl; exact rfl; (repeat (first | exact List.Mem.head _ | apply List.Mem.tail)); exact rfl) | (apply Wl.on; exact rfl; exact rfl; (first | with_reducible rfl | with_reducible assumption | decide)) | (apply Wl.splitP; exact rfl; exact rfl; all_goals (intros; try (exfalso; omega))) | (apply Wl.splitB; exact rfl; exact rfl; all_goals intros) | (apply St.condP; exact rfl; all_goals (intros; try (exfalso; omega))) | (apply St.condB; exact rfl; all_goals intros))
    apply Wl.callQQ
    exact rfl
    (repeat (first | exact Evs.nil | apply Evs.cons rfl))
    · intro wq hq
      refine (refOver (a * a2 % m) m wq hm hodd (hlt _)).mono ?_
      rintro e wr ⟨rfl, hr⟩
      exact ⟨rfl, hq.keep hr⟩
    repeat' (first | (apply Wl.on; exact rfl; exact rfl; (first | with_reducible rfl | with_reducible assumption | decide)) | (apply Wl.splitP; exact rfl; exact rfl; all_goals (intros; try (exfalso; omega))) | (apply Wl.splitB; exact rfl; exact rfl; all_goals intros) | (apply St.condP; exact rfl; all_goals (intros; try (exfalso; omega))) | (apply St.condB; exact rfl; all_goals intros))
    apply Wl.callQQ
    exact rfl
    (repeat (first | exact Evs.nil | apply Evs.cons rfl))
    · intro wq hq
      refine (likeTrue q18 (hltW _) wq).mono ?_
      rintro e wr ⟨rfl, hr⟩
      exact ⟨rfl, hq.keep hr⟩
    repeat' (first | (apply Wl.assign; exact rfl; exact rfl) | (apply Wl.pickT; exact rfl; exact rfl; (first | with_reducible rfl | with_reducible assumption | decide); exact rfl) | (apply Wl.nilQ) | (apply St.ret) | (apply Gt.next) | (apply Gt.out1; exact rfl; exact rfl; intro w' hp) | (apply Wl.splitP; exact rfl; exact rfl; all_goals (intros; try (exfalso; omega))) | (apply Wl.splitB; exact rfl; exact rfl; all_goals intros) | (apply St.condP; exact rfl; all_goals (intros; try (exfalso; omega))) | (apply St.condB; exact rfl; all_goals intros))
    exact ⟨rfl, hpFin hp hu (by simp; omega)⟩
  · have hdm : dg W32 m 0 % 2 = m % 2 := by rw [dg0_mod]; omega
    have h0l := dlt m 0
    refine ⟨_, _, rfl, hq.keep hr, ?_⟩
    clear hq hr
    by_cases hpar : m % 2 = 1
    · have h1 : m = 1 := Decidable.byContradiction fun h => hno ⟨hpar, h⟩
      repeat' (first | (apply Wl.indexA (j := 0); exact rfl; exact rfl; exact rfl; (decide)) | (apply Wl.buildN; exact rfl; (repeat (first | exact Parts.nil | apply Parts.cons rfl)); (repeat (first | apply Fills.nil | (apply Fills.one; exact rfl; exact rfl; (repeat (first | apply LSet.z | apply LSet.s))) | (apply Fills.agg; exact rfl; exact rfl; (repeat (first | apply LPut.s | apply LPut.z | apply LOver.nil | apply LOver.cons))))); (first | exact const8 1 (by decide) | exact const8 0 (by decide) | exact one16)) | (apply Wl.eqlA (b := decide (m = 1)); exact rfl; exact rfl; exact rfl; kernel_rfl; kernel_rfl; kernel_rfl; kernel_rfl; exact cell32 _ (dlt _); exact cell32 _ (dlt _); (first | exact d8_inj (by assumption) (by assumption) | exact d8_inj hm (by decide) | exact eqT (by first | rfl | assumption))) | (apply Wl.loadN; exact rfl; exact rfl; (repeat (first | exact List.Mem.head _ | apply List.Mem.tail)); (omega)) | (apply Wl.loadW; exact rfl; exact rfl; (repeat (first | exact List.Mem.head _ | apply List.Mem.tail)); exact rfl) | (apply Wl.remN (n := 2); exact rfl; exact rfl; exact rfl; (decide)) | (apply Wl.move; exact rfl; exact rfl) | (apply Wl.assign; exact rfl; exact rfl) | (apply Wl.on; exact rfl; exact rfl; (first | with_reducible rfl | with_reducible assumption | decide)) | (apply Wl.extract; exact rfl; exact rfl; exact rfl) | (apply Wl.pickF; exact rfl; exact rfl; (first | with_reducible rfl | with_reducible assumption | decide); exact rfl) | (apply Wl.eql; exact rfl; exact rfl; exact rfl) | (apply Wl.neq; exact rfl; exact rfl; exact rfl) | (apply Wl.nil) | (apply St.seq) | (apply St.region) | (apply St.condT; exact rfl; (first | with_reducible rfl | with_reducible assumption | decide)) | (apply St.ret) | (apply Gt.next) | (apply Gt.thenRet) | (apply Gt.out1; exact rfl; exact rfl; intro w' hp) | (apply Wl.splitP; exact rfl; exact rfl; all_goals (intros; try (exfalso; omega))) | (apply Wl.splitB; exact rfl; exact rfl; all_goals intros) | (apply St.condP; exact rfl; all_goals (intros; try (exfalso; omega))) | (apply St.condB; exact rfl; all_goals intros))
      exact ⟨by simp [h1], hp.drop (by simp; omega)⟩
    · repeat' (first | (apply Wl.indexA (j := 0); exact rfl; exact rfl; exact rfl; (decide)) | (apply Wl.loadN; exact rfl; exact rfl; (repeat (first | exact List.Mem.head _ | apply List.Mem.tail)); (omega)) | (apply Wl.remN (n := 2); exact rfl; exact rfl; exact rfl; (decide)) | (apply Wl.move; exact rfl; exact rfl) | (apply Wl.assign; exact rfl; exact rfl) | (apply Wl.off; exact rfl; exact rfl; exact rfl; (first | with_reducible rfl | (show _ = false; with_reducible assumption) | (show _ = true; with_reducible assumption) | decide)) | (apply Wl.extract; exact rfl; exact rfl; exact rfl) | (apply Wl.pickT; exact rfl; exact rfl; (first | with_reducible rfl | with_reducible assumption | decide); exact rfl) | (apply Wl.eql; exact rfl; exact rfl; exact rfl) | (apply Wl.neq; exact rfl; exact rfl; exact rfl) | (apply Wl.nil) | (apply St.seq) | (apply St.region) | (apply St.condT; exact rfl; (first | with_reducible rfl | with_reducible assumption | decide)) | (apply St.ret) | (apply Gt.next) | (apply Gt.thenRet) | (apply Gt.out1; exact rfl; exact rfl; intro w' hp) | (apply Wl.splitP; exact rfl; exact rfl; all_goals (intros; try (exfalso; omega))) | (apply Wl.splitB; exact rfl; exact rfl; all_goals intros) | (apply St.condP; exact rfl; all_goals (intros; try (exfalso; omega))) | (apply St.condB; exact rfl; all_goals intros))
      exact ⟨rfl, hp.drop (by simp; omega)⟩
end Go.Proofs.Ythmechgccfjmdaa
