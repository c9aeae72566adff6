/-
  MontPowers: the walk. Conditions: none.
-/
import Derived.Test.YthmechgccfjmdaaLaw03
namespace Go.Proofs.Ythmechgccfjmdaa
open Go.RowKit Go.Pt
theorem pw_out {m a e : Nat} (h : m % 2 = 1) : pw m (a * W256 % m) e * rinv m % m = a ^ e % m := by
  unfold pw
  rw [outIn h, Nat.pow_mod, outIn h, ← Nat.pow_mod]
theorem sq_eq (m x : Nat) (k : Nat) : x ^ k % m * (x ^ k % m) % m = x ^ (2 * k) % m := by rw [← Nat.mul_mod, ← Nat.pow_add, ← Nat.two_mul]
theorem sq_one (m x : Nat) (k : Nat) : x ^ k % m * (x % m) % m = x ^ (k + 1) % m := by rw [← Nat.mul_mod, Nat.pow_succ]
set_option maxHeartbeats 8000000 in
theorem powers03 (m a n : Nat) (w : World) (hm : m < W256) (ha : a < W256) (hn : n < 4294967296) : Calls Try.prog 4 #[numV m, numV a, .int .u32 n] w fun e w' => e = .returned (.bool true) ∧ Hp w [] w' := by
  refine enter (args := [_, _, _]) (Γ := [(0, _), (1, _), (2, _)]) Try.func4 Try.ntmps4 rfl (of_decide_eq_true rfl) (.cons rfl (.cons rfl (.cons rfl .nil))) ?_
  have hnW : n < W256 := Nat.lt_trans hn (by decide)
  repeat' (first | (apply Wl.boxN; exact rfl; exact rfl; intro c hc ho) | (apply Wl.assign; exact rfl; exact rfl) | (apply Wl.nil) | (apply St.seq) | (apply St.region) | (apply Gt.next) | (apply Wl.splitP; exact rfl; exact rfl; all_goals (intros; try (exfalso; omega))) | (apply Wl.splitB; exact rfl; exact rfl; all_goals intros) | (apply St.condP; exact rfl; all_goals (intros; try (exfalso; omega))) | (apply St.condB; exact rfl; all_goals intros))
  rename_i c3 h3 o3
  generalize c = c4 at *
  apply Wl.callQ
  exact rfl
  (repeat (first | exact Evs.nil | apply Evs.cons rfl))
  · intro wq hq
    refine (fit03 wq).mono ?_
    rintro e wr ⟨rfl, hr⟩
    exact ⟨rfl, hq.keep hr⟩
  repeat' (first | (apply Wl.loadW; exact rfl; exact rfl; (repeat (first | exact List.Mem.head _ | apply List.Mem.tail)); exact rfl) | (apply Wl.not; exact rfl; exact rfl) | (apply Wl.nil) | (apply St.seq) | (apply St.region) | (apply St.condF; exact rfl; (first | with_reducible rfl | with_reducible assumption | decide)) | (apply St.skip) | (apply Gt.next) | (apply Wl.splitP; exact rfl; exact rfl; all_goals (intros; try (exfalso; omega))) | (apply Wl.splitB; exact rfl; exact rfl; all_goals intros) | (apply St.condP; exact rfl; all_goals (intros; try (exfalso; omega))) | (apply St.condB; exact rfl; all_goals intros))
  apply Wl.callC
  exact rfl
  (repeat (first | exact Evs.nil | apply Evs.cons rfl))
  intro wq hq
  refine (modNew m hm wq).mono ?_
  have l0 := hq.own.lt (.head _)
  have l1 := hq.own.lt (.tail _ (.head _))
  simp only at l0 l1
  rintro e wr (⟨hodd, hne1, b, rfl, hb, hV, hr⟩ | ⟨hno, rfl, hr⟩)
  · have hu : Upd (fun k => w.heap.size ≤ k) w wr := hpOn (hq.keep hr) (Upd.refl _ _) (by simp; omega)
    have hbl := hV.blk
    have hgt := hV.gt
    have hm0 : 0 < m := by omega
    have hWm : W256 % m < W256 := Nat.lt_trans (Nat.mod_lt _ hm0) hm
    have hlt (x : Nat) : x % m < m := Nat.mod_lt _ hm0
    have hltW (x : Nat) : x % m < W256 := Nat.lt_trans (hlt x) hm
    have hdm : dg W32 m 0 % 2 = m % 2 := by rw [dg0_mod]; omega
    have h0l := dlt m 0
    refine ⟨_, _, rfl, hpRb (hq.keep hr), ?_⟩
    have hs1 := hu.size
    clear hq hr
    repeat' (first | (apply Wl.buildN; exact rfl; (repeat (first | exact Parts.nil | apply Parts.cons rfl)); (repeat (first | apply Fills.nil | (apply Fills.one; exact rfl; exact rfl; (repeat (first | apply LSet.z | apply LSet.s))) | (apply Fills.agg; exact rfl; exact rfl; (repeat (first | apply LPut.s | apply LPut.z | apply LOver.nil | apply LOver.cons))))); exact const8 n hn) | (apply Wl.loadW; exact rfl; exact rfl; (repeat (first | exact List.Mem.head _ | apply List.Mem.tail)); exact rfl) | (apply Wl.storeW; exact rfl; exact rfl; (repeat (first | apply HSet.here | apply HSet.there)); exact rfl; (first | exact cellsN_len _ _ _ | exact rfl)) | (apply Wl.allocN; exact rfl; (first | exact z8 | exact z16 | exact z17 | exact z33 | exact z10); intro c hc ho) | (apply Wl.move; exact rfl; exact rfl) | (apply Wl.assign; exact rfl; exact rfl) | (apply Wl.extract; exact rfl; exact rfl; exact rfl) | (apply Wl.neqIs; exact rfl; exact rfl; exact rfl; (first | with_reducible assumption | with_reducible rfl)) | (apply Wl.nil) | (apply St.seq) | (apply St.region) | (apply St.condF; exact rfl; (first | with_reducible rfl | with_reducible assumption | decide)) | (apply St.skip) | (apply Gt.next) | (apply Wl.splitP; exact rfl; exact rfl; all_goals (intros; try (exfalso; omega))) | (apply Wl.splitB; exact rfl; exact rfl; all_goals intros) | (apply St.condP; exact rfl; all_goals (intros; try (exfalso; omega))) | (apply St.condB; exact rfl; all_goals intros))
    apply Wl.callQ
    exact rfl
    (repeat (first | exact Evs.nil | apply Evs.cons rfl))
    · intro wq hq
      refine (refOf m wq).mono ?_
      rintro e wr ⟨rfl, hr⟩
      exact ⟨rfl, hq.keep hr⟩
    repeat' (first | (apply Wl.buildN; exact rfl; (repeat (first | exact Parts.nil | apply Parts.cons rfl)); (repeat (first | apply Fills.nil | (apply Fills.one; exact rfl; exact rfl; (repeat (first | apply LSet.z | apply LSet.s))) | (apply Fills.agg; exact rfl; exact rfl; (repeat (first | apply LPut.s | apply LPut.z | apply LOver.nil | apply LOver.cons))))); (first | exact const8 1 (by decide) | exact const8 0 (by decide) | exact one16)) | (apply Wl.loadW; exact rfl; exact rfl; (repeat (first | exact List.Mem.head _ | apply List.Mem.tail)); exact rfl) | (apply Wl.storeW; exact rfl; exact rfl; (repeat (first | apply HSet.here | apply HSet.there)); exact rfl; (first | exact cellsN_len _ _ _ | exact rfl)) | (apply Wl.allocN; exact rfl; (first | exact z8 | exact z16 | exact z17 | exact z33 | exact z10); intro c hc ho) | (apply Wl.nil) | (apply St.seq) | (apply St.region) | (apply Gt.next) | (apply Wl.splitP; exact rfl; exact rfl; all_goals (intros; try (exfalso; omega))) | (apply Wl.splitB; exact rfl; exact rfl; all_goals intros) | (apply St.condP; exact rfl; all_goals (intros; try (exfalso; omega))) | (apply St.condB; exact rfl; all_goals intros))
    apply Wl.callQ
    exact rfl
    (repeat (first | exact Evs.nil | apply Evs.cons rfl))
    · intro wq hq
      refine (refReduce 1 m wq (by decide) hm hm0).mono ?_
      rintro e wr ⟨rfl, hr⟩
      exact ⟨rfl, hq.keep hr⟩
    repeat' (first | (apply Wl.storeW; exact rfl; exact rfl; (repeat (first | apply HSet.here | apply HSet.there)); exact rfl; (first | exact cellsN_len _ _ _ | exact rfl)) | (apply Wl.allocN; exact rfl; (first | exact z8 | exact z16 | exact z17 | exact z33 | exact z10); intro c hc ho) | (apply Wl.nil) | (apply Gt.next) | (apply Wl.splitP; exact rfl; exact rfl; all_goals (intros; try (exfalso; omega))) | (apply Wl.splitB; exact rfl; exact rfl; all_goals intros) | (apply St.condP; exact rfl; all_goals (intros; try (exfalso; omega))) | (apply St.condB; exact rfl; all_goals intros))
    rename_i c9 h9 o9 c10 h10 o10
    generalize c = c11 at *
    have h11 : wr.heap.size ≤ c11 := by assumption
    refine St.cut (σ := Nat) (fun τ => wr.heap.size ≤ τ)
      (fun τ => [(2, .int .u32 n), (3, mp c3), (4, mp c4), (6, .bool false), (7, mp b), (9, mp c9), (10, mp c10), (11, mp c11), (12, mp τ)])
      (fun τ => Hp wr [⟨τ, cellsN .u64 16 (dg D16 (a % m)), 32⟩, ⟨c11, cellsN .u64 16 (dg D16 (1 % m)), 32⟩, ⟨c10, cellsN .u64 16 (dg D16 (m)), 32⟩, ⟨c9, cellsN .u32 8 (dg W32 (n)), 24⟩, ⟨c4, cellsN .u32 8 (dg W32 (a)), 24⟩, ⟨c3, cellsN .u32 8 (dg W32 (m)), 24⟩]) ?_ ?_
    · refine St.tree (Hp wr [_, _, _, _, _]) mixed (fun _ h => ⟨Hp.drew h, Hp.drew h⟩) ?_
      repeat' (first | (refine Mt.toGt (by decide +kernel) ?_) | (refine Mt.pure 0 (by decide +kernel) (by exact rfl) (by exact rfl) (by decide +kernel) (by decide +kernel) ?_) | (refine Mt.pure 2 (by decide +kernel) (by exact rfl) (by exact rfl) (by decide +kernel) (by decide +kernel) ?_) | (refine Mt.eff2 (i := 1) (j := 4) (by decide +kernel) (by exact rfl) (by exact rfl) ?_ ?_) | (refine Mt.eff2 (i := 3) (j := 4) (by decide +kernel) (by exact rfl) (by exact rfl) ?_ ?_) | (refine Mt.eff1 (i := 1) (by decide +kernel) (by exact rfl) ?_) | (refine Mt.eff1 (i := 3) (by decide +kernel) (by exact rfl) ?_) | (refine Mt.eff1 (i := 4) (by decide +kernel) (by exact rfl) ?_) | (refine Mt.eff1 (i := 5) (by decide +kernel) (by exact rfl) ?_) | (apply Mt.back) | (refine Mt.backE (fun _ h => by first | exact h | exact hpPop h (by simp only; omega) | exact hpPop (hpPop h (by simp only; omega)) (by simp only; omega)) ?_) | (apply Wl.callQ; exact rfl; (repeat (first | exact Evs.nil | apply Evs.cons rfl)); (intro wq hq; refine (refOf _ wq).mono ?_; rintro e wr ⟨rfl, hr⟩; exact ⟨rfl, hq.keep hr⟩)) | (apply Wl.callQ; exact rfl; (repeat (first | exact Evs.nil | apply Evs.cons rfl)); (intro wq hq; refine (refReduce a m wq ha hm hm0).mono ?_; rintro e wr ⟨rfl, hr⟩; exact ⟨rfl, hq.keep hr⟩)) | (apply Wl.loadW; exact rfl; exact rfl; (repeat (first | exact List.Mem.head _ | apply List.Mem.tail)); exact rfl) | (apply Wl.storeW; exact rfl; exact rfl; (repeat (first | apply HSet.here | apply HSet.there)); exact rfl; (first | exact cellsN_len _ _ _ | exact rfl)) | (apply Wl.allocN; exact rfl; (first | exact z8 | exact z16 | exact z17 | exact z33 | exact z10); intro c hc ho) | (apply Wl.nil) | (apply Wl.nilM) | (apply Wl.splitP; exact rfl; exact rfl; all_goals (intros; try (exfalso; omega))) | (apply Wl.splitB; exact rfl; exact rfl; all_goals intros) | (apply St.condP; exact rfl; all_goals (intros; try (exfalso; omega))) | (apply St.condB; exact rfl; all_goals intros))
      all_goals
        apply Gt.meet
        rotate_left
        · (repeat (first | exact Sub.nil | apply Sub.cons rfl))
        · exact fun _ h => h
        · assumption
    intro c12 h12
    have e32 : n / 2 ^ 32 = 0 := Nat.div_eq_of_lt hn
    repeat' (first | (apply Wl.assign; exact rfl; exact rfl) | (apply Wl.nil) | (apply St.seq) | (apply St.block) | (apply St.region) | (apply Gt.next) | (apply Wl.splitP; exact rfl; exact rfl; all_goals (intros; try (exfalso; omega))) | (apply Wl.splitB; exact rfl; exact rfl; all_goals intros) | (apply St.condP; exact rfl; all_goals (intros; try (exfalso; omega))) | (apply St.condB; exact rfl; all_goals intros))
    refine St.loop (σ := Nat) (fun k => k ≤ 32)
      (fun k => [(2, .int .u32 n), (4, mp c4), (6, .bool false), (7, mp b), (9, mp c9), (10, mp c10), (11, mp c11), (12, mp c12), (13, .int .i64 ((k : Int) - 1))])
      (fun k => Hp wr [⟨c12, cellsN .u64 16 (dg D16 (a % m)), 32⟩, ⟨c11, cellsN .u64 16 (dg D16 (a ^ (n / 2 ^ k) % m)), 32⟩, ⟨c10, cellsN .u64 16 (dg D16 (m)), 32⟩, ⟨c9, cellsN .u32 8 (dg W32 (n)), 24⟩, ⟨c4, cellsN .u32 8 (dg W32 (a)), 24⟩, ⟨c3, cellsN .u32 8 (dg W32 (m)), 24⟩])
      (fun k => k) 32 (Nat.le_refl _) (by (repeat (first | exact Sub.nil | apply Sub.cons rfl))) (fun _ h => by
        show Hp wr [_, ⟨c11, cellsN .u64 16 (dg D16 (a ^ (n / 2 ^ 32) % m)), _⟩, _, _, _, _] _
        rw [e32, Nat.pow_zero]; exact h) ?_
    intro k hk
    cases k with
    | zero =>
      rw [Nat.pow_zero, Nat.div_one]
      repeat' (first | (apply Wl.loadW; exact rfl; exact rfl; (repeat (first | exact List.Mem.head _ | apply List.Mem.tail)); exact rfl) | (apply Wl.move; exact rfl; exact rfl) | (apply Wl.geq; exact rfl; exact rfl; exact rfl) | (apply Wl.nil) | (apply St.seq) | (apply St.region) | (apply St.draw; exact mixed; (kernel_rfl); exact (fun _ h => Hp.drew h)) | (apply St.condF; exact rfl; (first | with_reducible rfl | with_reducible assumption | decide)) | (apply St.exit) | (apply Gt.next) | (apply Gt.thenExit) | (apply Gt.inExit) | (apply Wl.splitP; exact rfl; exact rfl; all_goals (intros; try (exfalso; omega))) | (apply Wl.splitB; exact rfl; exact rfl; all_goals intros) | (apply St.condP; exact rfl; all_goals (intros; try (exfalso; omega))) | (apply St.condB; exact rfl; all_goals intros))
      apply Wl.callQQ
      exact rfl
      (repeat (first | exact Evs.nil | apply Evs.cons rfl))
      · intro wq hq
        refine (modIn b m a wq (hV.hp hq (by apply Off.of; simp <;> omega)) ha).mono ?_
        rintro e wr ⟨rfl, hr⟩
        exact ⟨rfl, hq.keep hr⟩
      repeat' (first | (apply Wl.loadW; exact rfl; exact rfl; (repeat (first | exact List.Mem.head _ | apply List.Mem.tail)); exact rfl) | (apply Wl.splitP; exact rfl; exact rfl; all_goals (intros; try (exfalso; omega))) | (apply Wl.splitB; exact rfl; exact rfl; all_goals intros) | (apply St.condP; exact rfl; all_goals (intros; try (exfalso; omega))) | (apply St.condB; exact rfl; all_goals intros))
      apply Wl.callQQ
      exact rfl
      (repeat (first | exact Evs.nil | apply Evs.cons rfl))
      · intro wq hq
        refine (modPow b m _ n wq (hV.hp hq (by apply Off.of; simp <;> omega)) (hlt _) hnW).mono ?_
        rintro e wr ⟨rfl, hr⟩
        exact ⟨rfl, hq.keep hr⟩
      repeat' (first | (apply Wl.splitP; exact rfl; exact rfl; all_goals (intros; try (exfalso; omega))) | (apply Wl.splitB; exact rfl; exact rfl; all_goals intros) | (apply St.condP; exact rfl; all_goals (intros; try (exfalso; omega))) | (apply St.condB; exact rfl; all_goals intros))
      apply Wl.callQQ
      exact rfl
      (repeat (first | exact Evs.nil | apply Evs.cons rfl))
      · intro wq hq
        refine (modOut b m (pw m (a * W256 % m) n) wq (hV.hp hq (by apply Off.of; simp <;> omega)) (hltW _)).mono ?_
        rintro e wr ⟨rfl, hr⟩
        exact ⟨rfl, hq.keep hr⟩
      rw [pw_out hodd]
      repeat' (first | (apply Wl.loadW; exact rfl; exact rfl; (repeat (first | exact List.Mem.head _ | apply List.Mem.tail)); exact rfl) | (apply Wl.splitP; exact rfl; exact rfl; all_goals (intros; try (exfalso; omega))) | (apply Wl.splitB; exact rfl; exact rfl; all_goals intros) | (apply St.condP; exact rfl; all_goals (intros; try (exfalso; omega))) | (apply St.condB; exact rfl; all_goals intros))
      apply Wl.callQQ
      exact rfl
      (repeat (first | exact Evs.nil | apply Evs.cons rfl))
      · intro wq hq
        refine (likeTrue (a := a ^ n % m) (b := a ^ n % m) rfl (hltW _) wq).mono ?_
        rintro e wr ⟨rfl, hr⟩
        exact ⟨rfl, hq.keep hr⟩
      repeat' (first | (apply Wl.assign; exact rfl; exact rfl) | (apply Wl.nilQ) | (apply St.ret) | (apply Gt.next) | (apply Gt.out1; exact rfl; exact rfl; intro w' hp) | (apply Wl.splitP; exact rfl; exact rfl; all_goals (intros; try (exfalso; omega))) | (apply Wl.splitB; exact rfl; exact rfl; all_goals intros) | (apply St.condP; exact rfl; all_goals (intros; try (exfalso; omega))) | (apply St.condB; exact rfl; all_goals intros))
      exact ⟨rfl, hpFin hp hu (by simp; omega)⟩
    | succ i =>
      have ei : (((i + 1 : Nat) : Int) - 1) = (i : Int) := by omega
      rw [ei]
      have hst := bit_step n i
      generalize hre : n / 2 ^ (i + 1) = q at *
      repeat' (first | (apply Wl.loadW; exact rfl; exact rfl; (repeat (first | exact List.Mem.head _ | apply List.Mem.tail)); exact rfl) | (apply Wl.move; exact rfl; exact rfl) | (apply Wl.geq; exact rfl; exact rfl; exact rfl) | (apply Wl.nil) | (apply St.seq) | (apply St.block) | (apply St.region) | (apply St.skip) | (apply Gt.next) | (apply Wl.splitP; exact rfl; exact rfl; all_goals (intros; try (exfalso; omega))) | (apply Wl.splitB; exact rfl; exact rfl; all_goals intros) | (apply St.condP; exact rfl; all_goals (intros; try (exfalso; omega))) | (apply St.condB; exact rfl; all_goals intros))
      apply Wl.callQ
      exact rfl
      (repeat (first | exact Evs.nil | apply Evs.cons rfl))
      · intro wq hq
        refine (refMul (a ^ q % m) (a ^ q % m) m wq (hltW _) (hltW _) hm hm0).mono ?_
        rintro e wr ⟨rfl, hr⟩
        exact ⟨rfl, hq.keep hr⟩
      rw [sq_eq]
      have hb2 := Nat.mod_lt (n / 2 ^ i) (show 0 < 2 by decide)
      by_cases hbit : n / 2 ^ i % 2 = 1
      · rw [hbit] at hst
        repeat' (first | (apply Wl.loadW; exact rfl; exact rfl; (repeat (first | exact List.Mem.head _ | apply List.Mem.tail)); exact rfl) | (apply Wl.storeW; exact rfl; exact rfl; (repeat (first | apply HSet.here | apply HSet.there)); exact rfl; (first | exact cellsN_len _ _ _ | exact rfl)) | (apply Wl.and1; exact rfl; exact rfl; exact rfl; exact rfl; (first | exact wrap2_u32 | exact wrap2_u64 | exact wrap2_i64)) | (apply Wl.shrV; exact rfl; exact rfl; exact rfl; (first | (show _ ≤ 32; omega) | (show _ ≤ 64; omega))) | (apply Wl.move; exact rfl; exact rfl) | (apply Wl.eql; exact rfl; exact rfl; exact rfl) | (apply Wl.nil) | (apply St.seq) | (apply St.region) | (apply Gt.next) | (apply Wl.splitP; exact rfl; exact rfl; all_goals (intros; try (exfalso; omega))) | (apply Wl.splitB; exact rfl; exact rfl; all_goals intros) | (apply St.condP; exact rfl; all_goals (intros; try (exfalso; omega))) | (apply St.condB; exact rfl; all_goals intros))
        apply Wl.callQ
        exact rfl
        (repeat (first | exact Evs.nil | apply Evs.cons rfl))
        · intro wq hq
          refine (refMul (a ^ (2 * q) % m) (a % m) m wq (hltW _) (hltW _) hm hm0).mono ?_
          rintro e wr ⟨rfl, hr⟩
          exact ⟨rfl, hq.keep hr⟩
        rw [sq_one, ← hst]
        repeat' (first | (apply Wl.storeW; exact rfl; exact rfl; (repeat (first | apply HSet.here | apply HSet.there)); exact rfl; (first | exact cellsN_len _ _ _ | exact rfl)) | (apply Wl.move; exact rfl; exact rfl) | (apply Wl.assign; exact rfl; exact rfl) | (apply Wl.subI; exact rfl; exact rfl; exact rfl; (constructor <;> omega)) | (apply Wl.nil) | (apply St.region) | (apply Gt.next) | (apply Gt.inNormal) | (apply Wl.splitP; exact rfl; exact rfl; all_goals (intros; try (exfalso; omega))) | (apply Wl.splitB; exact rfl; exact rfl; all_goals intros) | (apply St.condP; exact rfl; all_goals (intros; try (exfalso; omega))) | (apply St.condB; exact rfl; all_goals intros))
        apply Gt.round i
        rotate_left
        · simp
        · (repeat (first | exact Sub.nil | apply Sub.cons rfl))
        · exact fun _ h => h
        · omega
      · have hbit0 : n / 2 ^ i % 2 = 0 := by omega
        rw [hbit0, Nat.add_zero] at hst
        rw [← hst]
        repeat' (first | (apply Wl.storeW; exact rfl; exact rfl; (repeat (first | apply HSet.here | apply HSet.there)); exact rfl; (first | exact cellsN_len _ _ _ | exact rfl)) | (apply Wl.and1; exact rfl; exact rfl; exact rfl; exact rfl; (first | exact wrap2_u32 | exact wrap2_u64 | exact wrap2_i64)) | (apply Wl.shrV; exact rfl; exact rfl; exact rfl; (first | (show _ ≤ 32; omega) | (show _ ≤ 64; omega))) | (apply Wl.move; exact rfl; exact rfl) | (apply Wl.assign; exact rfl; exact rfl) | (apply Wl.eql; exact rfl; exact rfl; exact rfl) | (apply Wl.subI; exact rfl; exact rfl; exact rfl; (constructor <;> omega)) | (apply Wl.nil) | (apply St.seq) | (apply St.region) | (apply St.skip) | (apply Gt.next) | (apply Gt.inNormal) | (apply Wl.splitP; exact rfl; exact rfl; all_goals (intros; try (exfalso; omega))) | (apply Wl.splitB; exact rfl; exact rfl; all_goals intros) | (apply St.condP; exact rfl; all_goals (intros; try (exfalso; omega))) | (apply St.condB; exact rfl; all_goals intros))
        apply Gt.round i
        rotate_left
        · simp
        · (repeat (first | exact Sub.nil | apply Sub.cons rfl))
        · exact fun _ h => h
        · omega
  · refine ⟨_, _, rfl, hq.keep hr, ?_⟩
    clear hq hr
    repeat' (first | (apply Wl.move; exact rfl; exact rfl) | (apply Wl.assign; exact rfl; exact rfl) | (apply Wl.extract; exact rfl; exact rfl; exact rfl) | (apply Wl.neq; exact rfl; exact rfl; exact rfl) | (apply Wl.nil) | (apply St.seq) | (apply St.region) | (apply St.condT; exact rfl; (first | with_reducible rfl | with_reducible assumption | decide)) | (apply St.ret) | (apply Gt.next) | (apply Gt.thenRet) | (apply Gt.out1; exact rfl; exact rfl; intro w' hp) | (apply Wl.splitP; exact rfl; exact rfl; all_goals (intros; try (exfalso; omega))) | (apply Wl.splitB; exact rfl; exact rfl; all_goals intros) | (apply St.condP; exact rfl; all_goals (intros; try (exfalso; omega))) | (apply St.condB; exact rfl; all_goals intros))
    exact ⟨rfl, hp.drop (by simp; omega)⟩
end Go.Proofs.Ythmechgccfjmdaa
