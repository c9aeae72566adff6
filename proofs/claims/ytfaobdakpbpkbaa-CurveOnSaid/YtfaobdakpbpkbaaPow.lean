/-
  mont.Mod: In, Out, One, Reduce, Modulus, Mul, Pow, Inv. Conditions: the receiver is a modulus that New made.
-/
import Derived.Test.YtfaobdakpbpkbaaLow
namespace Go.Proofs.Ytfaobdakpbpkbaa
open Go.RowKit Go.Pt
theorem in_eq {m a : Nat} (ho : m % 2 = 1) : (a % m) * (W256 * W256 % m) * rinv m % m = a * W256 % m := by
  have e : (a % m) * (W256 * W256 % m) * rinv m % m = a * W256 * W256 * rinv m % m := by
    rw [Nat.mul_assoc a]
    simp only [Nat.mul_mod, Nat.mod_mod]
  rw [e]; exact inW ho
set_option maxHeartbeats 1000000 in
theorem modIn (b m a : Nat) (w : World) (h : ModV w b m) (ha : a < W256) :
    Calls Try.prog 29 #[mp b, numV a] w fun e w' => e = .returned (numV (a * W256 % m)) ∧ Hp w [] w' := by
  have hb := h.blk
  refine enter (args := [_, _]) (Γ := [(0, _), (1, _)]) Try.func29 Try.ntmps29 rfl (of_decide_eq_true rfl) (.cons rfl (.cons rfl .nil)) ?_
  repeat' (first | (apply Wl.boxN; exact rfl; exact rfl; intro c hc ho) | (apply Wl.allocN; exact rfl; (first | exact z8 | exact z16 | exact z17 | exact z33 | exact z10); intro c hc ho) | (apply Wl.move; exact rfl; exact rfl) | (apply Wl.eqlPN; exact rfl; exact rfl; exact rfl) | (apply Wl.nil) | (apply St.seq) | (apply St.region) | (apply St.condF; exact rfl; (first | with_reducible rfl | with_reducible assumption | decide)) | (apply St.skip) | (apply Gt.next) | (apply Wl.splitP; exact rfl; exact rfl; all_goals (intros; try (exfalso; omega))) | (apply Wl.splitB; exact rfl; exact rfl; all_goals intros) | (apply St.condP; exact rfl; all_goals (intros; try (exfalso; omega))) | (apply St.condB; exact rfl; all_goals intros))
  refine St.tree (Hp w [_]) mixed (fun _ h => ⟨Hp.drew h, hpPop (Hp.drew h) (by simp only; omega)⟩) ?_
  have h2 := h.two
  refine Mt.pure 0 (by decide +kernel) (by exact rfl) (by exact rfl) (by decide +kernel) (by decide +kernel) ?_
  repeat' (first | (apply Wl.move; exact rfl; exact rfl) | (apply Wl.nilM) | (apply Wl.splitP; exact rfl; exact rfl; all_goals (intros; try (exfalso; omega))) | (apply Wl.splitB; exact rfl; exact rfl; all_goals intros) | (apply St.condP; exact rfl; all_goals (intros; try (exfalso; omega))) | (apply St.condB; exact rfl; all_goals intros))
  apply Mt.back
  refine Mt.pure 1 (by decide +kernel) (by exact rfl) (by exact rfl) (by decide +kernel) (by decide +kernel) ?_
  repeat' (first | (apply Wl.move; exact rfl; exact rfl) | (apply Wl.nilM) | (apply Wl.splitP; exact rfl; exact rfl; all_goals (intros; try (exfalso; omega))) | (apply Wl.splitB; exact rfl; exact rfl; all_goals intros) | (apply St.condP; exact rfl; all_goals (intros; try (exfalso; omega))) | (apply St.condB; exact rfl; all_goals intros))
  apply Mt.back
  refine Mt.pure 2 (by decide +kernel) (by exact rfl) (by exact rfl) (by decide +kernel) (by decide +kernel) ?_
  repeat' (first | (apply Wl.loadW; exact rfl; exact rfl; (repeat (first | exact List.Mem.head _ | apply List.Mem.tail)); exact rfl) | (apply Wl.nilM) | (apply Wl.splitP; exact rfl; exact rfl; all_goals (intros; try (exfalso; omega))) | (apply Wl.splitB; exact rfl; exact rfl; all_goals intros) | (apply St.condP; exact rfl; all_goals (intros; try (exfalso; omega))) | (apply St.condB; exact rfl; all_goals intros))
  apply Mt.back
  refine Mt.pure 4 (by decide +kernel) (by exact rfl) (by exact rfl) (by decide +kernel) (by decide +kernel) ?_
  repeat' (first | (apply Wl.move; exact rfl; exact rfl) | (apply Wl.nilM) | (apply Wl.splitP; exact rfl; exact rfl; all_goals (intros; try (exfalso; omega))) | (apply Wl.splitB; exact rfl; exact rfl; all_goals intros) | (apply St.condP; exact rfl; all_goals (intros; try (exfalso; omega))) | (apply St.condB; exact rfl; all_goals intros))
  apply Mt.back
  refine Mt.pure 5 (by decide +kernel) (by exact rfl) (by exact rfl) (by decide +kernel) (by decide +kernel) ?_
  repeat' (first | (apply Wl.nilCheck; exact rfl; exact rfl) | (apply Wl.nilM) | (apply Wl.splitP; exact rfl; exact rfl; all_goals (intros; try (exfalso; omega))) | (apply Wl.splitB; exact rfl; exact rfl; all_goals intros) | (apply St.condP; exact rfl; all_goals (intros; try (exfalso; omega))) | (apply St.condB; exact rfl; all_goals intros))
  apply Mt.back
  refine Mt.pure 6 (by decide +kernel) (by exact rfl) (by exact rfl) (by decide +kernel) (by decide +kernel) ?_
  repeat' (first | (apply Wl.fieldAddrZ; exact rfl; exact rfl) | (apply Wl.nilM) | (apply Wl.splitP; exact rfl; exact rfl; all_goals (intros; try (exfalso; omega))) | (apply Wl.splitB; exact rfl; exact rfl; all_goals intros) | (apply St.condP; exact rfl; all_goals (intros; try (exfalso; omega))) | (apply St.condB; exact rfl; all_goals intros))
  apply Mt.back
  refine Mt.pure 7 (by decide +kernel) (by exact rfl) (by exact rfl) (by decide +kernel) (by decide +kernel) ?_
  repeat' (first | (apply Wl.loadM; exact rfl; exact rfl; exact h2; (apply Off.of; simp; omega); exact rfl) | (apply Wl.nilM) | (apply Wl.splitP; exact rfl; exact rfl; all_goals (intros; try (exfalso; omega))) | (apply Wl.splitB; exact rfl; exact rfl; all_goals intros) | (apply St.condP; exact rfl; all_goals (intros; try (exfalso; omega))) | (apply St.condB; exact rfl; all_goals intros))
  apply Mt.back
  refine Mt.eff1 (i := 3) (by decide +kernel) (by exact rfl) ?_
  apply Wl.callQ
  exact rfl
  (repeat (first | exact Evs.nil | apply Evs.cons rfl))
  · intro wq hq
    refine (modLow b m a wq (h.mod.hp hq (by apply Off.of; simp; omega)) h.lt h.gt ha).mono ?_
    rintro e wr ⟨rfl, hr⟩
    exact ⟨rfl, hq.keep hr⟩
  repeat' (first | (apply Wl.nil) | (apply Wl.splitP; exact rfl; exact rfl; all_goals (intros; try (exfalso; omega))) | (apply Wl.splitB; exact rfl; exact rfl; all_goals intros) | (apply St.condP; exact rfl; all_goals (intros; try (exfalso; omega))) | (apply St.condB; exact rfl; all_goals intros))
  refine Mt.backE (fun _ h => by first | exact h | exact hpPop h (by simp only; omega)) ?_
  refine Mt.eff1 (i := 8) (by decide +kernel) (by exact rfl) ?_
  have hm0 : 0 < m := by have := h.gt; omega
  apply Wl.callQ
  exact rfl
  (repeat (first | exact Evs.nil | apply Evs.cons rfl))
  · intro wq hq
    refine (modTimes' (h.hp hq (by apply Off.of; simp; omega)) (Nat.lt_trans (Nat.mod_lt a hm0) h.lt) (Nat.mod_lt (W256 * W256) hm0)).mono ?_
    rintro e wr ⟨rfl, hr⟩
    exact ⟨rfl, hq.keep hr⟩
  rw [in_eq h.odd]
  repeat' (first | (apply Wl.nil) | (apply Wl.splitP; exact rfl; exact rfl; all_goals (intros; try (exfalso; omega))) | (apply Wl.splitB; exact rfl; exact rfl; all_goals intros) | (apply St.condP; exact rfl; all_goals (intros; try (exfalso; omega))) | (apply St.condB; exact rfl; all_goals intros))
  refine Mt.backE (fun _ h => by first | exact h | exact hpPop h (by simp only; omega)) ?_
  refine Mt.eff1 (i := 9) (by decide +kernel) (by exact rfl) ?_
  repeat' (first | (apply Wl.storeW; exact rfl; exact rfl; (repeat (first | apply HSet.here | apply HSet.there)); exact rfl; (first | exact cellsN_len _ _ _ | exact rfl)) | (apply Wl.nil) | (apply Wl.splitP; exact rfl; exact rfl; all_goals (intros; try (exfalso; omega))) | (apply Wl.splitB; exact rfl; exact rfl; all_goals intros) | (apply St.condP; exact rfl; all_goals (intros; try (exfalso; omega))) | (apply St.condB; exact rfl; all_goals intros))
  refine Mt.backE (fun _ h => by first | exact h | exact hpPop h (by simp only; omega)) ?_
  refine Mt.toGt (by decide +kernel) ?_
  repeat' (first | (apply Gt.outN; exact rfl; infer_instance; exact rfl; (repeat (first | exact List.Mem.head _ | apply List.Mem.tail)); exact rfl; intro w' hp) | (apply St.ret) | (apply Gt.next) | (apply Wl.splitP; exact rfl; exact rfl; all_goals (intros; try (exfalso; omega))) | (apply Wl.splitB; exact rfl; exact rfl; all_goals intros) | (apply St.condP; exact rfl; all_goals (intros; try (exfalso; omega))) | (apply St.condB; exact rfl; all_goals intros))
  exact ⟨rfl, hp.drop (by simp; omega)⟩
set_option maxHeartbeats 1000000 in
theorem modOut (b m a : Nat) (w : World) (h : ModV w b m) (ha : a < W256) :
    Calls Try.prog 57 #[mp b, numV a] w fun e w' => e = .returned (numV (a * rinv m % m)) ∧ Hp w [] w' := by
  have hb := h.blk
  refine enter (args := [_, _]) (Γ := [(0, _), (1, _)]) Try.func57 Try.ntmps57 rfl (of_decide_eq_true rfl) (.cons rfl (.cons rfl .nil)) ?_
  repeat' (first | (apply Wl.loadW; exact rfl; exact rfl; (repeat (first | exact List.Mem.head _ | apply List.Mem.tail)); exact rfl) | (apply Wl.boxN; exact rfl; exact rfl; intro c hc ho) | (apply Wl.buildN; exact rfl; (repeat (first | exact Parts.nil | apply Parts.cons rfl)); (repeat (first | apply Fills.nil | (apply Fills.one; exact rfl; exact rfl; (repeat (first | apply LSet.z | apply LSet.s))) | (apply Fills.agg; exact rfl; exact rfl; (repeat (first | apply LPut.s | apply LPut.z | apply LOver.nil | apply LOver.cons))))); (first | exact one8 | exact zero8 | exact two8)) | (apply Wl.allocN; exact rfl; (first | exact z8 | exact z16 | exact z17 | exact z33 | exact z10); intro c hc ho) | (apply Wl.move; exact rfl; exact rfl) | (apply Wl.nil) | (apply St.seq) | (apply St.region) | (apply Gt.next) | (apply Wl.splitP; exact rfl; exact rfl; all_goals (intros; try (exfalso; omega))) | (apply Wl.splitB; exact rfl; exact rfl; all_goals intros) | (apply St.condP; exact rfl; all_goals (intros; try (exfalso; omega))) | (apply St.condB; exact rfl; all_goals intros))
  apply Wl.callQ
  exact rfl
  (repeat (first | exact Evs.nil | apply Evs.cons rfl))
  · intro wq hq
    refine (modTimes' (h.hp hq (by apply Off.of; simp; omega)) ha h.gt).mono ?_
    rintro e wr ⟨rfl, hr⟩
    exact ⟨rfl, hq.keep hr⟩
  rw [Nat.mul_one]
  repeat' (first | (apply Gt.outN; exact rfl; infer_instance; exact rfl; (repeat (first | exact List.Mem.head _ | apply List.Mem.tail)); exact rfl; intro w' hp) | (apply Wl.storeW; exact rfl; exact rfl; (repeat (first | apply HSet.here | apply HSet.there)); exact rfl; (first | exact cellsN_len _ _ _ | exact rfl)) | (apply Wl.nil) | (apply St.ret) | (apply Gt.next) | (apply Wl.splitP; exact rfl; exact rfl; all_goals (intros; try (exfalso; omega))) | (apply Wl.splitB; exact rfl; exact rfl; all_goals intros) | (apply St.condP; exact rfl; all_goals (intros; try (exfalso; omega))) | (apply St.condB; exact rfl; all_goals intros))
  exact ⟨rfl, hp.drop (by simp; omega)⟩
set_option maxHeartbeats 1000000 in
theorem modOne (b m : Nat) (w : World) (h : ModV w b m) :
    Calls Try.prog 40 #[mp b] w fun e w' => e = .returned (numV (W256 % m)) ∧ Hp w [] w' := by
  have hb := h.blk
  refine enter (args := [_]) (Γ := [(0, _)]) Try.func40 Try.ntmps40 rfl (of_decide_eq_true rfl) (.cons rfl .nil) ?_
  have h1 := h.one
  repeat' (first | (apply Wl.loadM; exact rfl; exact rfl; exact h1; (apply Off.of; simp; omega); exact rfl) | (apply Gt.outN; exact rfl; infer_instance; exact rfl; (repeat (first | exact List.Mem.head _ | apply List.Mem.tail)); exact rfl; intro w' hp) | (apply Wl.storeW; exact rfl; exact rfl; (repeat (first | apply HSet.here | apply HSet.there)); exact rfl; (first | exact cellsN_len _ _ _ | exact rfl)) | (apply Wl.allocN; exact rfl; (first | exact z8 | exact z16 | exact z17 | exact z33 | exact z10); intro c hc ho) | (apply Wl.move; exact rfl; exact rfl) | (apply Wl.nilCheck; exact rfl; exact rfl) | (apply Wl.fieldAddrZ; exact rfl; exact rfl) | (apply Wl.eqlPN; exact rfl; exact rfl; exact rfl) | (apply Wl.nil) | (apply St.seq) | (apply St.region) | (apply St.condF; exact rfl; (first | with_reducible rfl | with_reducible assumption | decide)) | (apply St.ret) | (apply St.skip) | (apply Gt.next) | (apply Wl.splitP; exact rfl; exact rfl; all_goals (intros; try (exfalso; omega))) | (apply Wl.splitB; exact rfl; exact rfl; all_goals intros) | (apply St.condP; exact rfl; all_goals (intros; try (exfalso; omega))) | (apply St.condB; exact rfl; all_goals intros))
  exact ⟨rfl, hp.drop (by simp; omega)⟩
set_option maxHeartbeats 1000000 in
theorem modModulus (b m : Nat) (w : World) (h : ModV w b m) :
    Calls Try.prog 34 #[mp b] w fun e w' => e = .returned (numV m) ∧ Hp w [] w' := by
  have hb := h.blk
  refine enter (args := [_]) (Γ := [(0, _)]) Try.func34 Try.ntmps34 rfl (of_decide_eq_true rfl) (.cons rfl .nil) ?_
  have h1 := h.mod
  repeat' (first | (apply Wl.loadM; exact rfl; exact rfl; exact h1; (apply Off.of; simp; omega); exact rfl) | (apply Gt.outN; exact rfl; infer_instance; exact rfl; (repeat (first | exact List.Mem.head _ | apply List.Mem.tail)); exact rfl; intro w' hp) | (apply Wl.storeW; exact rfl; exact rfl; (repeat (first | apply HSet.here | apply HSet.there)); exact rfl; (first | exact cellsN_len _ _ _ | exact rfl)) | (apply Wl.allocN; exact rfl; (first | exact z8 | exact z16 | exact z17 | exact z33 | exact z10); intro c hc ho) | (apply Wl.move; exact rfl; exact rfl) | (apply Wl.nilCheck; exact rfl; exact rfl) | (apply Wl.fieldAddr0; exact rfl; exact rfl) | (apply Wl.eqlPN; exact rfl; exact rfl; exact rfl) | (apply Wl.nil) | (apply St.seq) | (apply St.region) | (apply St.condF; exact rfl; (first | with_reducible rfl | with_reducible assumption | decide)) | (apply St.ret) | (apply St.skip) | (apply Gt.next) | (apply Wl.splitP; exact rfl; exact rfl; all_goals (intros; try (exfalso; omega))) | (apply Wl.splitB; exact rfl; exact rfl; all_goals intros) | (apply St.condP; exact rfl; all_goals (intros; try (exfalso; omega))) | (apply St.condB; exact rfl; all_goals intros))
  exact ⟨rfl, hp.drop (by simp; omega)⟩
theorem mul_eq {m a c : Nat} (ho : m % 2 = 1) : (a * W256 % m) * (c * W256 % m) * rinv m % m * rinv m % m = a * c % m := by
  have e : (a * W256 % m) * (c * W256 % m) * rinv m % m * rinv m % m = a * c * W256 * rinv m * (W256 * rinv m) % m := by
    rw [Nat.mod_mul_mod]
    have : a * c * W256 * rinv m * (W256 * rinv m) = (a * W256) * (c * W256) * rinv m * rinv m := by
      simp only [Nat.mul_assoc, Nat.mul_left_comm, Nat.mul_comm]
    rw [this]
    simp only [Nat.mul_mod, Nat.mod_mod]
  rw [e, ← Nat.mul_assoc]
  rw [show a * c * W256 * rinv m * W256 * rinv m = (a * c * W256 * rinv m) * W256 * rinv m from rfl, inW ho, inW ho]
/-- a to the k-th, in -/
def pw (m a k : Nat) : Nat := (a * rinv m) ^ k * W256 % m
theorem pw_zero (m a : Nat) : pw m a 0 = W256 % m := by simp [pw]
theorem pw_dbl {m a k : Nat} (ho : m % 2 = 1) : pw m a k * pw m a k * rinv m % m = pw m a (2 * k) := by
  unfold pw
  have e : (a * rinv m) ^ k * W256 % m * ((a * rinv m) ^ k * W256 % m) * rinv m % m = (a * rinv m) ^ (2 * k) * W256 * W256 * rinv m % m := by
    have : (a * rinv m) ^ (2 * k) * W256 * W256 * rinv m = ((a * rinv m) ^ k * W256) * ((a * rinv m) ^ k * W256) * rinv m := by
      rw [Nat.two_mul, Nat.pow_add]
      simp only [Nat.mul_assoc, Nat.mul_left_comm, Nat.mul_comm]
    rw [this]
    simp only [Nat.mul_mod, Nat.mod_mod]
  rw [e]; exact inW ho
theorem pw_one {m a k : Nat} : pw m a k * a * rinv m % m = pw m a (k + 1) := by
  unfold pw
  have : (a * rinv m) ^ (k + 1) * W256 = (a * rinv m) ^ k * W256 * a * rinv m := by
    rw [Nat.pow_succ]
    simp only [Nat.mul_assoc, Nat.mul_left_comm, Nat.mul_comm]
  rw [this]
  simp only [Nat.mul_mod, Nat.mod_mod]
set_option maxHeartbeats 1000000 in
theorem modPow (b m a n : Nat) (w : World) (h : ModV w b m) (ha : a < m) (hn : n < W256) :
    Calls Try.prog 61 #[mp b, numV a, numV n] w fun e w' => e = .returned (numV (pw m a n)) ∧ Hp w [] w' := by
  have hb := h.blk
  refine enter (args := [_, _, _]) (Γ := [(0, _), (1, _), (2, _)]) Try.func61 Try.ntmps61 rfl (of_decide_eq_true rfl) (.cons rfl (.cons rfl (.cons rfl .nil))) ?_
  have hm0 : 0 < m := by have := h.gt; omega
  have hlt := h.lt
  repeat' (first | (apply Wl.boxN; exact rfl; exact rfl; intro c hc ho) | (apply Wl.allocN; exact rfl; (first | exact z8 | exact z16 | exact z17 | exact z33 | exact z10); intro c hc ho) | (apply Wl.move; exact rfl; exact rfl) | (apply Wl.nil) | (apply St.seq) | (apply St.region) | (apply Gt.next) | (apply Wl.splitP; exact rfl; exact rfl; all_goals (intros; try (exfalso; omega))) | (apply Wl.splitB; exact rfl; exact rfl; all_goals intros) | (apply St.condP; exact rfl; all_goals (intros; try (exfalso; omega))) | (apply St.condB; exact rfl; all_goals intros))
  apply Wl.callQ
  exact rfl
  (repeat (first | exact Evs.nil | apply Evs.cons rfl))
  · intro wq hq
    refine (modOne b m wq (h.hp hq (by apply Off.of; simp; omega))).mono ?_
    rintro e wr ⟨rfl, hr⟩
    exact ⟨rfl, hq.keep hr⟩
  repeat' (first | (apply Wl.storeW; exact rfl; exact rfl; (repeat (first | apply HSet.here | apply HSet.there)); exact rfl; (first | exact cellsN_len _ _ _ | exact rfl)) | (apply Wl.allocN; exact rfl; (first | exact z8 | exact z16 | exact z17 | exact z33 | exact z10); intro c hc ho) | (apply Wl.assign; exact rfl; exact rfl) | (apply Wl.nil) | (apply St.seq) | (apply St.block) | (apply St.region) | (apply Gt.next) | (apply Wl.splitP; exact rfl; exact rfl; all_goals (intros; try (exfalso; omega))) | (apply Wl.splitB; exact rfl; exact rfl; all_goals intros) | (apply St.condP; exact rfl; all_goals (intros; try (exfalso; omega))) | (apply St.condB; exact rfl; all_goals intros))
  rename_i ca hca hoa cb hcb hob cr hcr hor
  generalize c = cx at *
  have e256 : n / 2 ^ 256 = 0 := Nat.div_eq_of_lt (Nat.lt_of_lt_of_eq hn (by decide))
  refine St.loop (σ := Nat) (fun k => k ≤ 256)
    (fun k => [(0, mp b), (4, mp ca), (5, mp cb), (6, mp cr), (7, mp cx), (8, .int .i64 ((k : Int) - 1))])
    (fun k => Hp w [⟨cx, cellsN .u32 8 (dg W32 (pw m a (n / 2 ^ k))), 24⟩, ⟨cr, cellsN .u32 8 fun _ => 0, 24⟩, ⟨cb, cellsN .u32 8 (dg W32 n), 24⟩, ⟨ca, cellsN .u32 8 (dg W32 a), 24⟩])
    (fun k => k) 256 (Nat.le_refl _) (by (repeat (first | exact Sub.nil | apply Sub.cons rfl))) (fun _ h => by
      show Hp w [⟨cx, cellsN .u32 8 (dg W32 (pw m a (n / 2 ^ 256))), _⟩, _, _, _] _
      rw [e256, pw_zero]; exact h) ?_
  intro k hk
  cases k with
  | zero =>
    rw [Nat.pow_zero, Nat.div_one]
    repeat' (first | (apply Gt.outN; exact rfl; infer_instance; exact rfl; (repeat (first | exact List.Mem.head _ | apply List.Mem.tail)); exact rfl; intro w' hp) | (apply Wl.loadW; exact rfl; exact rfl; (repeat (first | exact List.Mem.head _ | apply List.Mem.tail)); exact rfl) | (apply Wl.storeW; exact rfl; exact rfl; (repeat (first | apply HSet.here | apply HSet.there)); exact rfl; (first | exact cellsN_len _ _ _ | exact rfl)) | (apply Wl.move; exact rfl; exact rfl) | (apply Wl.geq; exact rfl; exact rfl; exact rfl) | (apply Wl.nil) | (apply St.seq) | (apply St.region) | (apply St.condF; exact rfl; (first | with_reducible rfl | with_reducible assumption | decide)) | (apply St.ret) | (apply St.exit) | (apply Gt.next) | (apply Gt.thenExit) | (apply Gt.inExit) | (apply Wl.splitP; exact rfl; exact rfl; all_goals (intros; try (exfalso; omega))) | (apply Wl.splitB; exact rfl; exact rfl; all_goals intros) | (apply St.condP; exact rfl; all_goals (intros; try (exfalso; omega))) | (apply St.condB; exact rfl; all_goals intros))
    exact ⟨rfl, hp.drop (by simp; omega)⟩
  | succ i =>
    have ei : (((i + 1 : Nat) : Int) - 1) = (i : Int) := by omega
    rw [ei]
    have hr (k : Nat) : pw m a k < m := Nat.mod_lt _ hm0
    have hst := bit_step n i
    generalize hre : n / 2 ^ (i + 1) = q at *
    repeat' (first | (apply Wl.loadW; exact rfl; exact rfl; (repeat (first | exact List.Mem.head _ | apply List.Mem.tail)); exact rfl) | (apply Wl.move; exact rfl; exact rfl) | (apply Wl.geq; exact rfl; exact rfl; exact rfl) | (apply Wl.nil) | (apply St.seq) | (apply St.block) | (apply St.region) | (apply St.skip) | (apply Gt.next) | (apply Wl.splitP; exact rfl; exact rfl; all_goals (intros; try (exfalso; omega))) | (apply Wl.splitB; exact rfl; exact rfl; all_goals intros) | (apply St.condP; exact rfl; all_goals (intros; try (exfalso; omega))) | (apply St.condB; exact rfl; all_goals intros))
    apply Wl.callQ
    exact rfl
    (repeat (first | exact Evs.nil | apply Evs.cons rfl))
    · intro wq hq
      refine (modTimes' (h.hp hq (by apply Off.of; simp; omega)) (Nat.lt_trans (hr q) hlt) (hr q)).mono ?_
      rintro e wr ⟨rfl, hr⟩
      exact ⟨rfl, hq.keep hr⟩
    rw [pw_dbl h.odd]
    repeat' (first | (apply Wl.loadW; exact rfl; exact rfl; (repeat (first | exact List.Mem.head _ | apply List.Mem.tail)); exact rfl) | (apply Wl.storeW; exact rfl; exact rfl; (repeat (first | apply HSet.here | apply HSet.there)); exact rfl; (first | exact cellsN_len _ _ _ | exact rfl)) | (apply Wl.move; exact rfl; exact rfl) | (apply Wl.nil) | (apply St.seq) | (apply St.region) | (apply Gt.next) | (apply Wl.splitP; exact rfl; exact rfl; all_goals (intros; try (exfalso; omega))) | (apply Wl.splitB; exact rfl; exact rfl; all_goals intros) | (apply St.condP; exact rfl; all_goals (intros; try (exfalso; omega))) | (apply St.condB; exact rfl; all_goals intros))
    apply Wl.callQ
    exact rfl
    (repeat (first | exact Evs.nil | apply Evs.cons rfl))
    · intro wq hq
      refine (limbBit n i (by omega) wq).mono ?_
      rintro e wr ⟨rfl, hr⟩
      exact ⟨rfl, hq.keep hr⟩
    have hb2 := Nat.mod_lt (n / 2 ^ i) (show 0 < 2 by decide)
    by_cases hbit : n / 2 ^ i % 2 = 1
    · rw [hbit] at hst
      rw [hbit]
      repeat' (first | (apply Wl.loadW; exact rfl; exact rfl; (repeat (first | exact List.Mem.head _ | apply List.Mem.tail)); exact rfl) | (apply Wl.move; exact rfl; exact rfl) | (apply Wl.eql; exact rfl; exact rfl; exact rfl) | (apply Wl.nil) | (apply St.region) | (apply St.condT; exact rfl; (first | with_reducible rfl | with_reducible assumption | decide)) | (apply Gt.next) | (apply Wl.splitP; exact rfl; exact rfl; all_goals (intros; try (exfalso; omega))) | (apply Wl.splitB; exact rfl; exact rfl; all_goals intros) | (apply St.condP; exact rfl; all_goals (intros; try (exfalso; omega))) | (apply St.condB; exact rfl; all_goals intros))
      apply Wl.callQ
      exact rfl
      (repeat (first | exact Evs.nil | apply Evs.cons rfl))
      · intro wq hq
        refine (modTimes' (h.hp hq (by apply Off.of; simp; omega)) (Nat.lt_trans (hr (2 * q)) hlt) ha).mono ?_
        rintro e wr ⟨rfl, hr⟩
        exact ⟨rfl, hq.keep hr⟩
      rw [pw_one, ← hst]
      repeat' (first | (apply Wl.storeW; exact rfl; exact rfl; (repeat (first | apply HSet.here | apply HSet.there)); exact rfl; (first | exact cellsN_len _ _ _ | exact rfl)) | (apply Wl.move; exact rfl; exact rfl) | (apply Wl.assign; exact rfl; exact rfl) | (apply Wl.subI; exact rfl; exact rfl; exact rfl; (constructor <;> omega)) | (apply Wl.nil) | (apply St.region) | (apply Gt.next) | (apply Gt.inNormal) | (apply Wl.splitP; exact rfl; exact rfl; all_goals (intros; try (exfalso; omega))) | (apply Wl.splitB; exact rfl; exact rfl; all_goals intros) | (apply St.condP; exact rfl; all_goals (intros; try (exfalso; omega))) | (apply St.condB; exact rfl; all_goals intros))
      apply Gt.round i
      rotate_left
      · simp
      · (repeat (first | exact Sub.nil | apply Sub.cons rfl))
      · exact fun _ h => h
      · omega
    · have hbit0 : n / 2 ^ i % 2 = 0 := by omega
      rw [hbit0, Nat.add_zero] at hst
      rw [hbit0, ← hst]
      repeat' (first | (apply Wl.move; exact rfl; exact rfl) | (apply Wl.assign; exact rfl; exact rfl) | (apply Wl.eql; exact rfl; exact rfl; exact rfl) | (apply Wl.subI; exact rfl; exact rfl; exact rfl; (constructor <;> omega)) | (apply Wl.nil) | (apply St.region) | (apply St.condF; exact rfl; (first | with_reducible rfl | with_reducible assumption | decide)) | (apply St.skip) | (apply Gt.next) | (apply Gt.inNormal) | (apply Wl.splitP; exact rfl; exact rfl; all_goals (intros; try (exfalso; omega))) | (apply Wl.splitB; exact rfl; exact rfl; all_goals intros) | (apply St.condP; exact rfl; all_goals (intros; try (exfalso; omega))) | (apply St.condB; exact rfl; all_goals intros))
      apply Gt.round i
      rotate_left
      · simp
      · (repeat (first | exact Sub.nil | apply Sub.cons rfl))
      · exact fun _ h => h
      · omega
end Go.Proofs.Ytfaobdakpbpkbaa
