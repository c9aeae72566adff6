/-
  mont.Mod: low, In, Out, One, Reduce, Modulus, Mul, Pow, Inv. Conditions: the receiver is a modulus that New made.
-/
import Derived.Test.YtfaobdakpbpkbaaTimes
namespace Go.Proofs.Ytfaobdakpbpkbaa
open Go.RowKit Go.Pt
structure ModV (w : World) (b m : Nat) : Prop where
  neg : ∃ neg : Nat, w.cell? ⟨b, 8, none⟩ = some (.int .u32 neg) ∧ (m * neg + 1) % 4294967296 = 0
  mod : ArrAt w b 0 .u32 8 (dg W32 m)
  one : ArrAt w b 9 .u32 8 (dg W32 (W256 % m))
  two : ArrAt w b 17 .u32 8 (dg W32 (W256 * W256 % m))
  lt : m < W256
  odd : m % 2 = 1
  gt : 1 < m
theorem ModV.upd {S : Nat → Prop} {w w' : World} {b m : Nat} (h : ModV w b m) (u : Upd S w w') (hs : ¬ S b) : ModV w' b m := by
  obtain ⟨⟨neg, h1, h2⟩, h3, h4, h5, h6, h7, h8⟩ := h
  exact ⟨⟨neg, u.cell h1 hs, h2⟩, h3.upd u hs, h4.upd u hs, h5.upd u hs, h6, h7, h8⟩
theorem ModV.hp {w w' : World} {H : List Blk} {b m : Nat} (h : ModV w b m) (u : Hp w H w') (hs : Off H b) : ModV w' b m := h.upd u.upd fun y => y hs
theorem ModV.blk {w : World} {b m : Nat} (h : ModV w b m) : b < w.heap.size := h.mod.lt (by decide)
theorem modTimes' {b m x y : Nat} {w : World} (h : ModV w b m) (hx : x < W256) (hy : y < m) :
    Calls Try.prog 37 #[mp b, numV x, numV y] w fun e w' => e = .returned (numV (x * y * rinv m % m)) ∧ Hp w [] w' := by
  obtain ⟨⟨neg, h1, h2⟩, h3, _, _, h6, h7, _⟩ := h
  exact modTimes b m neg x y w h3 h1 h2 h6 h7 hx hy
theorem z0 : cellsN .u32 8 (fun _ => 0) = cellsN .u32 8 (dg W32 0) := cellsN_congr fun j _ => by unfold dg hi; simp
set_option maxHeartbeats 1000000 in
theorem modLow (b m a : Nat) (w : World) (hM : ArrAt w b 0 .u32 8 (dg W32 m)) (hm : m < W256) (h1 : 1 < m) (ha : a < W256) :
    Calls Try.prog 48 #[mp b, numV a] w fun e w' => e = .returned (numV (a % m)) ∧ Hp w [] w' := by
  have hb := hM.lt (by decide)
  refine enter (args := [_, _]) (Γ := [(0, _), (1, _)]) Try.func48 Try.ntmps48 rfl (of_decide_eq_true rfl) (.cons rfl (.cons rfl .nil)) ?_
  repeat' (first | (apply Wl.loadM; exact rfl; exact rfl; exact hM; (apply Off.of; simp; omega); exact rfl) | (apply Wl.loadW; exact rfl; exact rfl; (repeat (first | exact List.Mem.head _ | apply List.Mem.tail)); exact rfl) | (apply Wl.boxN; exact rfl; exact rfl; intro c hc ho) | (apply Wl.allocN; exact rfl; (first | exact z8 | exact z16 | exact z17 | exact z33 | exact z10); intro c hc ho) | (apply Wl.move; exact rfl; exact rfl) | (apply Wl.nilCheck; exact rfl; exact rfl) | (apply Wl.fieldAddr0; exact rfl; exact rfl) | (apply Wl.nil) | (apply St.seq) | (apply St.region) | (apply St.draw; exact mixed; (kernel_rfl); exact (fun _ h => Hp.drew h)) | (apply Gt.next) | (apply Wl.splitP; exact rfl; exact rfl; all_goals (intros; try (exfalso; omega))) | (apply Wl.splitB; exact rfl; exact rfl; all_goals intros) | (apply St.condP; exact rfl; all_goals (intros; try (exfalso; omega))) | (apply St.condB; exact rfl; all_goals intros))
  apply Wl.callQQ
  exact rfl
  (repeat (first | exact Evs.nil | apply Evs.cons rfl))
  · intro wq hq
    refine (limbCompare a m ha hm wq).mono ?_
    rintro e wr ⟨rfl, hr⟩
    exact ⟨rfl, hq.keep hr⟩
  by_cases hlt : a < m
  · have e : cmpN a m = -1 := if_pos hlt
    rw [e]
    repeat' (first | (apply Gt.outN; exact rfl; infer_instance; exact rfl; (repeat (first | exact List.Mem.head _ | apply List.Mem.tail)); exact rfl; intro w' hp) | (apply Wl.loadW; exact rfl; exact rfl; (repeat (first | exact List.Mem.head _ | apply List.Mem.tail)); exact rfl) | (apply Wl.storeW; exact rfl; exact rfl; (repeat (first | apply HSet.here | apply HSet.there)); exact rfl; (first | exact cellsN_len _ _ _ | exact rfl)) | (apply Wl.lss; exact rfl; exact rfl; exact rfl) | (apply Wl.nil) | (apply Wl.nilQ) | (apply St.seq) | (apply St.region) | (apply St.condT; exact rfl; (first | with_reducible rfl | with_reducible assumption | decide)) | (apply St.ret) | (apply Gt.next) | (apply Gt.thenRet) | (apply Wl.splitP; exact rfl; exact rfl; all_goals (intros; try (exfalso; omega))) | (apply Wl.splitB; exact rfl; exact rfl; all_goals intros) | (apply St.condP; exact rfl; all_goals (intros; try (exfalso; omega))) | (apply St.condB; exact rfl; all_goals intros))
    refine ⟨?_, hp.drop (by simp; omega)⟩
    rw [Nat.mod_eq_of_lt hlt]
  have e : ¬ cmpN a m < 0 := by unfold cmpN; rw [if_neg hlt]; split <;> decide
  repeat' (first | (apply Wl.allocN; exact rfl; (first | exact z8 | exact z16 | exact z17 | exact z33 | exact z10); intro c hc ho) | (apply Wl.assign; exact rfl; exact rfl) | (apply Wl.lss; exact rfl; exact rfl; exact rfl) | (apply Wl.nil) | (apply Wl.nilQ) | (apply St.seq) | (apply St.block) | (apply St.region) | (apply St.skip) | (apply Gt.next) | (apply Wl.splitP; exact rfl; exact rfl; all_goals (intros; try (exfalso; omega))) | (apply Wl.splitB; exact rfl; exact rfl; all_goals intros) | (apply St.condP; exact rfl; all_goals (intros; try (exfalso; omega))) | (apply St.condB; exact rfl; all_goals intros))
  rename_i ca hca hoa cr hcr hor _ _
  generalize c = cx at *
  have e256 : a / 2 ^ 256 % m = 0 := by
    rw [Nat.div_eq_of_lt (Nat.lt_of_lt_of_eq ha (by decide)), Nat.zero_mod]
  refine St.loop (σ := Nat) (fun n => n ≤ 256)
    (fun n => [(0, mp b), (3, mp ca), (4, mp cr), (5, mp cx), (6, .int .i64 ((n : Int) - 1))])
    (fun n => Hp w [⟨cx, cellsN .u32 8 (dg W32 (a / 2 ^ n % m)), 24⟩, ⟨cr, cellsN .u32 8 fun _ => 0, 24⟩, ⟨ca, cellsN .u32 8 (dg W32 a), 24⟩])
    (fun n => n) 256 (Nat.le_refl _) (by (repeat (first | exact Sub.nil | apply Sub.cons rfl))) (fun _ h => by
      show Hp w [⟨cx, cellsN .u32 8 (dg W32 (a / 2 ^ 256 % m)), _⟩, _, _] _
      rw [e256, ← z0]; exact h) ?_
  intro n hn
  cases n with
  | zero =>
    rw [Nat.pow_zero, Nat.div_one]
    repeat' (first | (apply Gt.outN; exact rfl; infer_instance; exact rfl; (repeat (first | exact List.Mem.head _ | apply List.Mem.tail)); exact rfl; intro w' hp) | (apply Wl.loadW; exact rfl; exact rfl; (repeat (first | exact List.Mem.head _ | apply List.Mem.tail)); exact rfl) | (apply Wl.storeW; exact rfl; exact rfl; (repeat (first | apply HSet.here | apply HSet.there)); exact rfl; (first | exact cellsN_len _ _ _ | exact rfl)) | (apply Wl.move; exact rfl; exact rfl) | (apply Wl.geq; exact rfl; exact rfl; exact rfl) | (apply Wl.nil) | (apply St.seq) | (apply St.region) | (apply St.condF; exact rfl; (first | with_reducible rfl | with_reducible assumption | decide)) | (apply St.ret) | (apply St.exit) | (apply Gt.next) | (apply Gt.thenExit) | (apply Gt.inExit) | (apply Wl.splitP; exact rfl; exact rfl; all_goals (intros; try (exfalso; omega))) | (apply Wl.splitB; exact rfl; exact rfl; all_goals intros) | (apply St.condP; exact rfl; all_goals (intros; try (exfalso; omega))) | (apply St.condB; exact rfl; all_goals intros))
    exact ⟨rfl, hp.drop (by simp; omega)⟩
  | succ i =>
    have ei : (((i + 1 : Nat) : Int) - 1) = (i : Int) := by omega
    rw [ei]
    have hr := Nat.mod_lt (a / 2 ^ (i + 1)) (show 0 < m by omega)
    have hh := horner a m i
    generalize hre : a / 2 ^ (i + 1) % m = r at *
    repeat' (first | (apply Wl.loadW; exact rfl; exact rfl; (repeat (first | exact List.Mem.head _ | apply List.Mem.tail)); exact rfl) | (apply Wl.move; exact rfl; exact rfl) | (apply Wl.geq; exact rfl; exact rfl; exact rfl) | (apply Wl.nil) | (apply St.seq) | (apply St.block) | (apply St.region) | (apply St.skip) | (apply Gt.next) | (apply Wl.splitP; exact rfl; exact rfl; all_goals (intros; try (exfalso; omega))) | (apply Wl.splitB; exact rfl; exact rfl; all_goals intros) | (apply St.condP; exact rfl; all_goals (intros; try (exfalso; omega))) | (apply St.condB; exact rfl; all_goals intros))
    apply Wl.callQ
    exact rfl
    (repeat (first | exact Evs.nil | apply Evs.cons rfl))
    · intro wq hq
      refine (modAdd b m r r wq (hM.hp hq (by apply Off.of; simp; omega)) hm hr hr).mono ?_
      rintro e wr ⟨rfl, hr⟩
      exact ⟨rfl, hq.keep hr⟩
    repeat' (first | (apply Wl.loadW; exact rfl; exact rfl; (repeat (first | exact List.Mem.head _ | apply List.Mem.tail)); exact rfl) | (apply Wl.storeW; exact rfl; exact rfl; (repeat (first | apply HSet.here | apply HSet.there)); exact rfl; (first | exact cellsN_len _ _ _ | exact rfl)) | (apply Wl.move; exact rfl; exact rfl) | (apply Wl.nil) | (apply St.seq) | (apply St.region) | (apply Gt.next) | (apply Wl.splitP; exact rfl; exact rfl; all_goals (intros; try (exfalso; omega))) | (apply Wl.splitB; exact rfl; exact rfl; all_goals intros) | (apply St.condP; exact rfl; all_goals (intros; try (exfalso; omega))) | (apply St.condB; exact rfl; all_goals intros))
    apply Wl.callQ
    exact rfl
    (repeat (first | exact Evs.nil | apply Evs.cons rfl))
    · intro wq hq
      refine (limbBit a i (by omega) wq).mono ?_
      rintro e wr ⟨rfl, hr⟩
      exact ⟨rfl, hq.keep hr⟩
    have hb2 := Nat.mod_lt (a / 2 ^ i) (show 0 < 2 by decide)
    by_cases hbit : a / 2 ^ i % 2 = 1
    · rw [hbit]
      repeat' (first | (apply Wl.loadW; exact rfl; exact rfl; (repeat (first | exact List.Mem.head _ | apply List.Mem.tail)); exact rfl) | (apply Wl.buildN; exact rfl; (repeat (first | exact Parts.nil | apply Parts.cons rfl)); (repeat (first | apply Fills.nil | (apply Fills.one; exact rfl; exact rfl; (repeat (first | apply LSet.z | apply LSet.s))) | (apply Fills.agg; exact rfl; exact rfl; (repeat (first | apply LPut.s | apply LPut.z | apply LOver.nil | apply LOver.cons))))); (first | exact one8 | exact zero8 | exact two8)) | (apply Wl.move; exact rfl; exact rfl) | (apply Wl.eql; exact rfl; exact rfl; exact rfl) | (apply Wl.nil) | (apply St.region) | (apply St.condT; exact rfl; (first | with_reducible rfl | with_reducible assumption | decide)) | (apply Gt.next) | (apply Wl.splitP; exact rfl; exact rfl; all_goals (intros; try (exfalso; omega))) | (apply Wl.splitB; exact rfl; exact rfl; all_goals intros) | (apply St.condP; exact rfl; all_goals (intros; try (exfalso; omega))) | (apply St.condB; exact rfl; all_goals intros))
      apply Wl.callQ
      exact rfl
      (repeat (first | exact Evs.nil | apply Evs.cons rfl))
      · intro wq hq
        refine (modAdd b m ((r + r) % m) 1 wq (hM.hp hq (by apply Off.of; simp; omega)) hm (Nat.mod_lt _ (by omega)) h1).mono ?_
        rintro e wr ⟨rfl, hr⟩
        exact ⟨rfl, hq.keep hr⟩
      have e2 : ((r + r) % m + 1) % m = a / 2 ^ i % m := by rw [← hh, hbit, Nat.mod_add_mod, Nat.two_mul]
      rw [e2]
      repeat' (first | (apply Wl.storeW; exact rfl; exact rfl; (repeat (first | apply HSet.here | apply HSet.there)); exact rfl; (first | exact cellsN_len _ _ _ | exact rfl)) | (apply Wl.move; exact rfl; exact rfl) | (apply Wl.assign; exact rfl; exact rfl) | (apply Wl.subI; exact rfl; exact rfl; exact rfl; (constructor <;> omega)) | (apply Wl.nil) | (apply St.region) | (apply Gt.next) | (apply Gt.inNormal) | (apply Wl.splitP; exact rfl; exact rfl; all_goals (intros; try (exfalso; omega))) | (apply Wl.splitB; exact rfl; exact rfl; all_goals intros) | (apply St.condP; exact rfl; all_goals (intros; try (exfalso; omega))) | (apply St.condB; exact rfl; all_goals intros))
      apply Gt.round i
      rotate_left
      · simp
      · (repeat (first | exact Sub.nil | apply Sub.cons rfl))
      · exact fun _ h => h
      · omega
    · have hbit0 : a / 2 ^ i % 2 = 0 := by omega
      have e2 : (r + r) % m = a / 2 ^ i % m := by rw [← hh, hbit0, Nat.add_zero, Nat.two_mul]
      rw [hbit0, e2]
      repeat' (first | (apply Wl.move; exact rfl; exact rfl) | (apply Wl.assign; exact rfl; exact rfl) | (apply Wl.eql; exact rfl; exact rfl; exact rfl) | (apply Wl.subI; exact rfl; exact rfl; exact rfl; (constructor <;> omega)) | (apply Wl.nil) | (apply St.region) | (apply St.condF; exact rfl; (first | with_reducible rfl | with_reducible assumption | decide)) | (apply St.skip) | (apply Gt.next) | (apply Gt.inNormal) | (apply Wl.splitP; exact rfl; exact rfl; all_goals (intros; try (exfalso; omega))) | (apply Wl.splitB; exact rfl; exact rfl; all_goals intros) | (apply St.condP; exact rfl; all_goals (intros; try (exfalso; omega))) | (apply St.condB; exact rfl; all_goals intros))
      apply Gt.round i
      rotate_left
      · simp
      · (repeat (first | exact Sub.nil | apply Sub.cons rfl))
      · exact fun _ h => h
      · omega
end Go.Proofs.Ytfaobdakpbpkbaa
