/-
  6 texts, one behind the other; each says what it proves. Conditions: as each text says.
-/
import Derived.Test.YtfaobdakpbpkbaaDoorM06
import Derived.Test.YtfaobdakpbpkbaaDoorM04
section
/-
  sign.scalar, sign.Verify. Conditions: the message is short; its bytes, the key's and the signature's, are older than the call; the table of SHA-256 is laid.
-/
namespace Go.Proofs.YtfaobdakpbpkbaaDoor
open Go.RowKit Go.Pt
attribute [local irreducible] Prim.P256 Prim.N256
theorem ne8 {a b : Nat} (ha : a < W256) (hb : b < W256) (h : a ≠ b) : false = true ↔ ∀ j, j < 8 → dg W32 a j = dg W32 b j :=
  (show false = decide (a = b) from (decide_eq_false h).symm) ▸ d8_inj ha hb
theorem eq8 {a b : Nat} (h : a = b) : true = true ↔ ∀ j, j < 8 → dg W32 a j = dg W32 b j := ⟨fun _ _ _ => by rw [h], fun _ => rfl⟩
theorem hpTrS {w0 w1 w2 : World} {H : List Blk} {c t t' : Nat} {cs cs' : List Value} (h1 : Hp w0 (⟨c, cs, t⟩ :: H) w1) (h2 : Hp w1 (⟨c, cs', t'⟩ :: H) w2) (hx : w0.heap.size ≤ c) : Hp w0 H w2 :=
  hpPopS (x := ⟨c, cs', t'⟩) ⟨(show Upd (fun k => ¬ Off (⟨c, cs', t'⟩ :: H) k) w0 w1 from h1.upd).trans h2.upd, h2.own, h2.apart⟩ hx
theorem newModN (w : World) : Calls Tryd.prog 21 #[numV Prim.N256] w fun e w' => ∃ b, e = .returned (.tuple #[mp b, .int .i64 0]) ∧ w.heap.size ≤ b ∧ ModV w' b Prim.N256 ∧ Hp w [] w' := by
  refine (modNew Prim.N256 nW w).mono ?_
  rintro e w' (⟨_, _, b, h⟩ | ⟨h, _⟩)
  · exact ⟨b, h⟩
  · exact absurd ⟨n_odd, by decide +kernel⟩ h
theorem uv_eq {m a s k : Nat} (ho : m % 2 = 1) : a * W256 % m * pw m (s * W256 % m) k * rinv m % m * rinv m % m = a * pwm m s k % m := by
  rw [pw_in ho, in_mul ho, outIn ho]
  unfold pwm
  rw [Nat.mul_mod_mod]
def okS (n : Nat) : Bool := decide (n ≠ 0) && decide (n < Prim.N256)
theorem sigScalar (n : Nat) (w : World) (hn : n < W256) : Calls Tryd.prog 20 #[numV n] w fun e w' => e = .returned (.bool (okS n)) ∧ Hp w [] w' := by
  have hz := fun wq => limbZero n wq hn
  refine enter (args := [_]) (Γ := [(0, _)]) Tryd.func20 Tryd.ntmps20 rfl (of_decide_eq_true rfl) (.cons rfl .nil) ?_
  unfold okS
  have hcs : n = 0 ∨ (n ≠ 0 ∧ n < Prim.N256) ∨ (n ≠ 0 ∧ ¬ n < Prim.N256) := by omega
  rcases hcs with h0 | ⟨h0, h1⟩ | ⟨h0, h1⟩
  · rw [decide_eq_true h0] at hz
    rw [decide_eq_false (p := n ≠ 0) (fun h => h h0), Bool.false_and]
    repeat' (first | (apply St.bagX 9 [8]; exact mixed; (decide +kernel); kernel_rfl) | (apply OpsX.nil) | (apply OpsX.v; (intro X hX; change Wl [_] _ _ _ _ _ _ _; apply Wl.catX; (repeat (first | apply CatB.nil | apply CatB.cons)))) | (apply Gt.endX; exact rfl) | (apply EndX.on; exact rfl) | (apply EndX.off; exact rfl) | (apply EndX.nil'; apply Wl.catE; (repeat (first | apply CatB.nil | apply CatB.cons))) | (apply Wl.callQ (f := 55); exact rfl; (repeat (first | exact Evs.nil | apply Evs.cons rfl)); (intro wq hq; refine (hz wq).mono ?_; rintro e wr ⟨rfl, hr⟩; exact ⟨rfl, hq.keep hr⟩)) | (apply Wl.loadW; exact rfl; exact rfl; (repeat (first | exact List.Mem.head _ | apply List.Mem.tail)); exact rfl) | (apply Wl.boxN; exact rfl; exact rfl; intro c hc ho) | (apply Wl.move; exact rfl; exact rfl) | (apply Wl.assign; exact rfl; exact rfl) | (apply Wl.off; exact rfl; exact rfl; exact rfl; (first | with_reducible rfl | (show _ = false; with_reducible assumption) | (show _ = true; with_reducible assumption) | decide)) | (apply Wl.pickF; exact rfl; exact rfl; (first | with_reducible rfl | with_reducible assumption | decide); exact rfl) | (apply Wl.not; exact rfl; exact rfl) | (apply Wl.nil) | (apply St.seq) | (apply St.region) | (apply St.ret) | (apply Gt.next) | (apply Gt.out1; exact rfl; exact rfl; intro w' hp) | (apply Wl.splitP; exact rfl; exact rfl; all_goals (intros; try (exfalso; omega))) | (apply Wl.splitB; exact rfl; exact rfl; all_goals intros) | (apply St.condP; exact rfl; all_goals (intros; try (exfalso; omega))) | (apply St.condB; exact rfl; all_goals intros))
    exact ⟨rfl, hp.drop (by simp; omega)⟩
  · rw [decide_eq_false h0] at hz
    rw [decide_eq_true (p := n ≠ 0) h0, decide_eq_true h1, Bool.true_and]
    have hCmp : cmpN n Prim.N256 = -1 := cmp_lt h1
    repeat' (first | (apply St.bagX 9 [8]; exact mixed; (decide +kernel); kernel_rfl) | (apply OpsX.nil) | (apply OpsX.v; (intro X hX; change Wl [_] _ _ _ _ _ _ _; apply Wl.catX; (repeat (first | apply CatB.nil | apply CatB.cons)))) | (apply Gt.endX; exact rfl) | (apply EndX.on; exact rfl) | (apply EndX.off; exact rfl) | (apply EndX.nil'; apply Wl.catE; (repeat (first | apply CatB.nil | apply CatB.cons))) | (apply Wl.callQ (f := 55); exact rfl; (repeat (first | exact Evs.nil | apply Evs.cons rfl)); (intro wq hq; refine (hz wq).mono ?_; rintro e wr ⟨rfl, hr⟩; exact ⟨rfl, hq.keep hr⟩)) | (apply Wl.callQ (f := 22); exact rfl; (repeat (first | exact Evs.nil | apply Evs.cons rfl)); (intro wq hq; refine (curOrder wq).mono ?_; rintro e wr ⟨rfl, hr⟩; exact ⟨rfl, hq.keep hr⟩)) | (apply Wl.callQ (f := 56); exact rfl; (repeat (first | exact Evs.nil | apply Evs.cons rfl)); (intro wq hq; refine (gCmp hn nW hCmp wq).mono ?_; rintro e wr ⟨rfl, hr⟩; exact ⟨rfl, hq.keep hr⟩)) | (apply Wl.loadW; exact rfl; exact rfl; (repeat (first | exact List.Mem.head _ | apply List.Mem.tail)); exact rfl) | (apply Wl.boxN; exact rfl; exact rfl; intro c hc ho) | (apply Wl.move; exact rfl; exact rfl) | (apply Wl.assign; exact rfl; exact rfl) | (apply Wl.on; exact rfl; exact rfl; (first | with_reducible rfl | with_reducible assumption | decide)) | (apply Wl.pickT; exact rfl; exact rfl; (first | with_reducible rfl | with_reducible assumption | decide); exact rfl) | (apply Wl.not; exact rfl; exact rfl) | (apply Wl.lss; exact rfl; exact rfl; exact rfl) | (apply Wl.nil) | (apply St.seq) | (apply St.region) | (apply St.ret) | (apply Gt.next) | (apply Gt.out1; exact rfl; exact rfl; intro w' hp) | (apply Wl.splitP; exact rfl; exact rfl; all_goals (intros; try (exfalso; omega))) | (apply Wl.splitB; exact rfl; exact rfl; all_goals intros) | (apply St.condP; exact rfl; all_goals (intros; try (exfalso; omega))) | (apply St.condB; exact rfl; all_goals intros))
    exact ⟨rfl, hp.drop (by simp; omega)⟩
  · rw [decide_eq_false h0] at hz
    rw [decide_eq_true (p := n ≠ 0) h0, decide_eq_false h1, Bool.true_and]
    obtain ⟨q, hCmp⟩ : ∃ q, cmpN n Prim.N256 = q := ⟨_, rfl⟩
    have hq0 : 0 ≤ q := hCmp ▸ cmp_ge h1
    have hlt : decide (q < 0) = false := decide_eq_false (by omega)
    repeat' (first | (apply St.bagX 9 [8]; exact mixed; (decide +kernel); kernel_rfl) | (apply OpsX.nil) | (apply OpsX.v; (intro X hX; change Wl [_] _ _ _ _ _ _ _; apply Wl.catX; (repeat (first | apply CatB.nil | apply CatB.cons)))) | (apply Gt.endX; exact rfl) | (apply EndX.on; exact rfl) | (apply EndX.off; exact rfl) | (apply EndX.nil'; apply Wl.catE; (repeat (first | apply CatB.nil | apply CatB.cons))) | (apply Wl.callQ (f := 55); exact rfl; (repeat (first | exact Evs.nil | apply Evs.cons rfl)); (intro wq hq; refine (hz wq).mono ?_; rintro e wr ⟨rfl, hr⟩; exact ⟨rfl, hq.keep hr⟩)) | (apply Wl.callQ (f := 22); exact rfl; (repeat (first | exact Evs.nil | apply Evs.cons rfl)); (intro wq hq; refine (curOrder wq).mono ?_; rintro e wr ⟨rfl, hr⟩; exact ⟨rfl, hq.keep hr⟩)) | (apply Wl.callQ (f := 56); exact rfl; (repeat (first | exact Evs.nil | apply Evs.cons rfl)); (intro wq hq; refine (gCmp hn nW hCmp wq).mono ?_; rintro e wr ⟨rfl, hr⟩; exact ⟨rfl, hq.keep hr⟩)) | (apply Wl.loadW; exact rfl; exact rfl; (repeat (first | exact List.Mem.head _ | apply List.Mem.tail)); exact rfl) | (apply Wl.boxN; exact rfl; exact rfl; intro c hc ho) | (apply Wl.move; exact rfl; exact rfl) | (apply Wl.assign; exact rfl; exact rfl) | (apply Wl.on; exact rfl; exact rfl; (first | with_reducible rfl | with_reducible assumption | decide)) | (apply Wl.pickT; exact rfl; exact rfl; (first | with_reducible rfl | with_reducible assumption | decide); exact rfl) | (apply Wl.not; exact rfl; exact rfl) | (apply Wl.lss; exact rfl; exact rfl; exact rfl) | (apply Wl.nil) | (apply St.seq) | (apply St.region) | (apply St.ret) | (apply Gt.next) | (apply Gt.out1; exact rfl; exact rfl; intro w' hp) | (apply Wl.splitP; exact rfl; exact rfl; all_goals (intros; try (exfalso; omega))) | (apply Wl.splitB; exact rfl; exact rfl; all_goals intros) | (apply St.condP; exact rfl; all_goals (intros; try (exfalso; omega))) | (apply St.condB; exact rfl; all_goals intros))
    exact ⟨by rw [hlt], hp.drop (by simp; omega)⟩
theorem sKeyOk (v : Value) (l : List UInt8) (w : World) (hv : Bs w v l) (hvl : ∀ k, v.ownBlock = some k → k < w.heap.size) (hl : l.length = 64) (h : onB (rdL (l.take 32)) (rdL (l.drop 32)) = true) : Calls Tryd.prog 10 #[v] w fun e w' =>
    e = .returned (.tuple #[.agg (poC (rdL (l.take 32)) (rdL (l.drop 32)) false).toArray, .int .i64 0]) ∧ Hp w [] w' := by
  have := signKey v l w hv hvl hl
  rw [h] at this
  exact this
theorem sKeyNo (v : Value) (l : List UInt8) (w : World) (hv : Bs w v l) (hvl : l ≠ [] → ∀ k, v.ownBlock = some k → k < w.heap.size) (h : keyNo l) : ∃ k : Int, (decide (k ≠ 0) = true) ∧ Calls Tryd.prog 10 #[v] w fun e w' => e = .returned (.tuple #[.agg (poC 0 0 false).toArray, .int .i64 k]) ∧ Hp w [] w' := by
  by_cases hl : l.length = 64
  · have e := h.resolve_left (fun h => h hl)
    have := signKey v l w hv (hvl (fun e => by subst e; cases hl)) hl
    rw [e] at this
    exact ⟨3, rfl, this⟩
  · exact ⟨2, rfl, signKeyN v l w hv hl⟩
set_option maxHeartbeats 8000000 in
theorem signVer5 (kv mv gv : Value) (l : List UInt8) (w : World) (hv : Bs w kv l) (hvl : l ≠ [] → ∀ k, kv.ownBlock = some k → k < w.heap.size) (h : keyNo l) : Calls Tryd.prog 8 #[kv, mv, gv] w fun e w' => e = .returned (.int .i64 5) ∧ Hp w [] w' := by
  obtain ⟨k, hk, _⟩ := sKeyNo kv l w hv hvl h
  have hK : ∀ wq, Bs wq kv l → w.heap.size ≤ wq.heap.size → Calls Tryd.prog 10 #[kv] wq fun e w' => e = .returned (.tuple #[.agg (poC 0 0 false).toArray, .int .i64 (if l.length = 64 then 3 else 2)]) ∧ Hp wq [] w' := fun wq hb hs => by
    by_cases hl : l.length = 64
    · have e := h.resolve_left (fun h => h hl)
      have := signKey kv l wq hb (fun k hk => Nat.lt_of_lt_of_le (hvl (fun e => by subst e; cases hl) k hk) hs) hl
      rw [e] at this
      rw [if_pos hl]
      exact this
    · rw [if_neg hl]
      exact signKeyN kv l wq hb hl
  obtain ⟨q, hq⟩ : ∃ q : Int, q = if l.length = 64 then 3 else 2 := ⟨_, rfl⟩
  rw [← hq] at hK
  have hd : decide (q ≠ 0) = true := decide_eq_true (by rw [hq]; split <;> decide)
  clear hq
  refine enter (args := [_, _, _]) (Γ := [(0, _), (1, _), (2, _)]) Tryd.func8 Tryd.ntmps8 rfl (of_decide_eq_true rfl) (.cons rfl (.cons rfl (.cons rfl .nil))) ?_
  repeat' (first | (apply Wl.callQ (f := 10); exact rfl; (repeat (first | exact Evs.nil | apply Evs.cons rfl)); (intro wq hq; refine (hK wq (bsNew hv hq (by simp)) hq.upd.size).mono ?_; rintro e wr ⟨rfl, hr⟩; exact ⟨rfl, hq.keep hr⟩)) | (apply Wl.allocC (t := 32); exact rfl; exact zPo; intro c hc ho) | (apply Wl.storeAll; exact rfl; exact rfl; (repeat (first | apply HSet.here | apply HSet.there)); (first | exact ptC_len _ _ _ | exact poC_len _ _ _ | exact poD_len _); (first | exact rfl | exact ptC_len _ _ _ | exact poC_len _ _ _ | exact poD_len _); (first | exact ptC_one _ _ _ | exact poC_one _ _ _ | exact poD_one _)) | (apply Wl.move; exact rfl; exact rfl) | (apply Wl.assign; exact rfl; exact rfl) | (apply Wl.extract; exact rfl; exact rfl; exact rfl) | (apply Wl.neq; exact rfl; exact rfl; exact rfl) | (apply Wl.nil) | (apply St.seq) | (apply St.region) | (apply St.condT; exact rfl; (first | with_reducible rfl | with_reducible assumption | decide)) | (apply St.ret) | (apply Gt.next) | (apply Gt.thenRet) | (apply Gt.out1; exact rfl; exact rfl; intro w' hp) | (apply Wl.splitP; exact rfl; exact rfl; all_goals (intros; try (exfalso; omega))) | (apply Wl.splitB; exact rfl; exact rfl; all_goals intros) | (apply St.condP; exact rfl; all_goals (intros; try (exfalso; omega))) | (apply St.condB; exact rfl; all_goals intros))
  exact ⟨rfl, hp.drop (by simp; omega)⟩
set_option maxHeartbeats 8000000 in
theorem signVer4 (kv mv gv : Value) (l g : List UInt8) (w : World) (hv : Bs w kv l) (hvl : ∀ k, kv.ownBlock = some k → k < w.heap.size) (hl : l.length = 64) (h : onB (rdL (l.take 32)) (rdL (l.drop 32)) = true) (hg : Bs w gv g) (hgl : g.length ≠ 64) : Calls Tryd.prog 8 #[kv, mv, gv] w fun e w' => e = .returned (.int .i64 4) ∧ Hp w [] w' := by
  obtain ⟨ga, gc, rfl, hglc, hgm⟩ := hg.shape
  have hdg : decide ((g.length : Int) ≠ 64) = true := decide_eq_true (by omega)
  refine enter (args := [_, _, _]) (Γ := [(0, _), (1, _), (2, _)]) Tryd.func8 Tryd.ntmps8 rfl (of_decide_eq_true rfl) (.cons rfl (.cons rfl (.cons rfl .nil))) ?_
  repeat' (first | (apply Wl.callQ (f := 10); exact rfl; (repeat (first | exact Evs.nil | apply Evs.cons rfl)); (intro wq hq; refine (sKeyOk kv l wq (bsNew hv hq (by simp)) (fun k hk => Nat.lt_of_lt_of_le (hvl k hk) hq.upd.size) hl h).mono ?_; rintro e wr ⟨rfl, hr⟩; exact ⟨rfl, hq.keep hr⟩)) | (apply Wl.allocC (t := 32); exact rfl; exact zPo; intro c hc ho) | (apply Wl.storeAll; exact rfl; exact rfl; (repeat (first | apply HSet.here | apply HSet.there)); (first | exact ptC_len _ _ _ | exact poC_len _ _ _ | exact poD_len _); (first | exact rfl | exact ptC_len _ _ _ | exact poC_len _ _ _ | exact poD_len _); (first | exact ptC_one _ _ _ | exact poC_one _ _ _ | exact poD_one _)) | (apply Wl.move; exact rfl; exact rfl) | (apply Wl.assign; exact rfl; exact rfl) | (apply Wl.extract; exact rfl; exact rfl; exact rfl) | (apply Wl.neqIs; exact rfl; exact rfl; exact rfl; (first | with_reducible assumption | with_reducible rfl)) | (apply Wl.neq; exact rfl; exact rfl; exact rfl) | (apply Wl.len; exact rfl; exact rfl) | (apply Wl.nil) | (apply St.seq) | (apply St.region) | (apply St.condT; exact rfl; (first | with_reducible rfl | with_reducible assumption | decide)) | (apply St.condF; exact rfl; (first | with_reducible rfl | with_reducible assumption | decide)) | (apply St.ret) | (apply St.skip) | (apply Gt.next) | (apply Gt.thenRet) | (apply Gt.out1; exact rfl; exact rfl; intro w' hp) | (apply Wl.splitP; exact rfl; exact rfl; all_goals (intros; try (exfalso; omega))) | (apply Wl.splitB; exact rfl; exact rfl; all_goals intros) | (apply St.condP; exact rfl; all_goals (intros; try (exfalso; omega))) | (apply St.condB; exact rfl; all_goals intros))
  exact ⟨rfl, hp.drop (by simp; omega)⟩
theorem curTwoQ (k bm : Nat) (n m X Y : Nat) (w : World) (hV : CurV w k bm) (hX : X < Prim.P256) (hY : Y < Prim.P256) (hB : OnP (some (nF X, nF Y))) (hn : n < W256) (hm : m < W256) : Calls Tryd.prog 29 #[mp k, numV n, poV (some curG), numV m, .agg (poC X Y false).toArray] w fun e w' => e = .returned (poV (add3 (sm3 n (some curG)) (sm3 m (some (nF X, nF Y))))) ∧ Hp w [] w' := by
  have := curTwo k bm (some curG) (some (nF X, nF Y)) n m w hV onG hB hn hm
  rw [show poV (some (nF X, nF Y)) = .agg (poC X Y false).toArray by unfold poV; rw [poD_some, nF_val, nF_val, Nat.mod_eq_of_lt hX, Nat.mod_eq_of_lt hY]] at this
  exact this
set_option maxHeartbeats 16000000 in
theorem signVerM (kv mv gv : Value) (l m g : List UInt8) (w : World) (hK : ArrAt w 0 0 .u32 64 Sha.K) (hv : Bs w kv l) (hvl : ∀ k, kv.ownBlock = some k → k < w.heap.size) (hl : l.length = 64) (h : onB (rdL (l.take 32)) (rdL (l.drop 32)) = true) (hm : Bs w mv m) (hmn : m.length < 100000000) (hmv : m ≠ [] → ∀ k, mv.ownBlock = some k → k < w.heap.size) (hg : Bs w gv g) (hgl : g.length = 64)
    (U1 V1 : Nat) (A : Ec.Pt) (hu1 : eN m * pwm Prim.N256 (rdL (g.drop 32)) (Prim.N256 - 2) % Prim.N256 = U1) (hv1 : rdL (g.take 32) * pwm Prim.N256 (rdL (g.drop 32)) (Prim.N256 - 2) % Prim.N256 = V1) (hA : A = add3 (sm3 U1 (some curG)) (sm3 V1 (some (nF (rdL (l.take 32)), nF (rdL (l.drop 32)))))) :
    Calls Tryd.prog 8 #[kv, mv, gv] w fun e w' => e = .returned (.int .i64 (verA (rdL (g.take 32)) (rdL (g.drop 32)) A)) ∧ Hp w [] w' := by
  have h0K := hK.lt (by decide)
  obtain ⟨ga, gc, rfl, hglc, hgm⟩ := hg.shape
  unfold maxLen at hgm
  obtain ⟨ab, off, rfl, hcell⟩ := hg.cells (fun e => by subst e; simp at hgl)
  rw [hgl] at hg ⊢
  obtain ⟨hs1, hs2⟩ := bsHalves hg hgl
  obtain ⟨S1, hS1⟩ : ∃ S1, S1 = Value.slice (some ⟨ab, off, none⟩) 32 gc := ⟨_, rfl⟩
  obtain ⟨S2, hS2⟩ : ∃ S2, S2 = Value.slice (some ⟨ab, off + 32, none⟩) (64 - 32) (gc - 32) := ⟨_, rfl⟩
  rw [← hS1] at hs1
  rw [show (32 : Nat) = 64 - 32 from rfl, ← hS2] at hs2
  have hc64 := hg.len.2.1
  have hl1 : (g.take 32).length = 32 := by rw [List.length_take]; omega
  have hl2 : (g.drop 32).length = 32 := by rw [List.length_drop]; omega
  refine enter (args := [_, _, _]) (Γ := [(0, _), (1, _), (2, _)]) Tryd.func8 Tryd.ntmps8 rfl (of_decide_eq_true rfl) (.cons rfl (.cons rfl (.cons rfl .nil))) ?_
  repeat' (first | (apply Wl.callQ (f := 10); exact rfl; (repeat (first | exact Evs.nil | apply Evs.cons rfl)); (intro wq hq; refine (sKeyOk kv l wq (bsNew hv hq (by simp)) (fun k hk => Nat.lt_of_lt_of_le (hvl k hk) hq.upd.size) hl h).mono ?_; rintro e wr ⟨rfl, hr⟩; exact ⟨rfl, hq.keep hr⟩)) | (apply Wl.allocC (t := 32); exact rfl; exact zPo; intro c hc ho) | (apply Wl.storeAll; exact rfl; exact rfl; (repeat (first | apply HSet.here | apply HSet.there)); (first | exact ptC_len _ _ _ | exact poC_len _ _ _ | exact poD_len _); (first | exact rfl | exact ptC_len _ _ _ | exact poC_len _ _ _ | exact poD_len _); (first | exact ptC_one _ _ _ | exact poC_one _ _ _ | exact poD_one _)) | (apply Wl.sliceTo 32; exact rfl; exact rfl; exact rfl; exact rfl; (omega); exact hS1) | (apply Wl.sliceFrom 32; exact rfl; exact rfl; exact rfl; exact rfl; (decide); exact hc64; exact hS2) | (apply Wl.callQ (f := 19); exact rfl; (repeat (first | exact Evs.nil | apply Evs.cons rfl)); (intro wq hq; have hb1 := bsNew hs1 hq (by simp; omega); have hb2 := bsNew hs2 hq (by simp; omega); with_reducible first | refine (limbRead _ (g.take 32) wq hb1 hl1).mono ?_ | refine (limbRead _ (g.drop 32) wq hb2 hl2).mono ?_); (rintro e wr ⟨rfl, hr⟩; exact ⟨rfl, hq.keep hr⟩)) | (apply Wl.loadW; exact rfl; exact rfl; (repeat (first | exact List.Mem.head _ | apply List.Mem.tail)); exact rfl) | (apply Wl.storeW; exact rfl; exact rfl; (repeat (first | apply HSet.here | apply HSet.there)); exact rfl; (first | exact cellsN_len _ _ _ | exact rfl)) | (apply Wl.allocN; exact rfl; (first | exact z8 | exact z16 | exact z17 | exact z33 | exact z10); intro c hc ho) | (apply Wl.move; exact rfl; exact rfl) | (apply Wl.assign; exact rfl; exact rfl) | (apply Wl.extract; exact rfl; exact rfl; exact rfl) | (apply Wl.neqIs; exact rfl; exact rfl; exact rfl; (first | with_reducible assumption | with_reducible rfl)) | (apply Wl.neq; exact rfl; exact rfl; exact rfl) | (apply Wl.len; exact rfl; exact rfl) | (apply Wl.nil) | (apply St.seq) | (apply St.region) | (apply St.condF; exact rfl; (first | with_reducible rfl | with_reducible assumption | decide)) | (apply St.skip) | (apply Gt.next) | (apply Wl.splitP; exact rfl; exact rfl; all_goals (intros; try (exfalso; omega))) | (apply Wl.splitB; exact rfl; exact rfl; all_goals intros) | (apply St.condP; exact rfl; all_goals (intros; try (exfalso; omega))) | (apply St.condB; exact rfl; all_goals intros))
  generalize hR : rdL (g.take 32) = R at *
  generalize hS : rdL (g.drop 32) = S at *
  have hRW : R < W256 := hR ▸ rdL_lt _
  have hSW : S < W256 := hS ▸ rdL_lt _
  generalize c = cs at *
  rename_i cK hcK hoK cr hcr hor
  obtain ⟨XA, hXA⟩ : ∃ XA, XA = rdL (l.take 32) := ⟨_, rfl⟩
  obtain ⟨YA, hYA⟩ : ∃ YA, YA = rdL (l.drop 32) := ⟨_, rfl⟩
  rw [← hXA, ← hYA] at h hA ⊢
  obtain ⟨hXP, hYP, hOn⟩ := onP_of h
  have hB1 := fun wq => sigScalar R wq hRW
  have hB2 := fun wq => sigScalar S wq hSW
  have hcs : okS R = false ∨ (okS R = true ∧ okS S = false) ∨ (okS R = true ∧ okS S = true) := by cases okS R <;> cases okS S <;> simp
  rcases hcs with hb1 | ⟨hb1, hb2⟩ | ⟨hb1, hb2⟩
  · rw [hb1] at hB1
    repeat' (first | (apply Wl.callQ (f := 20); exact rfl; (repeat (first | exact Evs.nil | apply Evs.cons rfl)); (intro wq hq; refine (hB1 wq).mono ?_; rintro e wr ⟨rfl, hr⟩; exact ⟨rfl, hq.keep hr⟩)) | (apply Wl.move; exact rfl; exact rfl) | (apply Wl.assign; exact rfl; exact rfl) | (apply Wl.off; exact rfl; exact rfl; exact rfl; (first | with_reducible rfl | (show _ = false; with_reducible assumption) | (show _ = true; with_reducible assumption) | decide)) | (apply Wl.pickT; exact rfl; exact rfl; (first | with_reducible rfl | with_reducible assumption | decide); exact rfl) | (apply Wl.not; exact rfl; exact rfl) | (apply Wl.nil) | (apply St.seq) | (apply St.region) | (apply St.condT; exact rfl; (first | with_reducible rfl | with_reducible assumption | decide)) | (apply St.ret) | (apply Gt.next) | (apply Gt.thenRet) | (apply Gt.out1; exact rfl; exact rfl; intro w' hp) | (apply Wl.splitP; exact rfl; exact rfl; all_goals (intros; try (exfalso; omega))) | (apply Wl.splitB; exact rfl; exact rfl; all_goals intros) | (apply St.condP; exact rfl; all_goals (intros; try (exfalso; omega))) | (apply St.condB; exact rfl; all_goals intros))
    refine ⟨?_, hp.drop (by simp; omega)⟩
    unfold okS at hb1
    unfold verA
    rw [if_pos]
    by_cases h0 : R = 0
    · exact .inl h0
    · rw [decide_eq_true h0, Bool.true_and] at hb1
      exact .inr (.inr (.inl (of_decide_eq_false hb1)))
  · rw [hb1] at hB1
    rw [hb2] at hB2
    repeat' (first | (apply Wl.callQ (f := 20); exact rfl; (repeat (first | exact Evs.nil | apply Evs.cons rfl)); (intro wq hq; with_reducible first | refine (hB1 wq).mono ?_ | refine (hB2 wq).mono ?_); (rintro e wr ⟨rfl, hr⟩; exact ⟨rfl, hq.keep hr⟩)) | (apply Wl.loadW; exact rfl; exact rfl; (repeat (first | exact List.Mem.head _ | apply List.Mem.tail)); exact rfl) | (apply Wl.move; exact rfl; exact rfl) | (apply Wl.assign; exact rfl; exact rfl) | (apply Wl.on; exact rfl; exact rfl; (first | with_reducible rfl | with_reducible assumption | decide)) | (apply Wl.pickF; exact rfl; exact rfl; (first | with_reducible rfl | with_reducible assumption | decide); exact rfl) | (apply Wl.not; exact rfl; exact rfl) | (apply Wl.nil) | (apply St.seq) | (apply St.region) | (apply St.condT; exact rfl; (first | with_reducible rfl | with_reducible assumption | decide)) | (apply St.ret) | (apply Gt.next) | (apply Gt.thenRet) | (apply Gt.out1; exact rfl; exact rfl; intro w' hp) | (apply Wl.splitP; exact rfl; exact rfl; all_goals (intros; try (exfalso; omega))) | (apply Wl.splitB; exact rfl; exact rfl; all_goals intros) | (apply St.condP; exact rfl; all_goals (intros; try (exfalso; omega))) | (apply St.condB; exact rfl; all_goals intros))
    refine ⟨?_, hp.drop (by simp; omega)⟩
    unfold okS at hb2
    unfold verA
    rw [if_pos]
    by_cases h0 : S = 0
    · exact .inr (.inl h0)
    · rw [decide_eq_true h0, Bool.true_and] at hb2
      exact .inr (.inr (.inr (of_decide_eq_false hb2)))
  rw [hb1] at hB1
  rw [hb2] at hB2
  have hRN' : R ≠ 0 ∧ R < Prim.N256 := by
    unfold okS at hb1
    rw [Bool.and_eq_true] at hb1
    exact ⟨of_decide_eq_true hb1.1, of_decide_eq_true hb1.2⟩
  have hSN' : S ≠ 0 ∧ S < Prim.N256 := by
    unfold okS at hb2
    rw [Bool.and_eq_true] at hb2
    exact ⟨of_decide_eq_true hb2.1, of_decide_eq_true hb2.2⟩
  have hAns : verA R S A = if A = none ∨ poX A % Prim.N256 ≠ R then 4 else 0 := by
    unfold verA
    rw [if_neg (by rintro (h | h | h | h); exact hRN'.1 h; exact hSN'.1 h; exact h hRN'.2; exact h hSN'.2)]
  rw [hAns]
  clear hAns hb1 hb2
  repeat' (first | (apply Wl.callQ (f := 20); exact rfl; (repeat (first | exact Evs.nil | apply Evs.cons rfl)); (intro wq hq; with_reducible first | refine (hB1 wq).mono ?_ | refine (hB2 wq).mono ?_); (rintro e wr ⟨rfl, hr⟩; exact ⟨rfl, hq.keep hr⟩)) | (apply Wl.callQ (f := 22); exact rfl; (repeat (first | exact Evs.nil | apply Evs.cons rfl)); (intro wq hq; refine (curOrder wq).mono ?_; rintro e wr ⟨rfl, hr⟩; exact ⟨rfl, hq.keep hr⟩)) | (apply Wl.loadW; exact rfl; exact rfl; (repeat (first | exact List.Mem.head _ | apply List.Mem.tail)); exact rfl) | (apply Wl.move; exact rfl; exact rfl) | (apply Wl.on; exact rfl; exact rfl; (first | with_reducible rfl | with_reducible assumption | decide)) | (apply Wl.pickF; exact rfl; exact rfl; (first | with_reducible rfl | with_reducible assumption | decide); exact rfl) | (apply Wl.not; exact rfl; exact rfl) | (apply Wl.nil) | (apply St.seq) | (apply St.region) | (apply St.condF; exact rfl; (first | with_reducible rfl | with_reducible assumption | decide)) | (apply St.skip) | (apply Gt.next) | (apply Wl.splitP; exact rfl; exact rfl; all_goals (intros; try (exfalso; omega))) | (apply Wl.splitB; exact rfl; exact rfl; all_goals intros) | (apply St.condP; exact rfl; all_goals (intros; try (exfalso; omega))) | (apply St.condB; exact rfl; all_goals intros))
  apply Wl.callC
  · exact rfl
  · (repeat (first | exact Evs.nil | apply Evs.cons rfl))
  intro wq hq
  refine (newModN wq).mono ?_
  rintro e w1 ⟨bn, rfl, hbn, hMn, hr1⟩
  have hqr := hq.keep hr1
  have hszq := hq.upd.size
  have l0 := hq.own.lt (.head _)
  have l1 := hq.own.lt (.tail _ (.head _))
  have l2 := hq.own.lt (.tail _ (.tail _ (.head _)))
  simp only at l0 l1 l2
  refine ⟨_, _, rfl, hpRb hqr, ?_⟩
  have hu : Upd (fun k => w.heap.size ≤ k) w w1 := hpOn hqr (Upd.refl _ _) (by simp; omega)
  have hnl := hMn.blk
  clear hq hr1 hqr hB1 hB2
  have h0N : 0 < Prim.N256 := by omega
  have h2N : 2 < Prim.N256 := by decide +kernel
  have hK1 : ArrAt w1 0 0 .u32 64 Sha.K := hK.upd hu (by omega)
  have hmW : ∀ {H : List Blk} {wx : World}, Hp w1 H wx → (∀ x ∈ H, w.heap.size ≤ x.b) → Bs wx mv m := fun hx hH => hm.upd (hpOn hx hu hH) fun k hk hlt hne hs => by omega
  repeat' (first | (apply Wl.callQ (f := 23); exact rfl; (repeat (first | exact Evs.nil | apply Evs.cons rfl)); (intro wq hq; refine (shaOf mv m wq (hmW hq (by simp; omega)) (by omega) (fun a k hk => by have := hmv a k hk; have := hq.upd.size; omega) (hK1.upd hq.upd (fun y => y (by (repeat (first | exact trivial | exact hX.off (by omega) | refine ⟨by first | assumption | omega | (simp only; omega), ?_⟩)))))).mono ?_; rintro e wr ⟨rfl, hr⟩; exact ⟨rfl, hq.keep hr⟩)) | (apply Wl.allocC (t := 45); exact rfl; exact z32b; intro c hc ho) | (apply Wl.storeW; exact rfl; exact rfl; (repeat (first | apply HSet.here | apply HSet.there)); exact rfl; (first | exact cellsN_len _ _ _ | exact rfl)) | (apply Wl.move; exact rfl; exact rfl) | (apply Wl.assign; exact rfl; exact rfl) | (apply Wl.extract; exact rfl; exact rfl; exact rfl) | (apply Wl.nil) | (apply St.seq) | (apply St.region) | (apply Gt.next) | (apply Wl.splitP; exact rfl; exact rfl; all_goals (intros; try (exfalso; omega))) | (apply Wl.splitB; exact rfl; exact rfl; all_goals intros) | (apply St.condP; exact rfl; all_goals (intros; try (exfalso; omega))) | (apply St.condB; exact rfl; all_goals intros))
  generalize c = cH at *
  have hcH : w1.heap.size ≤ cH := by assumption
  repeat' (first | (apply Wl.sliceAll; exact rfl; exact rfl; (decide); exact rfl) | (apply Wl.callQ (f := 19); exact rfl; (repeat (first | exact Evs.nil | apply Evs.cons rfl)); (intro wq hq; have hb : wq.heap[cH]? = _ := hq.own.at (x := ⟨cH, cellsN .u8 32 (Sha.of m), 45⟩) (by (repeat (first | exact List.Mem.head _ | apply List.Mem.tail))); refine (limbRead _ (shaL m) wq (bsSha hb) (shaL_len m)).mono ?_; rintro e wr ⟨rfl, hr⟩; exact ⟨rfl, hq.keep hr⟩)) | (apply Wl.loadW; exact rfl; exact rfl; (repeat (first | exact List.Mem.head _ | apply List.Mem.tail)); exact rfl) | (apply Wl.storeW; exact rfl; exact rfl; (repeat (first | apply HSet.here | apply HSet.there)); exact rfl; (first | exact cellsN_len _ _ _ | exact rfl)) | (apply Wl.allocN; exact rfl; (first | exact z8 | exact z16 | exact z17 | exact z33 | exact z10); intro c hc ho) | (apply Wl.move; exact rfl; exact rfl) | (apply Wl.assign; exact rfl; exact rfl) | (apply Wl.extract; exact rfl; exact rfl; exact rfl) | (apply Wl.nil) | (apply St.seq) | (apply St.region) | (apply Gt.next) | (apply Wl.splitP; exact rfl; exact rfl; all_goals (intros; try (exfalso; omega))) | (apply Wl.splitB; exact rfl; exact rfl; all_goals intros) | (apply St.condP; exact rfl; all_goals (intros; try (exfalso; omega))) | (apply St.condB; exact rfl; all_goals intros))
  generalize c = cE at *
  have hcE : w1.heap.size ≤ cE := by assumption
  obtain ⟨E, hE⟩ : ∃ E, E = rdL (shaL m) := ⟨_, rfl⟩
  have hEW : E < W256 := hE ▸ rdL_lt _
  rw [show eN m = E % Prim.N256 by rw [hE]; rfl, Nat.mod_mul_mod] at hu1
  rw [← hE]
  have hU1W : U1 < W256 := by rw [← hu1]; exact Nat.lt_trans (Nat.mod_lt _ h0N) nW
  have hV1W : V1 < W256 := by rw [← hv1]; exact Nat.lt_trans (Nat.mod_lt _ h0N) nW
  obtain ⟨Is, hIs⟩ : ∃ x, x = S * W256 % Prim.N256 := ⟨_, rfl⟩
  obtain ⟨Wv, hWv⟩ : ∃ x, x = pw Prim.N256 Is (Prim.N256 - 2) := ⟨_, rfl⟩
  obtain ⟨Ih, hIh⟩ : ∃ x, x = E * W256 % Prim.N256 := ⟨_, rfl⟩
  obtain ⟨Ir, hIr⟩ : ∃ x, x = R * W256 % Prim.N256 := ⟨_, rfl⟩
  obtain ⟨Th, hTh⟩ : ∃ x, x = Ih * Wv * rinv Prim.N256 % Prim.N256 := ⟨_, rfl⟩
  obtain ⟨Tr, hTr⟩ : ∃ x, x = Ir * Wv * rinv Prim.N256 % Prim.N256 := ⟨_, rfl⟩
  have hIsN : Is < Prim.N256 := hIs ▸ Nat.mod_lt _ h0N
  have hWvN : Wv < Prim.N256 := hWv ▸ pw_lt h0N
  have hIhW : Ih < W256 := hIh ▸ Nat.lt_trans (Nat.mod_lt _ h0N) nW
  have hIrW : Ir < W256 := hIr ▸ Nat.lt_trans (Nat.mod_lt _ h0N) nW
  have hThW : Th < W256 := hTh ▸ Nat.lt_trans (Nat.mod_lt _ h0N) nW
  have hTrW : Tr < W256 := hTr ▸ Nat.lt_trans (Nat.mod_lt _ h0N) nW
  have hOu : Th * rinv Prim.N256 % Prim.N256 = U1 := by rw [hTh, hIh, hWv, hIs, uv_eq n_odd]; exact hu1
  have hOv : Tr * rinv Prim.N256 % Prim.N256 = V1 := by rw [hTr, hIr, hWv, hIs, uv_eq n_odd]; exact hv1
  have cIs := fun wq h => modIn bn Prim.N256 S wq h hSW
  rw [← hIs] at cIs
  have cWv := fun wq (h : ModV wq bn Prim.N256) => modInv h hIsN nW h2N
  rw [← hWv] at cWv
  have cIh := fun wq h => modIn bn Prim.N256 E wq h hEW
  rw [← hIh] at cIh
  have cIr := fun wq h => modIn bn Prim.N256 R wq h hRW
  rw [← hIr] at cIr
  have cTh := fun wq (h : ModV wq bn Prim.N256) => modTimes' h hIhW hWvN
  rw [← hTh] at cTh
  have cTr := fun wq (h : ModV wq bn Prim.N256) => modTimes' h hIrW hWvN
  rw [← hTr] at cTr
  have cOu := fun wq h => modOut bn Prim.N256 Th wq h hThW
  rw [hOu] at cOu
  have cOv := fun wq h => modOut bn Prim.N256 Tr wq h hTrW
  rw [hOv] at cOv
  clear hIs hWv hIh hIr hTh hTr hOu hOv hu1 hv1
  repeat' (first | (apply Wl.callQ (f := 25); exact rfl; (repeat (first | exact Evs.nil | apply Evs.cons rfl)); (intro wq hq; refine (cIs wq (hMn.hp hq (by (repeat (first | exact trivial | exact hX.off (by omega) | refine ⟨by first | assumption | omega | (simp only; omega), ?_⟩))))).mono ?_; rintro e wr ⟨rfl, hr⟩; exact ⟨rfl, hq.keep hr⟩)) | (apply Wl.callQ (f := 24); exact rfl; (repeat (first | exact Evs.nil | apply Evs.cons rfl)); (intro wq hq; refine (cWv wq (hMn.hp hq (by (repeat (first | exact trivial | exact hX.off (by omega) | refine ⟨by first | assumption | omega | (simp only; omega), ?_⟩))))).mono ?_; rintro e wr ⟨rfl, hr⟩; exact ⟨rfl, hq.keep hr⟩)) | (apply Wl.storeW; exact rfl; exact rfl; (repeat (first | apply HSet.here | apply HSet.there)); exact rfl; (first | exact cellsN_len _ _ _ | exact rfl)) | (apply Wl.allocN; exact rfl; (first | exact z8 | exact z16 | exact z17 | exact z33 | exact z10); intro c hc ho) | (apply Wl.nil) | (apply St.seq) | (apply Gt.next) | (apply Wl.splitP; exact rfl; exact rfl; all_goals (intros; try (exfalso; omega))) | (apply Wl.splitB; exact rfl; exact rfl; all_goals intros) | (apply St.condP; exact rfl; all_goals (intros; try (exfalso; omega))) | (apply St.condB; exact rfl; all_goals intros))
  generalize c = cW at *
  have hcW : w1.heap.size ≤ cW := by assumption
  repeat' (first | (apply St.bagSn 20 []; exact rfl; exact mixed; kernel_rfl) | (apply OpsS.nil) | (apply OpsS.b; rotate_left; exact rfl; exact rfl) | (apply OpsS.s (j := 16); exact rfl; exact rfl; exact rfl; (intro X f hX hfj; change Wl [_] _ _ _ _ _ _ _; apply Wl.catS; (repeat (first | apply CatB.nil | apply CatB.cons)))) | (apply OpsS.s (j := 17); exact rfl; exact rfl; exact rfl; (intro X f hX hfj; change Wl [_] _ _ _ _ _ _ _; apply Wl.catS; (repeat (first | apply CatB.nil | apply CatB.cons)))) | (apply OpsS.v; exact rfl; (intro X f hX; change Wl [_] _ _ _ _ _ _ _; apply Wl.catX; (repeat (first | apply CatB.nil | apply CatB.cons)))) | (apply Gt.endS; exact fun _ h => h) | (apply Gt.endX; exact rfl) | (apply ConS.nil) | (apply ConS.v) | (apply ConS.s) | (apply ConS.b1; exact rfl) | (apply EndS.new; intro c hc ho) | (apply EndS.off; exact rfl) | (apply EndS.st) | (apply EndS.nil'; apply Gt.catS; (repeat (first | apply CatB.nil | apply CatB.cons))) | (apply Wl.storeAll; exact rfl; exact rfl; (repeat (first | apply HSet.here | apply HSet.there)); exact cellsN_len _ _ _; exact rfl; exact cellsN_one _ _ _) | (apply Wl.callQ (f := 25); exact rfl; (repeat (first | exact Evs.nil | apply Evs.cons rfl)); (intro wq hq; have hMq := hMn.hp hq (by (repeat (first | exact trivial | exact hX.off (by omega) | refine ⟨by first | assumption | omega | (simp only; omega), ?_⟩))); with_reducible first | refine (cIh wq hMq).mono ?_ | refine (cIr wq hMq).mono ?_); (rintro e wr ⟨rfl, hr⟩; exact ⟨rfl, hq.keep hr⟩)) | (apply Wl.callQ (f := 27); exact rfl; (repeat (first | exact Evs.nil | apply Evs.cons rfl)); (intro wq hq; have hMq := hMn.hp hq (by (repeat (first | exact trivial | exact hX.off (by omega) | refine ⟨by first | assumption | omega | (simp only; omega), ?_⟩))); with_reducible first | refine (cTh wq hMq).mono ?_ | refine (cTr wq hMq).mono ?_); (rintro e wr ⟨rfl, hr⟩; exact ⟨rfl, hq.keep hr⟩)) | (apply Wl.callQ (f := 26); exact rfl; (repeat (first | exact Evs.nil | apply Evs.cons rfl)); (intro wq hq; have hMq := hMn.hp hq (by (repeat (first | exact trivial | exact hX.off (by omega) | refine ⟨by first | assumption | omega | (simp only; omega), ?_⟩))); with_reducible first | refine (cOu wq hMq).mono ?_ | refine (cOv wq hMq).mono ?_); (rintro e wr ⟨rfl, hr⟩; exact ⟨rfl, hq.keep hr⟩)) | (apply Wl.loadW; exact rfl; exact rfl; (repeat (first | exact List.Mem.head _ | apply List.Mem.tail)); exact rfl) | (apply Wl.move; exact rfl; exact rfl) | (apply Wl.nil) | (apply St.seq) | (apply Gt.next) | (apply Wl.splitP; exact rfl; exact rfl; all_goals (intros; try (exfalso; omega))) | (apply Wl.splitB; exact rfl; exact rfl; all_goals intros) | (apply St.condP; exact rfl; all_goals (intros; try (exfalso; omega))) | (apply St.condB; exact rfl; all_goals intros))
  have hXW := poX_W A
  obtain ⟨T, hT⟩ : ∃ T, T = poX A % Prim.N256 := ⟨_, rfl⟩
  have hTW : T < W256 := by rw [hT]; exact Nat.lt_trans (Nat.mod_lt _ h0N) nW
  have hRd := fun wq h => modReduce bn Prim.N256 (poX A) wq h hXW
  rw [← hT] at hRd ⊢
  have hcs2 : (A.isNone = true ∧ A = none) ∨ (A.isNone = false ∧ A ≠ none ∧ T = R) ∨ (A.isNone = false ∧ A ≠ none ∧ T ≠ R) := by
    cases A with
    | none => exact .inl ⟨rfl, rfl⟩
    | some x => exact (Classical.em (T = R)).elim (fun e => .inr (.inl ⟨rfl, by simp, e⟩)) fun e => .inr (.inr ⟨rfl, by simp, e⟩)
  generalize c = cV1 at *
  rename_i cU hcU hoU
  have hcV1 : w1.heap.size ≤ cV1 := by assumption
  clear cIs cWv cIh cIr cTh cTr cOu cOv
  refine St.tree (Hp w1 [⟨cV1, cellsN .u32 8 (dg W32 V1), 30⟩, ⟨cU, cellsN .u32 8 (dg W32 U1), 30⟩, ⟨cW, cellsN .u32 8 (dg W32 Wv), 30⟩, ⟨cE, cellsN .u32 8 (dg W32 E), 30⟩, ⟨cH, cellsN .u8 32 (Sha.of m), 45⟩, ⟨cs, cellsN .u32 8 (dg W32 S), 30⟩, ⟨cr, cellsN .u32 8 (dg W32 R), 30⟩, ⟨cK, poC XA YA false, 32⟩]) mixed (fun _ h => ⟨Hp.drew h, Hp.drew h⟩) ?_
  refine Mt.pure 1 (by decide +kernel) (by exact rfl) (by exact rfl) (by decide +kernel) (by decide +kernel) ?_
  repeat' (first | (apply Wl.loadW; exact rfl; exact rfl; (repeat (first | exact List.Mem.head _ | apply List.Mem.tail)); exact rfl) | (apply Wl.nilM) | (apply Wl.splitP; exact rfl; exact rfl; all_goals (intros; try (exfalso; omega))) | (apply Wl.splitB; exact rfl; exact rfl; all_goals intros) | (apply St.condP; exact rfl; all_goals (intros; try (exfalso; omega))) | (apply St.condB; exact rfl; all_goals intros))
  apply Mt.back
  refine Mt.pure 3 (by decide +kernel) (by exact rfl) (by exact rfl) (by decide +kernel) (by decide +kernel) ?_
  repeat' (first | (apply Wl.loadW; exact rfl; exact rfl; (repeat (first | exact List.Mem.head _ | apply List.Mem.tail)); exact rfl) | (apply Wl.nilM) | (apply Wl.splitP; exact rfl; exact rfl; all_goals (intros; try (exfalso; omega))) | (apply Wl.splitB; exact rfl; exact rfl; all_goals intros) | (apply St.condP; exact rfl; all_goals (intros; try (exfalso; omega))) | (apply St.condB; exact rfl; all_goals intros))
  apply Mt.back
  refine Mt.pure 4 (by decide +kernel) (by exact rfl) (by exact rfl) (by decide +kernel) (by decide +kernel) ?_
  repeat' (first | (apply Wl.loadAH; exact rfl; exact rfl; (repeat (first | exact List.Mem.head _ | apply List.Mem.tail)); (first | exact ptC_x _ _ _ | exact ptC_y _ _ _ | exact ptC_z _ _ _ | exact poC_x _ _ _ | exact poC_y _ _ _ | exact poD_x _ | exact poD_y _ | exact LSub.whole (ptC_len _ _ _) | exact LSub.whole (poC_len _ _ _) | exact LSub.whole (poD_len _))) | (apply Wl.nilM) | (apply Wl.splitP; exact rfl; exact rfl; all_goals (intros; try (exfalso; omega))) | (apply Wl.splitB; exact rfl; exact rfl; all_goals intros) | (apply St.condP; exact rfl; all_goals (intros; try (exfalso; omega))) | (apply St.condB; exact rfl; all_goals intros))
  apply Mt.back
  refine Mt.eff2 (i := 0) (j := 6) (by decide +kernel) (by exact rfl) (by exact rfl) ?_ ?_
  · apply Wl.callC
    · exact rfl
    · (repeat (first | exact Evs.nil | apply Evs.cons rfl))
    intro wq hq
    refine (curNew wq).mono ?_
    rintro e wr ⟨k, bm, rfl, hk, hbm, hV, hr⟩
    have hqr := hq.keep hr
    refine ⟨_, _, rfl, hpRb hqr, ?_⟩
    have hszq := hq.upd.size
    have hszr := hr.upd.size
    have hall := fun x hx => hq.own.lt (x := x) hx
    simp only [List.mem_cons, List.not_mem_nil, or_false, forall_eq_or_imp, forall_eq] at hall
    have hu2 : Upd (fun k => w.heap.size ≤ k) w wr := hpOn hqr hu (by simp; omega)
    obtain ⟨hkl, hbl⟩ := hV.lt
    have hMr : ModV wr bn Prim.N256 := (hMn.hp hq (by (repeat (first | exact trivial | exact hX.off (by omega) | refine ⟨by first | assumption | omega | (simp only; omega), ?_⟩)))).hp hr trivial
    have cTwo := fun wq (hV : CurV wq k bm) => curTwoQ k bm U1 V1 XA YA wq hV hXP hYP hOn hU1W hV1W
    rw [← hA] at cTwo
    clear hq hr
    repeat' (first | (apply Wl.nil) | (apply Wl.splitP; exact rfl; exact rfl; all_goals (intros; try (exfalso; omega))) | (apply Wl.splitB; exact rfl; exact rfl; all_goals intros) | (apply St.condP; exact rfl; all_goals (intros; try (exfalso; omega))) | (apply St.condB; exact rfl; all_goals intros))
    refine Mt.backE (fun u h => hpTr hqr h) ?_
    refine Mt.eff2 (i := 2) (j := 6) (by decide +kernel) (by exact rfl) (by exact rfl) ?_ ?_
    · repeat' (first | (apply Wl.callQ (f := 30); exact rfl; (repeat (first | exact Evs.nil | apply Evs.cons rfl)); (intro wq hq; refine (curBase wq).mono ?_; rintro e wr ⟨rfl, hr⟩; exact ⟨rfl, hq.keep hr⟩)) | (apply Wl.nil) | (apply Wl.splitP; exact rfl; exact rfl; all_goals (intros; try (exfalso; omega))) | (apply Wl.splitB; exact rfl; exact rfl; all_goals intros) | (apply St.condP; exact rfl; all_goals (intros; try (exfalso; omega))) | (apply St.condB; exact rfl; all_goals intros))
      refine Mt.backE (fun u h => hpTr hqr h) ?_
      refine Mt.eff2 (i := 5) (j := 6) (by decide +kernel) (by exact rfl) (by exact rfl) ?_ ?_
      · repeat' (first | (apply Wl.callQ (f := 29); exact rfl; (repeat (first | exact Evs.nil | apply Evs.cons rfl)); (intro wq hq; refine (cTwo wq (hV.hp hq (by (repeat (first | exact trivial | exact hX.off (by omega) | refine ⟨by first | assumption | omega | (simp only; omega), ?_⟩))) (by (repeat (first | exact trivial | exact hX.off (by omega) | refine ⟨by first | assumption | omega | (simp only; omega), ?_⟩))))).mono ?_; rintro e wr ⟨rfl, hr⟩; exact ⟨rfl, hq.keep hr⟩)) | (apply Wl.nil) | (apply Wl.splitP; exact rfl; exact rfl; all_goals (intros; try (exfalso; omega))) | (apply Wl.splitB; exact rfl; exact rfl; all_goals intros) | (apply St.condP; exact rfl; all_goals (intros; try (exfalso; omega))) | (apply St.condB; exact rfl; all_goals intros))
        refine Mt.backE (fun u h => hpTr hqr h) ?_
        refine Mt.eff1 (i := 6) (by decide +kernel) (by exact rfl) ?_
        repeat' (first | (apply Wl.allocC (t := 32); exact rfl; exact zPo; intro c hc ho) | (apply Wl.nil) | (apply Wl.splitP; exact rfl; exact rfl; all_goals (intros; try (exfalso; omega))) | (apply Wl.splitB; exact rfl; exact rfl; all_goals intros) | (apply St.condP; exact rfl; all_goals (intros; try (exfalso; omega))) | (apply St.condB; exact rfl; all_goals intros))
        generalize c = cP at *
        have hcc : wr.heap.size ≤ cP := by assumption
        refine Mt.backE (fun u h => hpTr hqr (hpPopS h hcc)) ?_
        refine Mt.eff1 (i := 7) (by decide +kernel) (by exact rfl) ?_
        repeat' (first | (apply Wl.storeAll; exact rfl; exact rfl; (repeat (first | apply HSet.here | apply HSet.there)); (first | exact ptC_len _ _ _ | exact poC_len _ _ _ | exact poD_len _); (first | exact rfl | exact ptC_len _ _ _ | exact poC_len _ _ _ | exact poD_len _); (first | exact ptC_one _ _ _ | exact poC_one _ _ _ | exact poD_one _)) | (apply Wl.nil) | (apply Wl.splitP; exact rfl; exact rfl; all_goals (intros; try (exfalso; omega))) | (apply Wl.splitB; exact rfl; exact rfl; all_goals intros) | (apply St.condP; exact rfl; all_goals (intros; try (exfalso; omega))) | (apply St.condB; exact rfl; all_goals intros))
        refine Mt.backE (fun u h => hpTr hqr (hpPopS h hcc)) ?_
        refine Mt.toGt (by decide +kernel) ?_
        rcases hcs2 with ⟨hA1, hA0⟩ | ⟨hA1, hA0, hTR⟩ | ⟨hA1, hA0, hTR⟩
        all_goals
          repeat' (first | (apply St.bagX 10 [9]; exact mixed; (decide +kernel); kernel_rfl) | (apply OpsX.nil) | (apply OpsX.v; (intro X hX; change Wl [_] _ _ _ _ _ _ _; apply Wl.catX; (repeat (first | apply CatB.nil | apply CatB.cons)))) | (apply Gt.endX; exact rfl) | (apply EndX.on; exact rfl) | (apply EndX.off; exact rfl) | (apply EndX.nil'; apply Wl.catE; (repeat (first | apply CatB.nil | apply CatB.cons))) | (apply Wl.loadAH; exact rfl; exact rfl; (repeat (first | exact List.Mem.head _ | apply List.Mem.tail)); (first | exact ptC_x _ _ _ | exact ptC_y _ _ _ | exact ptC_z _ _ _ | exact poC_x _ _ _ | exact poC_y _ _ _ | exact poD_x _ | exact poD_y _ | exact LSub.whole (ptC_len _ _ _) | exact LSub.whole (poC_len _ _ _) | exact LSub.whole (poD_len _))) | (apply Wl.loadH; exact rfl; exact rfl; (repeat (first | exact List.Mem.head _ | apply List.Mem.tail)); (first | exact poC_n _ _ _ | exact poD_n _)) | (apply Wl.callQ (f := 31); exact rfl; (repeat (first | exact Evs.nil | apply Evs.cons rfl)); (intro wq hq; refine (hRd wq (hMr.hp hq (by (repeat (first | exact trivial | exact hX.off (by omega) | refine ⟨by first | assumption | omega | (simp only; omega), ?_⟩))))).mono ?_; rintro e wr ⟨rfl, hr⟩; exact ⟨rfl, hq.keep hr⟩)) | (apply Wl.neqA (t := 30); exact rfl; exact rfl; exact rfl; kernel_rfl; kernel_rfl; kernel_rfl; kernel_rfl; exact cell32 _ (dlt _); exact cell32 _ (dlt _); (first | with_reducible exact ne8 hTW hRW hTR | with_reducible exact eq8 hTR)) | (apply Wl.loadW; exact rfl; exact rfl; (repeat (first | exact List.Mem.head _ | apply List.Mem.tail)); exact rfl) | (apply Wl.move; exact rfl; exact rfl) | (apply Wl.assign; exact rfl; exact rfl) | (apply Wl.on; exact rfl; exact rfl; (first | with_reducible rfl | with_reducible assumption | decide)) | (apply Wl.off; exact rfl; exact rfl; exact rfl; (first | with_reducible rfl | (show _ = false; with_reducible assumption) | (show _ = true; with_reducible assumption) | decide)) | (apply Wl.pickT; exact rfl; exact rfl; (first | with_reducible rfl | with_reducible assumption | decide); exact rfl) | (apply Wl.pickF; exact rfl; exact rfl; (first | with_reducible rfl | with_reducible assumption | decide); exact rfl) | (apply Wl.fieldAddr0; exact rfl; exact rfl) | (apply Wl.fieldAddrZ; exact rfl; exact rfl) | (apply Wl.nil) | (apply St.seq) | (apply St.region) | (apply St.condT; exact rfl; (first | with_reducible rfl | with_reducible assumption | decide)) | (apply St.condF; exact rfl; (first | with_reducible rfl | with_reducible assumption | decide)) | (apply St.ret) | (apply St.skip) | (apply Gt.next) | (apply Gt.thenRet) | (apply Gt.out1; exact rfl; exact rfl; intro w' hp) | (apply Wl.splitP; exact rfl; exact rfl; all_goals (intros; try (exfalso; omega))) | (apply Wl.splitB; exact rfl; exact rfl; all_goals intros) | (apply St.condP; exact rfl; all_goals (intros; try (exfalso; omega))) | (apply St.condB; exact rfl; all_goals intros))
        · exact ⟨by rw [if_pos (.inl hA0)], hpFin hp hu2 (by simp; omega)⟩
        · exact ⟨by rw [if_neg (by rintro (h | h); exact hA0 h; exact h hTR)], hpFin hp hu2 (by simp; omega)⟩
        · exact ⟨by rw [if_pos (.inr hTR)], hpFin hp hu2 (by simp; omega)⟩
      · repeat' (first | (apply Wl.allocC (t := 32); exact rfl; exact zPo; intro c hc ho) | (apply Wl.nil) | (apply Wl.splitP; exact rfl; exact rfl; all_goals (intros; try (exfalso; omega))) | (apply Wl.splitB; exact rfl; exact rfl; all_goals intros) | (apply St.condP; exact rfl; all_goals (intros; try (exfalso; omega))) | (apply St.condB; exact rfl; all_goals intros))
        generalize c = cP at *
        have hcc : wr.heap.size ≤ cP := by assumption
        refine Mt.backE (fun u h => hpTr hqr (hpPopS h hcc)) ?_
        refine Mt.eff1 (i := 5) (by decide +kernel) (by exact rfl) ?_
        repeat' (first | (apply Wl.callQ (f := 29); exact rfl; (repeat (first | exact Evs.nil | apply Evs.cons rfl)); (intro wq hq; refine (cTwo wq (hV.hp hq (by (repeat (first | exact trivial | exact hX.off (by omega) | refine ⟨by first | assumption | omega | (simp only; omega), ?_⟩))) (by (repeat (first | exact trivial | exact hX.off (by omega) | refine ⟨by first | assumption | omega | (simp only; omega), ?_⟩))))).mono ?_; rintro e wr ⟨rfl, hr⟩; exact ⟨rfl, hq.keep hr⟩)) | (apply Wl.nil) | (apply Wl.splitP; exact rfl; exact rfl; all_goals (intros; try (exfalso; omega))) | (apply Wl.splitB; exact rfl; exact rfl; all_goals intros) | (apply St.condP; exact rfl; all_goals (intros; try (exfalso; omega))) | (apply St.condB; exact rfl; all_goals intros))
        refine Mt.backE (fun u h => hpTr hqr (hpPopS h hcc)) ?_
        refine Mt.eff1 (i := 7) (by decide +kernel) (by exact rfl) ?_
        repeat' (first | (apply Wl.storeAll; exact rfl; exact rfl; (repeat (first | apply HSet.here | apply HSet.there)); (first | exact ptC_len _ _ _ | exact poC_len _ _ _ | exact poD_len _); (first | exact rfl | exact ptC_len _ _ _ | exact poC_len _ _ _ | exact poD_len _); (first | exact ptC_one _ _ _ | exact poC_one _ _ _ | exact poD_one _)) | (apply Wl.nil) | (apply Wl.splitP; exact rfl; exact rfl; all_goals (intros; try (exfalso; omega))) | (apply Wl.splitB; exact rfl; exact rfl; all_goals intros) | (apply St.condP; exact rfl; all_goals (intros; try (exfalso; omega))) | (apply St.condB; exact rfl; all_goals intros))
        refine Mt.backE (fun u h => hpTr hqr (hpPopS h hcc)) ?_
        refine Mt.toGt (by decide +kernel) ?_
        rcases hcs2 with ⟨hA1, hA0⟩ | ⟨hA1, hA0, hTR⟩ | ⟨hA1, hA0, hTR⟩
        all_goals
          repeat' (first | (apply St.bagX 10 [9]; exact mixed; (decide +kernel); kernel_rfl) | (apply OpsX.nil) | (apply OpsX.v; (intro X hX; change Wl [_] _ _ _ _ _ _ _; apply Wl.catX; (repeat (first | apply CatB.nil | apply CatB.cons)))) | (apply Gt.endX; exact rfl) | (apply EndX.on; exact rfl) | (apply EndX.off; exact rfl) | (apply EndX.nil'; apply Wl.catE; (repeat (first | apply CatB.nil | apply CatB.cons))) | (apply Wl.loadAH; exact rfl; exact rfl; (repeat (first | exact List.Mem.head _ | apply List.Mem.tail)); (first | exact ptC_x _ _ _ | exact ptC_y _ _ _ | exact ptC_z _ _ _ | exact poC_x _ _ _ | exact poC_y _ _ _ | exact poD_x _ | exact poD_y _ | exact LSub.whole (ptC_len _ _ _) | exact LSub.whole (poC_len _ _ _) | exact LSub.whole (poD_len _))) | (apply Wl.loadH; exact rfl; exact rfl; (repeat (first | exact List.Mem.head _ | apply List.Mem.tail)); (first | exact poC_n _ _ _ | exact poD_n _)) | (apply Wl.callQ (f := 31); exact rfl; (repeat (first | exact Evs.nil | apply Evs.cons rfl)); (intro wq hq; refine (hRd wq (hMr.hp hq (by (repeat (first | exact trivial | exact hX.off (by omega) | refine ⟨by first | assumption | omega | (simp only; omega), ?_⟩))))).mono ?_; rintro e wr ⟨rfl, hr⟩; exact ⟨rfl, hq.keep hr⟩)) | (apply Wl.neqA (t := 30); exact rfl; exact rfl; exact rfl; kernel_rfl; kernel_rfl; kernel_rfl; kernel_rfl; exact cell32 _ (dlt _); exact cell32 _ (dlt _); (first | with_reducible exact ne8 hTW hRW hTR | with_reducible exact eq8 hTR)) | (apply Wl.loadW; exact rfl; exact rfl; (repeat (first | exact List.Mem.head _ | apply List.Mem.tail)); exact rfl) | (apply Wl.move; exact rfl; exact rfl) | (apply Wl.assign; exact rfl; exact rfl) | (apply Wl.on; exact rfl; exact rfl; (first | with_reducible rfl | with_reducible assumption | decide)) | (apply Wl.off; exact rfl; exact rfl; exact rfl; (first | with_reducible rfl | (show _ = false; with_reducible assumption) | (show _ = true; with_reducible assumption) | decide)) | (apply Wl.pickT; exact rfl; exact rfl; (first | with_reducible rfl | with_reducible assumption | decide); exact rfl) | (apply Wl.pickF; exact rfl; exact rfl; (first | with_reducible rfl | with_reducible assumption | decide); exact rfl) | (apply Wl.fieldAddr0; exact rfl; exact rfl) | (apply Wl.fieldAddrZ; exact rfl; exact rfl) | (apply Wl.nil) | (apply St.seq) | (apply St.region) | (apply St.condT; exact rfl; (first | with_reducible rfl | with_reducible assumption | decide)) | (apply St.condF; exact rfl; (first | with_reducible rfl | with_reducible assumption | decide)) | (apply St.ret) | (apply St.skip) | (apply Gt.next) | (apply Gt.thenRet) | (apply Gt.out1; exact rfl; exact rfl; intro w' hp) | (apply Wl.splitP; exact rfl; exact rfl; all_goals (intros; try (exfalso; omega))) | (apply Wl.splitB; exact rfl; exact rfl; all_goals intros) | (apply St.condP; exact rfl; all_goals (intros; try (exfalso; omega))) | (apply St.condB; exact rfl; all_goals intros))
        · exact ⟨by rw [if_pos (.inl hA0)], hpFin hp hu2 (by simp; omega)⟩
        · exact ⟨by rw [if_neg (by rintro (h | h); exact hA0 h; exact h hTR)], hpFin hp hu2 (by simp; omega)⟩
        · exact ⟨by rw [if_pos (.inr hTR)], hpFin hp hu2 (by simp; omega)⟩
    · repeat' (first | (apply Wl.allocC (t := 32); exact rfl; exact zPo; intro c hc ho) | (apply Wl.nil) | (apply Wl.splitP; exact rfl; exact rfl; all_goals (intros; try (exfalso; omega))) | (apply Wl.splitB; exact rfl; exact rfl; all_goals intros) | (apply St.condP; exact rfl; all_goals (intros; try (exfalso; omega))) | (apply St.condB; exact rfl; all_goals intros))
      generalize c = cP at *
      have hcc : wr.heap.size ≤ cP := by assumption
      refine Mt.backE (fun u h => hpTr hqr (hpPopS h hcc)) ?_
      refine Mt.eff1 (i := 2) (by decide +kernel) (by exact rfl) ?_
      repeat' (first | (apply Wl.callQ (f := 30); exact rfl; (repeat (first | exact Evs.nil | apply Evs.cons rfl)); (intro wq hq; refine (curBase wq).mono ?_; rintro e wr ⟨rfl, hr⟩; exact ⟨rfl, hq.keep hr⟩)) | (apply Wl.nil) | (apply Wl.splitP; exact rfl; exact rfl; all_goals (intros; try (exfalso; omega))) | (apply Wl.splitB; exact rfl; exact rfl; all_goals intros) | (apply St.condP; exact rfl; all_goals (intros; try (exfalso; omega))) | (apply St.condB; exact rfl; all_goals intros))
      refine Mt.backE (fun u h => hpTr hqr (hpPopS h hcc)) ?_
      refine Mt.eff1 (i := 5) (by decide +kernel) (by exact rfl) ?_
      repeat' (first | (apply Wl.callQ (f := 29); exact rfl; (repeat (first | exact Evs.nil | apply Evs.cons rfl)); (intro wq hq; refine (cTwo wq (hV.hp hq (by (repeat (first | exact trivial | exact hX.off (by omega) | refine ⟨by first | assumption | omega | (simp only; omega), ?_⟩))) (by (repeat (first | exact trivial | exact hX.off (by omega) | refine ⟨by first | assumption | omega | (simp only; omega), ?_⟩))))).mono ?_; rintro e wr ⟨rfl, hr⟩; exact ⟨rfl, hq.keep hr⟩)) | (apply Wl.nil) | (apply Wl.splitP; exact rfl; exact rfl; all_goals (intros; try (exfalso; omega))) | (apply Wl.splitB; exact rfl; exact rfl; all_goals intros) | (apply St.condP; exact rfl; all_goals (intros; try (exfalso; omega))) | (apply St.condB; exact rfl; all_goals intros))
      refine Mt.backE (fun u h => hpTr hqr (hpPopS h hcc)) ?_
      refine Mt.eff1 (i := 7) (by decide +kernel) (by exact rfl) ?_
      repeat' (first | (apply Wl.storeAll; exact rfl; exact rfl; (repeat (first | apply HSet.here | apply HSet.there)); (first | exact ptC_len _ _ _ | exact poC_len _ _ _ | exact poD_len _); (first | exact rfl | exact ptC_len _ _ _ | exact poC_len _ _ _ | exact poD_len _); (first | exact ptC_one _ _ _ | exact poC_one _ _ _ | exact poD_one _)) | (apply Wl.nil) | (apply Wl.splitP; exact rfl; exact rfl; all_goals (intros; try (exfalso; omega))) | (apply Wl.splitB; exact rfl; exact rfl; all_goals intros) | (apply St.condP; exact rfl; all_goals (intros; try (exfalso; omega))) | (apply St.condB; exact rfl; all_goals intros))
      refine Mt.backE (fun u h => hpTr hqr (hpPopS h hcc)) ?_
      refine Mt.toGt (by decide +kernel) ?_
      rcases hcs2 with ⟨hA1, hA0⟩ | ⟨hA1, hA0, hTR⟩ | ⟨hA1, hA0, hTR⟩
      all_goals
        repeat' (first | (apply St.bagX 10 [9]; exact mixed; (decide +kernel); kernel_rfl) | (apply OpsX.nil) | (apply OpsX.v; (intro X hX; change Wl [_] _ _ _ _ _ _ _; apply Wl.catX; (repeat (first | apply CatB.nil | apply CatB.cons)))) | (apply Gt.endX; exact rfl) | (apply EndX.on; exact rfl) | (apply EndX.off; exact rfl) | (apply EndX.nil'; apply Wl.catE; (repeat (first | apply CatB.nil | apply CatB.cons))) | (apply Wl.loadAH; exact rfl; exact rfl; (repeat (first | exact List.Mem.head _ | apply List.Mem.tail)); (first | exact ptC_x _ _ _ | exact ptC_y _ _ _ | exact ptC_z _ _ _ | exact poC_x _ _ _ | exact poC_y _ _ _ | exact poD_x _ | exact poD_y _ | exact LSub.whole (ptC_len _ _ _) | exact LSub.whole (poC_len _ _ _) | exact LSub.whole (poD_len _))) | (apply Wl.loadH; exact rfl; exact rfl; (repeat (first | exact List.Mem.head _ | apply List.Mem.tail)); (first | exact poC_n _ _ _ | exact poD_n _)) | (apply Wl.callQ (f := 31); exact rfl; (repeat (first | exact Evs.nil | apply Evs.cons rfl)); (intro wq hq; refine (hRd wq (hMr.hp hq (by (repeat (first | exact trivial | exact hX.off (by omega) | refine ⟨by first | assumption | omega | (simp only; omega), ?_⟩))))).mono ?_; rintro e wr ⟨rfl, hr⟩; exact ⟨rfl, hq.keep hr⟩)) | (apply Wl.neqA (t := 30); exact rfl; exact rfl; exact rfl; kernel_rfl; kernel_rfl; kernel_rfl; kernel_rfl; exact cell32 _ (dlt _); exact cell32 _ (dlt _); (first | with_reducible exact ne8 hTW hRW hTR | with_reducible exact eq8 hTR)) | (apply Wl.loadW; exact rfl; exact rfl; (repeat (first | exact List.Mem.head _ | apply List.Mem.tail)); exact rfl) | (apply Wl.move; exact rfl; exact rfl) | (apply Wl.assign; exact rfl; exact rfl) | (apply Wl.on; exact rfl; exact rfl; (first | with_reducible rfl | with_reducible assumption | decide)) | (apply Wl.off; exact rfl; exact rfl; exact rfl; (first | with_reducible rfl | (show _ = false; with_reducible assumption) | (show _ = true; with_reducible assumption) | decide)) | (apply Wl.pickT; exact rfl; exact rfl; (first | with_reducible rfl | with_reducible assumption | decide); exact rfl) | (apply Wl.pickF; exact rfl; exact rfl; (first | with_reducible rfl | with_reducible assumption | decide); exact rfl) | (apply Wl.fieldAddr0; exact rfl; exact rfl) | (apply Wl.fieldAddrZ; exact rfl; exact rfl) | (apply Wl.nil) | (apply St.seq) | (apply St.region) | (apply St.condT; exact rfl; (first | with_reducible rfl | with_reducible assumption | decide)) | (apply St.condF; exact rfl; (first | with_reducible rfl | with_reducible assumption | decide)) | (apply St.ret) | (apply St.skip) | (apply Gt.next) | (apply Gt.thenRet) | (apply Gt.out1; exact rfl; exact rfl; intro w' hp) | (apply Wl.splitP; exact rfl; exact rfl; all_goals (intros; try (exfalso; omega))) | (apply Wl.splitB; exact rfl; exact rfl; all_goals intros) | (apply St.condP; exact rfl; all_goals (intros; try (exfalso; omega))) | (apply St.condB; exact rfl; all_goals intros))
      · exact ⟨by rw [if_pos (.inl hA0)], hpFin hp hu2 (by simp; omega)⟩
      · exact ⟨by rw [if_neg (by rintro (h | h); exact hA0 h; exact h hTR)], hpFin hp hu2 (by simp; omega)⟩
      · exact ⟨by rw [if_pos (.inr hTR)], hpFin hp hu2 (by simp; omega)⟩
  · repeat' (first | (apply Wl.allocC (t := 32); exact rfl; exact zPo; intro c hc ho) | (apply Wl.nil) | (apply Wl.splitP; exact rfl; exact rfl; all_goals (intros; try (exfalso; omega))) | (apply Wl.splitB; exact rfl; exact rfl; all_goals intros) | (apply St.condP; exact rfl; all_goals (intros; try (exfalso; omega))) | (apply St.condB; exact rfl; all_goals intros))
    generalize c = cP at *
    have hcc : w1.heap.size ≤ cP := by assumption
    refine Mt.backE (fun u h => hpPopS h hcc) ?_
    refine Mt.eff1 (i := 0) (by decide +kernel) (by exact rfl) ?_
    apply Wl.callC
    · exact rfl
    · (repeat (first | exact Evs.nil | apply Evs.cons rfl))
    intro wq hq
    refine (curNew wq).mono ?_
    rintro e wr ⟨k, bm, rfl, hk, hbm, hV, hr⟩
    have hqr := hq.keep hr
    refine ⟨_, _, rfl, hpRb hqr, ?_⟩
    have hszq := hq.upd.size
    have hszr := hr.upd.size
    have hall := fun x hx => hq.own.lt (x := x) hx
    simp only [List.mem_cons, List.not_mem_nil, or_false, forall_eq_or_imp, forall_eq] at hall
    have hu2 : Upd (fun k => w.heap.size ≤ k) w wr := hpOn hqr hu (by simp; omega)
    obtain ⟨hkl, hbl⟩ := hV.lt
    have hMr : ModV wr bn Prim.N256 := (hMn.hp hq (by (repeat (first | exact trivial | exact hX.off (by omega) | refine ⟨by first | assumption | omega | (simp only; omega), ?_⟩)))).hp hr trivial
    have cTwo := fun wq (hV : CurV wq k bm) => curTwoQ k bm U1 V1 XA YA wq hV hXP hYP hOn hU1W hV1W
    rw [← hA] at cTwo
    clear hq hr
    repeat' (first | (apply Wl.nil) | (apply Wl.splitP; exact rfl; exact rfl; all_goals (intros; try (exfalso; omega))) | (apply Wl.splitB; exact rfl; exact rfl; all_goals intros) | (apply St.condP; exact rfl; all_goals (intros; try (exfalso; omega))) | (apply St.condB; exact rfl; all_goals intros))
    refine Mt.backE (fun u h => hpPopS (hpTr hqr h) hcc) ?_
    refine Mt.eff1 (i := 2) (by decide +kernel) (by exact rfl) ?_
    repeat' (first | (apply Wl.callQ (f := 30); exact rfl; (repeat (first | exact Evs.nil | apply Evs.cons rfl)); (intro wq hq; refine (curBase wq).mono ?_; rintro e wr ⟨rfl, hr⟩; exact ⟨rfl, hq.keep hr⟩)) | (apply Wl.nil) | (apply Wl.splitP; exact rfl; exact rfl; all_goals (intros; try (exfalso; omega))) | (apply Wl.splitB; exact rfl; exact rfl; all_goals intros) | (apply St.condP; exact rfl; all_goals (intros; try (exfalso; omega))) | (apply St.condB; exact rfl; all_goals intros))
    refine Mt.backE (fun u h => hpPopS (hpTr hqr h) hcc) ?_
    refine Mt.eff1 (i := 5) (by decide +kernel) (by exact rfl) ?_
    repeat' (first | (apply Wl.callQ (f := 29); exact rfl; (repeat (first | exact Evs.nil | apply Evs.cons rfl)); (intro wq hq; refine (cTwo wq (hV.hp hq (by (repeat (first | exact trivial | exact hX.off (by omega) | refine ⟨by first | assumption | omega | (simp only; omega), ?_⟩))) (by (repeat (first | exact trivial | exact hX.off (by omega) | refine ⟨by first | assumption | omega | (simp only; omega), ?_⟩))))).mono ?_; rintro e wr ⟨rfl, hr⟩; exact ⟨rfl, hq.keep hr⟩)) | (apply Wl.nil) | (apply Wl.splitP; exact rfl; exact rfl; all_goals (intros; try (exfalso; omega))) | (apply Wl.splitB; exact rfl; exact rfl; all_goals intros) | (apply St.condP; exact rfl; all_goals (intros; try (exfalso; omega))) | (apply St.condB; exact rfl; all_goals intros))
    refine Mt.backE (fun u h => hpPopS (hpTr hqr h) hcc) ?_
    refine Mt.eff1 (i := 7) (by decide +kernel) (by exact rfl) ?_
    repeat' (first | (apply Wl.storeAll; exact rfl; exact rfl; (repeat (first | apply HSet.here | apply HSet.there)); (first | exact ptC_len _ _ _ | exact poC_len _ _ _ | exact poD_len _); (first | exact rfl | exact ptC_len _ _ _ | exact poC_len _ _ _ | exact poD_len _); (first | exact ptC_one _ _ _ | exact poC_one _ _ _ | exact poD_one _)) | (apply Wl.nil) | (apply Wl.splitP; exact rfl; exact rfl; all_goals (intros; try (exfalso; omega))) | (apply Wl.splitB; exact rfl; exact rfl; all_goals intros) | (apply St.condP; exact rfl; all_goals (intros; try (exfalso; omega))) | (apply St.condB; exact rfl; all_goals intros))
    refine Mt.backE (fun u h => hpTrS (c := cP) hqr h hcc) ?_
    refine Mt.toGt (by decide +kernel) ?_
    rcases hcs2 with ⟨hA1, hA0⟩ | ⟨hA1, hA0, hTR⟩ | ⟨hA1, hA0, hTR⟩
    all_goals
      repeat' (first | (apply St.bagX 10 [9]; exact mixed; (decide +kernel); kernel_rfl) | (apply OpsX.nil) | (apply OpsX.v; (intro X hX; change Wl [_] _ _ _ _ _ _ _; apply Wl.catX; (repeat (first | apply CatB.nil | apply CatB.cons)))) | (apply Gt.endX; exact rfl) | (apply EndX.on; exact rfl) | (apply EndX.off; exact rfl) | (apply EndX.nil'; apply Wl.catE; (repeat (first | apply CatB.nil | apply CatB.cons))) | (apply Wl.loadAH; exact rfl; exact rfl; (repeat (first | exact List.Mem.head _ | apply List.Mem.tail)); (first | exact ptC_x _ _ _ | exact ptC_y _ _ _ | exact ptC_z _ _ _ | exact poC_x _ _ _ | exact poC_y _ _ _ | exact poD_x _ | exact poD_y _ | exact LSub.whole (ptC_len _ _ _) | exact LSub.whole (poC_len _ _ _) | exact LSub.whole (poD_len _))) | (apply Wl.loadH; exact rfl; exact rfl; (repeat (first | exact List.Mem.head _ | apply List.Mem.tail)); (first | exact poC_n _ _ _ | exact poD_n _)) | (apply Wl.callQ (f := 31); exact rfl; (repeat (first | exact Evs.nil | apply Evs.cons rfl)); (intro wq hq; refine (hRd wq (hMr.hp hq (by (repeat (first | exact trivial | exact hX.off (by omega) | refine ⟨by first | assumption | omega | (simp only; omega), ?_⟩))))).mono ?_; rintro e wr ⟨rfl, hr⟩; exact ⟨rfl, hq.keep hr⟩)) | (apply Wl.neqA (t := 30); exact rfl; exact rfl; exact rfl; kernel_rfl; kernel_rfl; kernel_rfl; kernel_rfl; exact cell32 _ (dlt _); exact cell32 _ (dlt _); (first | with_reducible exact ne8 hTW hRW hTR | with_reducible exact eq8 hTR)) | (apply Wl.loadW; exact rfl; exact rfl; (repeat (first | exact List.Mem.head _ | apply List.Mem.tail)); exact rfl) | (apply Wl.move; exact rfl; exact rfl) | (apply Wl.assign; exact rfl; exact rfl) | (apply Wl.on; exact rfl; exact rfl; (first | with_reducible rfl | with_reducible assumption | decide)) | (apply Wl.off; exact rfl; exact rfl; exact rfl; (first | with_reducible rfl | (show _ = false; with_reducible assumption) | (show _ = true; with_reducible assumption) | decide)) | (apply Wl.pickT; exact rfl; exact rfl; (first | with_reducible rfl | with_reducible assumption | decide); exact rfl) | (apply Wl.pickF; exact rfl; exact rfl; (first | with_reducible rfl | with_reducible assumption | decide); exact rfl) | (apply Wl.fieldAddr0; exact rfl; exact rfl) | (apply Wl.fieldAddrZ; exact rfl; exact rfl) | (apply Wl.nil) | (apply St.seq) | (apply St.region) | (apply St.condT; exact rfl; (first | with_reducible rfl | with_reducible assumption | decide)) | (apply St.condF; exact rfl; (first | with_reducible rfl | with_reducible assumption | decide)) | (apply St.ret) | (apply St.skip) | (apply Gt.next) | (apply Gt.thenRet) | (apply Gt.out1; exact rfl; exact rfl; intro w' hp) | (apply Wl.splitP; exact rfl; exact rfl; all_goals (intros; try (exfalso; omega))) | (apply Wl.splitB; exact rfl; exact rfl; all_goals intros) | (apply St.condP; exact rfl; all_goals (intros; try (exfalso; omega))) | (apply St.condB; exact rfl; all_goals intros))
    · exact ⟨by rw [if_pos (.inl hA0)], hpFin hp hu2 (by simp; omega)⟩
    · exact ⟨by rw [if_neg (by rintro (h | h); exact hA0 h; exact h hTR)], hpFin hp hu2 (by simp; omega)⟩
    · exact ⟨by rw [if_pos (.inr hTR)], hpFin hp hu2 (by simp; omega)⟩
end Go.Proofs.YtfaobdakpbpkbaaDoor
end
section
/-
  SHA-256 for the kernel: sums of closed texts, every number reckoned before it is used. Conditions: none.
-/
namespace Sha
open Go.Pt (updN)
section
variable {β : Type}
/-- rounds over a window of sixteen words -/
def stK (k : Nat → Nat → Nat → Nat → Nat → Nat → Nat → Nat → β) : List Nat → Nat → Nat → Nat → Nat → Nat → Nat → Nat → Nat → Nat → Nat → Nat → Nat → Nat → Nat → Nat → Nat → Nat → Nat → Nat → Nat → Nat → Nat → Nat → Nat → β
  | [], _, _, _, _, _, _, _, _, _, _, _, _, _, _, _, _, a, b, c, d, e, f, g, h => k a b c d e f g h
  | q :: qs, w0, w1, w2, w3, w4, w5, w6, w7, w8, w9, w10, w11, w12, w13, w14, w15, a, b, c, d, e, f, g, h =>
    now (P (P (P (P h (S1 e)) (ch e f g)) q) w0) fun t => now (P t (P (S0 a) (mj a b c))) fun a' => now (P d t) fun e' =>
    now (P (P (P w0 w9) (sg0 w1)) (sg1 w14)) fun n => stK k qs w1 w2 w3 w4 w5 w6 w7 w8 w9 w10 w11 w12 w13 w14 w15 n a' a b c e' e f g
abbrev app8 (k : Nat → Nat → Nat → Nat → Nat → Nat → Nat → Nat → β) (r : Nat → Nat) : β := k (r 0) (r 1) (r 2) (r 3) (r 4) (r 5) (r 6) (r 7)
theorem stK_step (k : Nat → Nat → Nat → Nat → Nat → Nat → Nat → Nat → β) (q : Nat) (qs : List Nat) (w0 w1 w2 w3 w4 w5 w6 w7 w8 w9 w10 w11 w12 w13 w14 w15 a b c d e f g h : Nat) : stK k (q :: qs) w0 w1 w2 w3 w4 w5 w6 w7 w8 w9 w10 w11 w12 w13 w14 w15 a b c d e f g h = stK k qs w1 w2 w3 w4 w5 w6 w7 w8 w9 w10 w11 w12 w13 w14 w15 (P (P (P w0 w9) (sg0 w1)) (sg1 w14)) (P (P (P (P (P h (S1 e)) (ch e f g)) q) w0) (P (S0 a) (mj a b c))) a b c (P d (P (P (P (P h (S1 e)) (ch e f g)) q) w0)) e f g := by
  rw [stK]
  simp only [now_eq]
theorem v80 (a b c d e f g h : Nat) : v8 a b c d e f g h 0 = a := rfl
theorem v84 (a b c d e f g h : Nat) : v8 a b c d e f g h 4 = e := rfl
theorem rnd0 (v : Nat → Nat) (k w : Nat) : rnd v k w 0 = P (tt v k w) (uu v) := by
  unfold rnd
  exact v80 _ _ _ _ _ _ _ _
theorem rnd4 (v : Nat → Nat) (k w : Nat) : rnd v k w 4 = P (v 3) (tt v k w) := by
  unfold rnd
  exact v84 _ _ _ _ _ _ _ _
theorem tt_eq (v : Nat → Nat) (k w : Nat) : tt v k w = P (P (P (P (v 7) (S1 (v 4))) (ch (v 4) (v 5) (v 6))) k) w := by unfold tt; rfl
theorem uu_eq (v : Nat → Nat) : uu v = P (S0 (v 0)) (mj (v 0) (v 1) (v 2)) := by unfold uu; rfl
theorem rndS (v : Nat → Nat) (k w : Nat) : rnd v k w 1 = v 0 ∧ rnd v k w 2 = v 1 ∧ rnd v k w 3 = v 2 ∧ rnd v k w 5 = v 4 ∧ rnd v k w 6 = v 5 ∧ rnd v k w 7 = v 6 := ⟨rfl, rfl, rfl, rfl, rfl, rfl⟩
theorem stK_eq (k : Nat → Nat → Nat → Nat → Nat → Nat → Nat → Nat → β) (W : Nat → Nat) (hW : ∀ i, 16 ≤ i → W i = sch1 W i) (v0 : Nat → Nat) : ∀ (qs : List Nat) (i : Nat), (∀ j, j < qs.length → qs.getD j 0 = K (i + j)) →
    stK k qs (W (i + 0)) (W (i + 1)) (W (i + 2)) (W (i + 3)) (W (i + 4)) (W (i + 5)) (W (i + 6)) (W (i + 7)) (W (i + 8)) (W (i + 9)) (W (i + 10)) (W (i + 11)) (W (i + 12)) (W (i + 13)) (W (i + 14)) (W (i + 15)) (rnds K W v0 i 0) (rnds K W v0 i 1) (rnds K W v0 i 2) (rnds K W v0 i 3) (rnds K W v0 i 4) (rnds K W v0 i 5) (rnds K W v0 i 6) (rnds K W v0 i 7) = app8 k (rnds K W v0 (i + qs.length)) := by
  intro qs
  induction qs with
  | nil => exact fun i _ => rfl
  | cons q qs IH =>
    intro i hq
    have h0 := hq 0 (by simp)
    simp only [List.getD_cons_zero, Nat.add_zero] at h0
    have ih := IH (i + 1) fun j hj => by
      have := hq (j + 1) (by simp; omega)
      simp only [List.getD_cons_succ] at this
      rw [this, show i + (j + 1) = i + 1 + j by omega]
    have e16 := hW (i + 16) (by omega)
    unfold sch1 at e16
    rw [show i + 16 - 16 = i + 0 by omega, show i + 16 - 7 = i + 9 by omega, show i + 16 - 15 = i + 1 by omega, show i + 16 - 2 = i + 14 by omega] at e16
    have er : rnds K W v0 (i + 1) = rnd (rnds K W v0 i) (K i) (W i) := rfl
    have key : ∀ j, i + 1 + j = i + (1 + j) := fun j => by omega
    rw [er] at ih
    obtain ⟨r1, r2, r3, r5, r6, r7⟩ := rndS (rnds K W v0 i) (K i) (W i)
    rw [rnd0, rnd4, tt_eq, uu_eq, r1, r2, r3, r5, r6, r7] at ih
    generalize rnds K W v0 i = v at *
    rw [stK_step, h0]
    rw [show i + 1 + 0 = i + 1 by omega, show i + 1 + 1 = i + 2 by omega, show i + 1 + 2 = i + 3 by omega, show i + 1 + 3 = i + 4 by omega, show i + 1 + 4 = i + 5 by omega, show i + 1 + 5 = i + 6 by omega, show i + 1 + 6 = i + 7 by omega, show i + 1 + 7 = i + 8 by omega, show i + 1 + 8 = i + 9 by omega, show i + 1 + 9 = i + 10 by omega, show i + 1 + 10 = i + 11 by omega, show i + 1 + 11 = i + 12 by omega, show i + 1 + 12 = i + 13 by omega, show i + 1 + 13 = i + 14 by omega, show i + 1 + 14 = i + 15 by omega, show i + 1 + 15 = i + 16 by omega, show i + 1 + qs.length = i + (q :: qs).length by rw [List.length_cons]; omega, e16] at ih
    exact ih
/-- a block -/
def cmK (k : Nat → Nat → Nat → Nat → Nat → Nat → Nat → Nat → β) (a b c d e f g h w0 w1 w2 w3 w4 w5 w6 w7 w8 w9 w10 w11 w12 w13 w14 w15 : Nat) : β := stK (fun xa xb xc xd xe xf xg xh => now (P a xa) fun ya => now (P b xb) fun yb => now (P c xc) fun yc => now (P d xd) fun yd => now (P e xe) fun ye => now (P f xf) fun yf => now (P g xg) fun yg => now (P h xh) fun yh => k ya yb yc yd ye yf yg yh) KL w0 w1 w2 w3 w4 w5 w6 w7 w8 w9 w10 w11 w12 w13 w14 w15 a b c d e f g h
theorem sch_self {f : Nat → Nat} {q j : Nat} (h : j < 16 + q) : sch f q j = sch f j j := by
  rcases Nat.le_total q j with h1 | h1
  · have := sch_stay f q (j - q) h
    rw [show q + (j - q) = j by omega] at this
    exact this.symm
  · have := sch_stay f j (q - j) (j := j) (by omega)
    rw [show j + (q - j) = q by omega] at this
    exact this
theorem sch_inf (f : Nat → Nat) (i : Nat) (h : 16 ≤ i) : sch f i i = sch1 (fun j => sch f j j) i := by
  have e : sch f (i - 15) i = sch1 (sch f (i - 16)) i := by
    rw [show i - 15 = (i - 16) + 1 by omega]
    show updN (sch f (i - 16)) (16 + (i - 16)) _ i = _
    rw [show 16 + (i - 16) = i by omega]
    unfold updN
    rw [if_pos rfl]
  rw [← sch_self (f := f) (q := i - 15) (by omega), e]
  unfold sch1
  rw [sch_self (f := f) (q := i - 16) (j := i - 7) (by omega), sch_self (f := f) (q := i - 16) (j := i - 15) (by omega), sch_self (f := f) (q := i - 16) (j := i - 2) (by omega)]
theorem rnds_congr {W W' v : Nat → Nat} : ∀ n, (∀ j, j < n → W j = W' j) → rnds K W v n = rnds K W' v n
  | 0, _ => rfl
  | n + 1, h => by
    show rnd (rnds K W v n) (K n) (W n) = rnd (rnds K W' v n) (K n) (W' n)
    rw [rnds_congr n fun j hj => h j (by omega), h n (by omega)]
theorem KL_get (j : Nat) : KL.getD j 0 = K j := rfl
theorem cmK_eq (k : Nat → Nat → Nat → Nat → Nat → Nat → Nat → Nat → β) (h p : Nat → Nat) (hp : ∀ j, p j < 256) : cmK k (h 0) (h 1) (h 2) (h 3) (h 4) (h 5) (h 6) (h 7) (word p 0) (word p 1) (word p 2) (word p 3) (word p 4) (word p 5) (word p 6) (word p 7) (word p 8) (word p 9) (word p 10) (word p 11) (word p 12) (word p 13) (word p 14) (word p 15) = app8 k (comp h p) := by
  have hf : ∀ i, i < 16 → sch (ldw p 64) i i = word p i := fun i hi => by
    rw [← sch_self (q := 0) (by omega)]
    show ldw p 64 i = _
    rw [ldw64 hp, if_pos hi]
  have hr : rnds K (sch (ldw p 64) 48) h 64 = rnds K (fun j => sch (ldw p 64) j j) h 64 := rnds_congr 64 fun j hj => sch_self (by omega)
  have := stK_eq (fun xa xb xc xd xe xf xg xh => now (P (h 0) xa) fun ya => now (P (h 1) xb) fun yb => now (P (h 2) xc) fun yc => now (P (h 3) xd) fun yd => now (P (h 4) xe) fun ye => now (P (h 5) xf) fun yf => now (P (h 6) xg) fun yg => now (P (h 7) xh) fun yh => k ya yb yc yd ye yf yg yh) (fun j => sch (ldw p 64) j j) (fun i hi => sch_inf _ i hi) h KL 0 (fun j _ => by rw [KL_get, Nat.zero_add])
  simp only [Nat.zero_add, show KL.length = 64 from rfl] at this
  rw [← hr] at this
  rw [hf 0 (by decide), hf 1 (by decide), hf 2 (by decide), hf 3 (by decide), hf 4 (by decide), hf 5 (by decide), hf 6 (by decide), hf 7 (by decide), hf 8 (by decide), hf 9 (by decide), hf 10 (by decide), hf 11 (by decide), hf 12 (by decide), hf 13 (by decide), hf 14 (by decide), hf 15 (by decide)] at this
  unfold cmK
  refine this.trans ?_
  simp only [now_eq, app8]
  rfl
/-- all blocks -/
def hNK (l : List UInt8) (h0 : Nat → Nat) : Nat → (Nat → Nat → Nat → Nat → Nat → Nat → Nat → Nat → β) → β
  | 0, k => app8 k h0
  | n + 1, k => hNK l h0 n fun a b c d e f g h => now (word (fun j => byteAt l (64 * n + j)) 0) fun w0 => now (word (fun j => byteAt l (64 * n + j)) 1) fun w1 => now (word (fun j => byteAt l (64 * n + j)) 2) fun w2 => now (word (fun j => byteAt l (64 * n + j)) 3) fun w3 => now (word (fun j => byteAt l (64 * n + j)) 4) fun w4 => now (word (fun j => byteAt l (64 * n + j)) 5) fun w5 => now (word (fun j => byteAt l (64 * n + j)) 6) fun w6 => now (word (fun j => byteAt l (64 * n + j)) 7) fun w7 => now (word (fun j => byteAt l (64 * n + j)) 8) fun w8 => now (word (fun j => byteAt l (64 * n + j)) 9) fun w9 => now (word (fun j => byteAt l (64 * n + j)) 10) fun w10 => now (word (fun j => byteAt l (64 * n + j)) 11) fun w11 => now (word (fun j => byteAt l (64 * n + j)) 12) fun w12 => now (word (fun j => byteAt l (64 * n + j)) 13) fun w13 => now (word (fun j => byteAt l (64 * n + j)) 14) fun w14 => now (word (fun j => byteAt l (64 * n + j)) 15) fun w15 => cmK k a b c d e f g h w0 w1 w2 w3 w4 w5 w6 w7 w8 w9 w10 w11 w12 w13 w14 w15
theorem hNK_eq (l : List UInt8) (h0 : Nat → Nat) : ∀ (n : Nat) (k : Nat → Nat → Nat → Nat → Nat → Nat → Nat → Nat → β), hNK l h0 n k = app8 k (hN h0 l n)
  | 0, k => rfl
  | n + 1, k => by
    rw [hNK, hNK_eq l h0 n]
    simp only [now_eq, app8]
    exact cmK_eq k (hN h0 l n) (fun j => byteAt l (64 * n + j)) fun j => byteAt_lt _ _
end
def eqL : List Nat → List UInt8 → Bool
  | [], [] => true
  | x :: r, y :: s => Nat.beq x y.toNat && eqL r s
  | _, _ => false
theorem eqL_eq : ∀ {r : List Nat} {s : List UInt8}, eqL r s = true → r.map UInt8.ofNat = s
  | [], [], _ => rfl
  | x :: r, y :: s, h => by
    simp only [eqL, Bool.and_eq_true] at h
    rw [List.map_cons, eqL_eq h.2, Nat.eq_of_beq_eq_true h.1, UInt8.ofNat_toNat]
def shaB (l out : List UInt8) : Bool := hNK (padded l) H0 ((padded l).length / 64) fun a b c d e f g h => eqL ((List.range 32).map (outB (v8 a b c d e f g h))) out
theorem v8_outB (r : Nat → Nat) : (List.range 32).map (outB (v8 (r 0) (r 1) (r 2) (r 3) (r 4) (r 5) (r 6) (r 7))) = (List.range 32).map (outB r) := rfl
end Sha
namespace Go.Pt
/-- a sum, found by the kernel -/
theorem sha_eq {l out : List UInt8} (h : Sha.shaB l out = true) : shaL l = out := by
  unfold Sha.shaB at h
  rw [Sha.hNK_eq] at h
  simp only [Sha.app8] at h
  rw [Sha.v8_outB] at h
  have := Sha.eqL_eq h
  rw [← this, List.map_map]
  unfold shaL
  rw [Sha.of_eq]
  rfl
end Go.Pt
end
section
/-
  The example of layer 5, reckoned: the signature of "x" by the secret 1 with the number 7; what of "y". Conditions: none.
-/
namespace Go.Proofs.YtfaobdakpbpkbaaDoor
open Go.RowKit Go.Pt
attribute [local irreducible] Prim.P256 Prim.N256
/-- an inverse by Fermat, told by any inverse -/
theorem pwm_inv {a b : Nat} (h : a * b % Prim.N256 = 1) (hb : b < Prim.N256) : pwm Prim.N256 a (Prim.N256 - 2) = b := by
  have h0 : a % Prim.N256 ≠ 0 := fun e => by rw [Nat.mul_mod, e, Nat.zero_mul, Nat.zero_mod] at h; cases h
  have hF := ferm_n a h0
  have h2 : 2 < Prim.N256 := by decide +kernel
  unfold pwm
  generalize Prim.N256 = m at *
  have e1 : a ^ (m - 1) = a * a ^ (m - 2) := by rw [← Nat.pow_succ', show (m - 2).succ = m - 1 by omega]
  have : a ^ (m - 2) % m = b * (a * a ^ (m - 2)) % m := by
    rw [← Nat.mul_assoc, Nat.mul_comm b a, Nat.mul_mod, h, Nat.one_mul, Nat.mod_mod]
  rw [this, ← e1, Nat.mul_mod, hF, Nat.mul_one, Nat.mod_mod, Nat.mod_eq_of_lt hb]
theorem sm_mod (n : Nat) : sm3 n (some curG) = sm3 (n % Prim.N256) (some curG) := by
  have h1 := Ec.sm_add disc3 onG (Prim.N256 * (n / Prim.N256)) (n % Prim.N256)
  have h2 := Ec.sm_mul disc3 onG Prim.N256 (n / Prim.N256)
  rw [Nat.div_add_mod] at h1
  rw [Nat.mul_comm, h2, show Ec.sm Ec.A3 Prim.N256 (some curG) = none from ordG, Ec.sm_none] at h1
  exact h1
theorem two_one (u v : Nat) : add3 (sm3 u (some curG)) (sm3 v (some curG)) = sm3 ((u + v) % Prim.N256) (some curG) := by
  rw [← sm_mod]
  exact (Ec.sm_add disc3 onG u v).symm
def x7 : Nat := 0x8e533b6fa0bf7b4625bb30667c01fb607ef9f8b8a80fef5b300628703187b2a3
def y7 : Nat := 0x73eb1dbde03318366d069f83a6f5900053c73633cb041b21c55e1a86c1f400b4
theorem lad7 : lad Prim.P256 7 curG.1.val curG.2.val 256 1 1 0 (fun x y z => !(Nat.beq z 0) && (Nat.beq (x7 * (z * z) % Prim.P256) x && Nat.beq (y7 * (z * z * z) % Prim.P256) y)) = true := by decide +kernel
theorem sm7 : sm3 7 (some curG) = some (nF x7, nF y7) := sm_some_of (by decide) onG lad7
theorem r_of {k x y : Nat} (h : sm3 k (some curG) = some (nF x, nF y)) : sigR k = x % Prim.P256 % Prim.N256 := by
  unfold sigR
  rw [h]
  rfl
theorem s_of {d k r e i s : Nat} {l : List UInt8} (h1 : pwm Prim.N256 k (Prim.N256 - 2) = i) (h2 : sigR k = r) (h3 : eN l = e) (h4 : i * ((e + r * d % Prim.N256) % Prim.N256) % Prim.N256 = s) : sigS d k l = s := by
  unfold sigS
  rw [h1, h2, h3]
  exact h4
theorem r7 : sigR 7 = x7 := (r_of sm7).trans (by decide +kernel)
theorem sumX : shaL [120] = [0x2d, 0x71, 0x16, 0x42, 0xb7, 0x26, 0xb0, 0x44, 0x01, 0x62, 0x7c, 0xa9, 0xfb, 0xac, 0x32, 0xf5, 0xc8, 0x53, 0x0f, 0xb1, 0x90, 0x3c, 0xc4, 0xdb, 0x02, 0x25, 0x87, 0x17, 0x92, 0x1a, 0x48, 0x81] := sha_eq (by decide +kernel)
theorem sumY : shaL [121] = [0xa1, 0xfc, 0xe4, 0x36, 0x38, 0x54, 0xff, 0x88, 0x8c, 0xff, 0x4b, 0x8e, 0x78, 0x75, 0xd6, 0x00, 0xc2, 0x68, 0x23, 0x90, 0x41, 0x2a, 0x8c, 0xf7, 0x9b, 0x37, 0xd0, 0xb1, 0x11, 0x48, 0xb0, 0xfa] := sha_eq (by decide +kernel)
def eX : Nat := 0x2d711642b726b04401627ca9fbac32f5c8530fb1903cc4db02258717921a4881
def eY : Nat := 0xa1fce4363854ff888cff4b8e7875d600c2682390412a8cf79b37d0b11148b0fa
theorem eN_x : eN [120] = eX := by
  unfold eN
  rw [sumX]
  decide +kernel
theorem eN_y : eN [121] = eY := by
  unfold eN
  rw [sumY]
  decide +kernel
def s7 : Nat := 0x1ad2e7197a4573ef2a28cf94a362069e9c78b80f2c9d3e50e29886ca4084dabc
def k7i : Nat := 0x49249248db6db6dbb6db6db6db6db6db5a8b230d0b2b51dcd7ebf0c9fef7c185
def s7i : Nat := 0xe048f4aad2fb8716bf3b5eb9d3a7e439b300f005e71b5131d114a55250e94c4c
theorem inv7 : pwm Prim.N256 7 (Prim.N256 - 2) = k7i := pwm_inv (by decide +kernel) (by decide +kernel)
theorem invS : pwm Prim.N256 s7 (Prim.N256 - 2) = s7i := pwm_inv (by decide +kernel) (by decide +kernel)
theorem s7_eq : sigS 1 7 [120] = s7 := s_of inv7 r7 eN_x (by decide +kernel)
def uX : Nat := 0x2ea2fcc342deb05554bb7ccae68dd2729ae49f18c4c8d3eb8c8c62f5cdf653ca
def uY : Nat := 0x7dc28118af6b39061a93ebc47c6c2c3ee415732fd10e4a3938b2c64d3ef5330f
def v7 : Nat := 0xd15d033bbd214fabab44833519722d8d22025b94e24eca99672d67cd2e6cd18e
theorem uX_eq : eN [120] * pwm Prim.N256 s7 (Prim.N256 - 2) % Prim.N256 = uX := by
  rw [eN_x, invS]
  decide +kernel
theorem uY_eq : eN [121] * pwm Prim.N256 s7 (Prim.N256 - 2) % Prim.N256 = uY := by
  rw [eN_y, invS]
  decide +kernel
theorem v7_eq : x7 * pwm Prim.N256 s7 (Prim.N256 - 2) % Prim.N256 = v7 := by
  rw [invS]
  decide +kernel
theorem aX : add3 (sm3 uX (some curG)) (sm3 v7 (some curG)) = some (nF x7, nF y7) := by
  rw [two_one, show (uX + v7) % Prim.N256 = 7 by decide +kernel, sm7]
def nY : Nat := 0x4f1f84556c8c88b0c5d86ef995de59cc4930d4170c45764dac26635770fedf4c
def xY : Nat := 0x4e4b3eaa4d15335eef66a9670f2681648050fb33475cdd91c4229a3863b5c40e
def yY : Nat := 0xfab20493b49eb2ead12573d8c51c6e17ec3d0c5f92dc349283a6c82b9b155924
theorem ladY : lad Prim.P256 nY curG.1.val curG.2.val 256 1 1 0 (fun x y z => !(Nat.beq z 0) && (Nat.beq (xY * (z * z) % Prim.P256) x && Nat.beq (yY * (z * z * z) % Prim.P256) y)) = true := by decide +kernel
theorem aY : add3 (sm3 uY (some curG)) (sm3 v7 (some curG)) = some (nF xY, nF yY) := by
  rw [two_one, show (uY + v7) % Prim.N256 = nY by decide +kernel]
  exact sm_some_of (by decide +kernel) onG ladY
theorem poX_some (a b : Nat) : poX (some (nF a, nF b)) = a % Prim.P256 := rfl
end Go.Proofs.YtfaobdakpbpkbaaDoor
end
section
/-
  A byte literal converted to its own type (the model marks it): its block is let go, it reads as it did. Conditions: none.
-/
namespace Go.Pt
open Go.RowKit
theorem run_conv_mk {P : Program} {w : World} {t e : TypeId} {c n m : Nat} {cs : Array Value} {fr : Nat × Nat} (ht : P.underlying t = some (.slice e)) (he : P.underlying e = some (.int .u8)) (h : w.heap[c]? = some (.cells cs e fr)) :
    ∃ w' fr', (convert t t (.slice (some ⟨c, 0, none⟩) n m)).run P w = .ok (.slice (some ⟨c, 0, none⟩) n m) w' ∧ w'.heap[c]? = some (.cells cs e fr') ∧ Upd (· = c) w w' := by
  have hsh : w.shape? c = some (e, cs.size) := by unfold World.shape?; rw [h]
  have hlt := lt_of_block h
  refine ⟨w.freeze ⟨c, cs.size, none⟩ 1, if fr.1 == fr.2 then (cs.size, cs.size + 1) else (min fr.1 cs.size, max fr.2 (cs.size + 1)), ?_, ?_, ?_⟩
  · simp [convert, run_underlying ht, run_underlying he, markStringish, hsh]
  · have h' : w.heap[c] = .cells cs e fr := by simpa [Array.getElem?_eq_getElem hlt] using h
    unfold World.freeze
    rw [if_neg (by decide)]
    show (w.heap.modify c _)[c]? = _
    rw [Array.getElem?_eq_getElem (by simpa using hlt), Array.getElem_modify_self, h']
  · refine ⟨rfl, rfl, rfl, by simp [World.freeze], fun k hk hs => ?_⟩
    unfold World.freeze
    rw [if_neg (by decide)]
    show (w.heap.modify c _)[k]? = _
    rw [Array.getElem?_modify, if_neg (fun e => hs e.symm)]
theorem Wl.convMk {P : Program} {N : Nat} {ops : Array Oper} {rest : List Oper} {Γ : Env} {Q : Exit → Act → World → Prop} {d T : Nat} {ty : TypeId} {pos : String} {af : Array Edge} {t : TypeId} {x : Operand} {w0 : World} {H : List Blk} {c n : Nat} {cs : List Value} (l : List UInt8) [ht : TyD P t (.slice T)] [he : TyD P T (.int .u8)] (hd : Nat.blt d N = true)
    (hx : ev Γ x = some (.slice (some ⟨c, 0, none⟩) n n)) (hn : n = l.length) (hcs : cs = byteCells l) (hl : l.length ≤ maxLen) (hc0 : w0.heap.size ≤ c)
    (h : ∀ w1, Bs w1 (.slice (some ⟨c, 0, none⟩) n n) l → Upd (fun k => ¬ Off H k) w0 w1 → Own w1 H → Apart H → Off H c → c < w1.heap.size → Wl rest P .seq ops N ((d, .slice (some ⟨c, 0, none⟩) n n) :: Γ) (Hp w1 H) Q) :
    Wl (⟨some d, .convert t t x, ty, pos, af, none⟩ :: rest) P .seq ops N Γ (Hp w0 (⟨c, cs, T⟩ :: H)) Q :=
  Wl.eff fun a w ha hw => by
    subst hcs hn
    obtain ⟨w', fr', hr, hc, hu⟩ := run_conv_mk (P := P) (w := w) (t := t) (n := l.length) (m := l.length) ht.out he.out hw.own.1
    have hown : Own w' H := hw.own.2.upd hu fun y hy e => (hw.apart.1).at hy (by simpa using e)
    refine ⟨_, w', .inl ?_, (h w' (Bs.ofBlk hc hl) ?_ hown hw.apart.2 hw.apart.1 (lt_of_block hc)).elim _ _ (ha.put hd _) ⟨Upd.refl _ _, hown, hw.apart.2⟩⟩
    · simp only [execOp, ha.ev hx]
      simp [hr]
    · exact hw.upd.comp hu fun k hk hs => hs.elim (fun y e => y ⟨fun e' => by simp only at e'; omega, e⟩) fun e => by have e' : k = c := e; exact absurd e' (by omega)
end Go.Pt
end
section
/-
  porticolaw05.fit. Conditions: the table of SHA-256 is laid.
-/
namespace Go.Proofs.YtfaobdakpbpkbaaDoor
open Go.RowKit Go.Pt
attribute [local irreducible] Prim.P256 Prim.N256
theorem seven16 : [Value.int .u64 7, .int .u64 0, .int .u64 0, .int .u64 0, .int .u64 0, .int .u64 0, .int .u64 0, .int .u64 0, .int .u64 0, .int .u64 0, .int .u64 0, .int .u64 0, .int .u64 0, .int .u64 0, .int .u64 0, .int .u64 0] = cellsN .u64 16 (dg D16 7) := by kernel_rfl
def gx : Nat := 0x6B17D1F2E12C4247F8BCE6E563A440F277037D812DEB33A0F4A13945D898C296
def gy : Nat := 0x4FE342E2FE1A7F9B8EE7EB4A7C0F9E162BCE33576B315ECECBB6406837BF51F5
/-- the key of the secret 1 -/
def keyG : List UInt8 := beL gx ++ beL gy
theorem gx_eq : poX (some curG) = gx := by decide +kernel
theorem gy_eq : poY (some curG) = gy := by decide +kernel
theorem keyG_eq : beL (poX (some curG)) ++ beL (poY (some curG)) = keyG := by rw [gx_eq, gy_eq]; rfl
theorem keyG_len : keyG.length = 64 := by unfold keyG; rw [List.length_append, beL_len, beL_len]
theorem keyG_take : keyG.take 32 = beL gx := by unfold keyG; rw [List.take_append_of_le_length (by rw [beL_len]; decide), List.take_of_length_le (by rw [beL_len]; decide)]
theorem keyG_drop : keyG.drop 32 = beL gy := by
  unfold keyG
  rw [show (32 : Nat) = (beL gx).length from (beL_len _).symm, List.drop_left]
theorem gx_W : gx < W256 := by decide +kernel
theorem gy_W : gy < W256 := by decide +kernel
theorem keyG_x : rdL (keyG.take 32) = gx := by rw [keyG_take, rd_beL gx_W]
theorem keyG_y : rdL (keyG.drop 32) = gy := by rw [keyG_drop, rd_beL gy_W]
theorem onB_g : onB gx gy = true := by decide +kernel
theorem gG : some (nF gx, nF gy) = some curG := rfl
def sig7 : List UInt8 := beL x7 ++ beL s7
theorem sig7_len : sig7.length = 64 := by unfold sig7; rw [List.length_append, beL_len, beL_len]
theorem sig7_take : sig7.take 32 = beL x7 := by unfold sig7; rw [List.take_append_of_le_length (by rw [beL_len]; decide), List.take_of_length_le (by rw [beL_len]; decide)]
theorem sig7_drop : sig7.drop 32 = beL s7 := by
  unfold sig7
  rw [show (32 : Nat) = (beL x7).length from (beL_len _).symm, List.drop_left]
theorem x7_W : x7 < W256 := by decide +kernel
theorem s7_W : s7 < W256 := by decide +kernel
theorem sig7_r : rdL (sig7.take 32) = x7 := by rw [sig7_take, rd_beL x7_W]
theorem sig7_s : rdL (sig7.drop 32) = s7 := by rw [sig7_drop, rd_beL s7_W]
theorem ver_x : verA x7 s7 (some (nF x7, nF y7)) = 0 := by
  unfold verA
  rw [poX_some, if_neg (by decide +kernel), if_neg (by rintro (h | h); cases h; exact absurd h (by decide +kernel))]
theorem ver_y : verA x7 s7 (some (nF xY, nF yY)) = 4 := by
  unfold verA
  rw [poX_some, if_neg (by decide +kernel), if_pos (.inr (by decide +kernel))]
/-- the signature verified -/
theorem signG (kv mv gv : Value) (m : List UInt8) (w : World) (hK : ArrAt w 0 0 .u32 64 Sha.K) (hv : Bs w kv keyG) (hvl : ∀ k, kv.ownBlock = some k → k < w.heap.size) (hm : Bs w mv m) (hmn : m.length < 100000000) (hmv : m ≠ [] → ∀ k, mv.ownBlock = some k → k < w.heap.size) (hg : Bs w gv sig7)
    (u : Nat) (A : Ec.Pt) (hu : eN m * pwm Prim.N256 s7 (Prim.N256 - 2) % Prim.N256 = u) (hA : A = add3 (sm3 u (some curG)) (sm3 v7 (some curG))) (a : Int) (ha : verA x7 s7 A = a) :
    Calls Tryd.prog 8 #[kv, mv, gv] w fun e w' => e = .returned (.int .i64 a) ∧ Hp w [] w' := by
  have := signVerM kv mv gv keyG m sig7 w hK hv hvl keyG_len (by rw [keyG_x, keyG_y]; exact onB_g) hm hmn hmv hg sig7_len u v7 A (by rw [sig7_s]; exact hu) (by rw [sig7_r, sig7_s]; exact v7_eq) (by rw [keyG_x, keyG_y, gG]; exact hA)
  rw [sig7_r, sig7_s, ha] at this
  exact this
set_option maxHeartbeats 8000000 in
theorem fit05 (w : World) (hK : ArrAt w 0 0 .u32 64 Sha.K) : Calls Tryd.prog 7 #[] w fun e w' => e = .returned (.bool true) ∧ Hp w [] w' := by
  have h0K := hK.lt (by decide)
  refine enter (args := []) (Γ := []) Tryd.func7 Tryd.ntmps7 rfl (of_decide_eq_true rfl) .nil ?_
  repeat' (first | (apply Wl.buildN; exact rfl; (repeat (first | exact Parts.nil | apply Parts.cons rfl)); (repeat (first | apply Fills.nil | (apply Fills.one; exact rfl; exact rfl; (repeat (first | apply LSet.z | apply LSet.s))) | (apply Fills.agg; exact rfl; exact rfl; (repeat (first | apply LPut.s | apply LPut.z | apply LOver.nil | apply LOver.cons))))); (first | exact one16 | exact seven16)) | (apply Wl.assign; exact rfl; exact rfl) | (apply Wl.nil) | (apply St.seq) | (apply St.region) | (apply Gt.next) | (apply Wl.splitP; exact rfl; exact rfl; all_goals (intros; try (exfalso; omega))) | (apply Wl.splitB; exact rfl; exact rfl; all_goals intros) | (apply St.condP; exact rfl; all_goals (intros; try (exfalso; omega))) | (apply St.condB; exact rfl; all_goals intros))
  apply Wl.callC
  · exact rfl
  · (repeat (first | exact Evs.nil | apply Evs.cons rfl))
  intro wq hq
  refine (refPublic 1 (some curG) wq (by decide) (Ec.sm_one _).symm).mono ?_
  rintro e w1 ⟨kv, rfl, hb1, u1⟩
  have hq1 := hpNewer hq u1
  have s1 := hq.upd.size
  have s2 := u1.size
  refine ⟨_, _, rfl, hpRb hq1, ?_⟩
  rw [keyG_eq] at hb1
  have hb1 : Bo w1 w.heap.size kv keyG := Bo.lower hb1 (by omega)
  have hu1 : Upd (fun k => w.heap.size ≤ k) w w1 := hpOn hq1 (Upd.refl _ _) (by simp)
  clear hq hq1
  repeat' (first | (apply Wl.buildN; exact rfl; (repeat (first | exact Parts.nil | apply Parts.cons rfl)); (repeat (first | apply Fills.nil | (apply Fills.one; exact rfl; exact rfl; (repeat (first | apply LSet.z | apply LSet.s))) | (apply Fills.agg; exact rfl; exact rfl; (repeat (first | apply LPut.s | apply LPut.z | apply LOver.nil | apply LOver.cons))))); (first | exact one16 | exact seven16)) | (apply Wl.lit; exact rfl; (repeat (first | exact Parts.nil | apply Parts.cons rfl)); exact rfl; exact rfl; (repeat (first | apply CatP.nil | (apply CatP.one; exact rfl; exact rfl) | (apply CatP.agg; exact rfl) | apply LApp.nil | apply LApp.cons)); intro c hc ho) | (apply Wl.splitP; exact rfl; exact rfl; all_goals (intros; try (exfalso; omega))) | (apply Wl.splitB; exact rfl; exact rfl; all_goals intros) | (apply St.condP; exact rfl; all_goals (intros; try (exfalso; omega))) | (apply St.condB; exact rfl; all_goals intros))
  generalize c = c1 at *
  have hc1 : w1.heap.size ≤ c1 := by assumption
  apply Wl.convMk [120]
  · exact rfl
  · exact rfl
  · exact rfl
  · exact rfl
  · decide
  · exact hc1
  intro w2 hx2 u2 _ _ _ l2
  have hb2 : Bo w2 w.heap.size kv keyG := hb1.upd u2 fun k hk hs => hs trivial
  have hu2 : Upd (fun k => w.heap.size ≤ k) w w2 := hu1.comp u2 fun k hk hs => hs.elim id fun hs => absurd trivial hs
  have sz2 := u2.size
  clear hb1 hu1 u2
  repeat' (first | (apply Wl.splitP; exact rfl; exact rfl; all_goals (intros; try (exfalso; omega))) | (apply Wl.splitB; exact rfl; exact rfl; all_goals intros) | (apply St.condP; exact rfl; all_goals (intros; try (exfalso; omega))) | (apply St.condB; exact rfl; all_goals intros))
  apply Wl.callC
  · exact rfl
  · (repeat (first | exact Evs.nil | apply Evs.cons rfl))
  intro wq hq
  have s3 := hq.upd.size
  refine (refSign 1 7 _ [120] wq (bsNew hx2 hq (by simp)) (by decide) (fun _ k hk => by cases hk; show c1 < _; omega) (by decide +kernel) (by decide +kernel) (by rw [r7]; decide +kernel) (by rw [s7_eq]; decide +kernel)).mono ?_
  rintro e w3 ⟨gv, rfl, hg, u3⟩
  rw [r7, s7_eq] at hg
  have hg : Bo w3 w.heap.size gv sig7 := Bo.lower hg (by omega)
  have hq3 := hpNewer hq u3
  have sz3 := u3.size
  refine ⟨_, _, rfl, hpRb hq3, ?_⟩
  have hb3 : Bo w3 w.heap.size kv keyG := (hb2.upd hq.upd fun k hk hs => hs trivial).upd u3 fun k hk hs => by have := (hb2.lt k hk).2; omega
  have hu3 : Upd (fun k => w.heap.size ≤ k) w w3 := hpOn hq3 hu2 (by simp)
  clear hb2 hu2 u3 hq3 hq hx2
  repeat' (first | (apply Wl.move; exact rfl; exact rfl) | (apply Wl.assign; exact rfl; exact rfl) | (apply Wl.lit; exact rfl; (repeat (first | exact Parts.nil | apply Parts.cons rfl)); exact rfl; exact rfl; (repeat (first | apply CatP.nil | (apply CatP.one; exact rfl; exact rfl) | (apply CatP.agg; exact rfl) | apply LApp.nil | apply LApp.cons)); intro c hc ho) | (apply Wl.nil) | (apply St.seq) | (apply St.region) | (apply Gt.next) | (apply Wl.splitP; exact rfl; exact rfl; all_goals (intros; try (exfalso; omega))) | (apply Wl.splitB; exact rfl; exact rfl; all_goals intros) | (apply St.condP; exact rfl; all_goals (intros; try (exfalso; omega))) | (apply St.condB; exact rfl; all_goals intros))
  generalize c = c2 at *
  have hc2 : w3.heap.size ≤ c2 := by assumption
  apply Wl.convMk [120]
  · exact rfl
  · exact rfl
  · exact rfl
  · exact rfl
  · decide
  · exact hc2
  intro w4 hx4 u4 _ _ _ l4
  have hb4 : Bo w4 w.heap.size kv keyG := hb3.upd u4 fun k hk hs => hs trivial
  have hg4 : Bo w4 w.heap.size gv sig7 := hg.upd u4 fun k hk hs => hs trivial
  have hu4 : Upd (fun k => w.heap.size ≤ k) w w4 := hu3.comp u4 fun k hk hs => hs.elim id fun hs => absurd trivial hs
  have sz4 := u4.size
  clear hb3 hg hu3 u4
  repeat' (first | (apply Wl.move; exact rfl; exact rfl) | (apply Wl.splitP; exact rfl; exact rfl; all_goals (intros; try (exfalso; omega))) | (apply Wl.splitB; exact rfl; exact rfl; all_goals intros) | (apply St.condP; exact rfl; all_goals (intros; try (exfalso; omega))) | (apply St.condB; exact rfl; all_goals intros))
  apply Wl.callQ
  · exact rfl
  · (repeat (first | exact Evs.nil | apply Evs.cons rfl))
  · intro wq hq
    have hbq := hb4.upd hq.upd fun k hk hs => hs trivial
    have hgq := hg4.upd hq.upd fun k hk hs => hs trivial
    have s5 := hq.upd.size
    refine (signG kv _ gv [120] wq ((hK.upd hu4 (by omega)).upd hq.upd (fun y => y trivial)) hbq.bs (fun k hk => (hbq.lt k hk).2) (bsNew hx4 hq (by simp)) (by decide) (fun _ k hk => by cases hk; show c2 < _; omega) hgq.bs uX _ uX_eq rfl 0 (by rw [aX]; exact ver_x)).mono ?_
    rintro e wr ⟨rfl, hr⟩
    exact ⟨rfl, hq.keep hr⟩
  repeat' (first | (apply Wl.move; exact rfl; exact rfl) | (apply Wl.on; exact rfl; exact rfl; (first | with_reducible rfl | with_reducible assumption | decide)) | (apply Wl.eqlIs; exact rfl; exact rfl; exact rfl; (first | with_reducible assumption | with_reducible rfl)) | (apply Wl.lit; exact rfl; (repeat (first | exact Parts.nil | apply Parts.cons rfl)); exact rfl; exact rfl; (repeat (first | apply CatP.nil | (apply CatP.one; exact rfl; exact rfl) | (apply CatP.agg; exact rfl) | apply LApp.nil | apply LApp.cons)); intro c hc ho) | (apply Wl.splitP; exact rfl; exact rfl; all_goals (intros; try (exfalso; omega))) | (apply Wl.splitB; exact rfl; exact rfl; all_goals intros) | (apply St.condP; exact rfl; all_goals (intros; try (exfalso; omega))) | (apply St.condB; exact rfl; all_goals intros))
  generalize c = c3 at *
  have hc3 : w4.heap.size ≤ c3 := by assumption
  apply Wl.convMk [121]
  · exact rfl
  · exact rfl
  · exact rfl
  · exact rfl
  · decide
  · exact hc3
  intro w5 hx5 u5 _ _ _ l5
  have hb5 : Bo w5 w.heap.size kv keyG := hb4.upd u5 fun k hk hs => hs trivial
  have hg5 : Bo w5 w.heap.size gv sig7 := hg4.upd u5 fun k hk hs => hs trivial
  have hu5 : Upd (fun k => w.heap.size ≤ k) w w5 := hu4.comp u5 fun k hk hs => hs.elim id fun hs => absurd trivial hs
  have sz5 := u5.size
  clear hb4 hg4 hu4 u5
  repeat' (first | (apply Wl.move; exact rfl; exact rfl) | (apply Wl.on; exact rfl; exact rfl; (first | with_reducible rfl | with_reducible assumption | decide)) | (apply Wl.splitP; exact rfl; exact rfl; all_goals (intros; try (exfalso; omega))) | (apply Wl.splitB; exact rfl; exact rfl; all_goals intros) | (apply St.condP; exact rfl; all_goals (intros; try (exfalso; omega))) | (apply St.condB; exact rfl; all_goals intros))
  apply Wl.callQ
  · exact rfl
  · (repeat (first | exact Evs.nil | apply Evs.cons rfl))
  · intro wq hq
    have hbq := hb5.upd hq.upd fun k hk hs => hs trivial
    have hgq := hg5.upd hq.upd fun k hk hs => hs trivial
    have s5 := hq.upd.size
    refine (signG kv _ gv [121] wq ((hK.upd hu5 (by omega)).upd hq.upd (fun y => y trivial)) hbq.bs (fun k hk => (hbq.lt k hk).2) (bsNew hx5 hq (by simp)) (by decide) (fun _ k hk => by cases hk; show c3 < _; omega) hgq.bs uY _ uY_eq rfl 4 (by rw [aY]; exact ver_y)).mono ?_
    rintro e wr ⟨rfl, hr⟩
    exact ⟨rfl, hq.keep hr⟩
  repeat' (first | (apply Wl.move; exact rfl; exact rfl) | (apply Wl.on; exact rfl; exact rfl; (first | with_reducible rfl | with_reducible assumption | decide)) | (apply Wl.pickT; exact rfl; exact rfl; (first | with_reducible rfl | with_reducible assumption | decide); exact rfl) | (apply Wl.eqlIs; exact rfl; exact rfl; exact rfl; (first | with_reducible assumption | with_reducible rfl)) | (apply Wl.splitP; exact rfl; exact rfl; all_goals (intros; try (exfalso; omega))) | (apply Wl.splitB; exact rfl; exact rfl; all_goals intros) | (apply St.condP; exact rfl; all_goals (intros; try (exfalso; omega))) | (apply St.condB; exact rfl; all_goals intros))
  obtain ⟨ka, kc, rfl, hkc, hkm⟩ := hb5.bs.shape
  obtain ⟨ab, off, rfl, hcell⟩ := hb5.bs.cells (fun e => by have := keyG_len; rw [e] at this; cases this)
  rw [keyG_len] at hb5 hkc ⊢
  have hko : ab < w5.heap.size := (hb5.lt ab rfl).2
  have hkl := keyG_len
  have ht : Bs w5 (.slice (some ⟨ab, off + 1, none⟩) (64 - 1) (kc - 1)) (keyG.drop 1) := by
    have := hb5.bs.sub (lo := 1) (hi := 64) (mx := kc) (by omega) (by omega) (by omega) (by omega)
    rw [List.take_of_length_le (show keyG.length ≤ 64 by rw [keyG_len]; decide)] at this
    simpa [Addr.add, show ¬ kc = 1 by omega] using this
  repeat' (first | (apply Wl.sliceFrom 1; exact rfl; exact rfl; exact rfl; exact rfl; (decide); exact hkc; exact rfl) | (apply Wl.callQ; exact rfl; (repeat (first | exact Evs.nil | apply Evs.cons rfl)); (intro wq hq; refine (signVer5 _ _ _ (keyG.drop 1) wq (bsNew ht hq (by simp)) (fun _ k hk => by cases hk; exact Nat.lt_of_lt_of_le hko hq.upd.size) (.inl (by rw [List.length_drop, keyG_len]; decide))).mono ?_); (rintro e wr ⟨rfl, hr⟩; exact ⟨rfl, hq.keep hr⟩)) | (apply Wl.move; exact rfl; exact rfl) | (apply Wl.assign; exact rfl; exact rfl) | (apply Wl.on; exact rfl; exact rfl; (first | with_reducible rfl | with_reducible assumption | decide)) | (apply Wl.pickT; exact rfl; exact rfl; (first | with_reducible rfl | with_reducible assumption | decide); exact rfl) | (apply Wl.eqlIs; exact rfl; exact rfl; exact rfl; (first | with_reducible assumption | with_reducible rfl)) | (apply Wl.nil) | (apply St.ret) | (apply Gt.next) | (apply Gt.out1; exact rfl; exact rfl; intro w' hp) | (apply Wl.splitP; exact rfl; exact rfl; all_goals (intros; try (exfalso; omega))) | (apply Wl.splitB; exact rfl; exact rfl; all_goals intros) | (apply St.condP; exact rfl; all_goals (intros; try (exfalso; omega))) | (apply St.condB; exact rfl; all_goals intros))
  exact ⟨rfl, hpFin hp hu5 (by simp)⟩
end Go.Proofs.YtfaobdakpbpkbaaDoor
end
section
/-
  SignDecides, SignKeys. Conditions: the table of SHA-256 is laid.
-/
namespace Go.Pt
theorem Bs.old {w : World} {v : Value} {l : List UInt8} (h : Bs w v l) (hne : l ≠ []) : ∀ k, v.ownBlock = some k → k < w.heap.size := by
  obtain ⟨a, cap, rfl, _, _⟩ := h.shape
  obtain ⟨ab, off, rfl, hcell⟩ := h.cells hne
  intro k hk
  cases hk
  have := hcell 0 (List.length_pos_iff.2 hne)
  apply Classical.byContradiction
  intro hn
  rw [World.cell?, Array.getElem?_eq_none (by simpa using hn)] at this
  cases this
end Go.Pt
namespace Go.Proofs.YtfaobdakpbpkbaaDoor
open Go.RowKit Go.Pt
attribute [local irreducible] Prim.P256 Prim.N256
set_option maxHeartbeats 8000000 in
theorem decides05 (kv mv gv : Value) (l m g : List UInt8) (w : World) (hK : ArrAt w 0 0 .u32 64 Sha.K) (hv : Bs w kv l) (hm : Bs w mv m) (hg : Bs w gv g) : Calls Tryd.prog 3 #[kv, mv, gv] w fun e w' => e = .returned (.bool true) ∧ Hp w [] w' := by
  obtain ⟨ma, mc, rfl, hmc, hmm⟩ := hm.shape
  have hKq : ∀ {wq : World}, Hp w [] wq → ArrAt wq 0 0 .u32 64 Sha.K := fun hq => hK.upd hq.upd (fun y => y trivial)
  refine enter (args := [_, _, _]) (Γ := [(0, _), (1, _), (2, _)]) Tryd.func3 Tryd.ntmps3 rfl (of_decide_eq_true rfl) (.cons rfl (.cons rfl (.cons rfl .nil))) ?_
  by_cases h3 : (m.length : Int) > 300
  · have hd : decide ((m.length : Int) > 300) = true := decide_eq_true h3
    repeat' (first | (apply Wl.callQ (f := 7); exact rfl; (repeat (first | exact Evs.nil | apply Evs.cons rfl)); (intro wq hq; refine (fit05 wq (hKq hq)).mono ?_; rintro e wr ⟨rfl, hr⟩; exact ⟨rfl, hq.keep hr⟩)) | (apply Wl.move; exact rfl; exact rfl) | (apply Wl.assign; exact rfl; exact rfl) | (apply Wl.off; exact rfl; exact rfl; exact rfl; (first | with_reducible rfl | (show _ = false; with_reducible assumption) | (show _ = true; with_reducible assumption) | decide)) | (apply Wl.pickT; exact rfl; exact rfl; (first | with_reducible rfl | with_reducible assumption | decide); exact rfl) | (apply Wl.not; exact rfl; exact rfl) | (apply Wl.gtr; exact rfl; exact rfl; exact rfl) | (apply Wl.len; exact rfl; exact rfl) | (apply Wl.nil) | (apply St.seq) | (apply St.region) | (apply St.condF; exact rfl; (first | with_reducible rfl | with_reducible assumption | decide)) | (apply St.ret) | (apply St.skip) | (apply Gt.next) | (apply Gt.out1; exact rfl; exact rfl; intro w' hp) | (apply Wl.splitP; exact rfl; exact rfl; all_goals (intros; try (exfalso; omega))) | (apply Wl.splitB; exact rfl; exact rfl; all_goals intros) | (apply St.condP; exact rfl; all_goals (intros; try (exfalso; omega))) | (apply St.condB; exact rfl; all_goals intros))
    exact ⟨rfl, hp.drop (by simp)⟩
  have hd : decide ((m.length : Int) > 300) = false := decide_eq_false h3
  have hlen : m.length < 100000000 := by omega
  have hmo : ∀ {wq : World}, Hp w [] wq → m ≠ [] → ∀ k, (Value.slice ma m.length mc).ownBlock = some k → k < wq.heap.size := fun hq hne k hk => Nat.lt_of_lt_of_le (hm.old hne k hk) hq.upd.size
  by_cases hk : keyNo l
  · repeat' (first | (apply Wl.callQ (f := 7); exact rfl; (repeat (first | exact Evs.nil | apply Evs.cons rfl)); (intro wq hq; refine (fit05 wq (hKq hq)).mono ?_; rintro e wr ⟨rfl, hr⟩; exact ⟨rfl, hq.keep hr⟩)) | (apply Wl.callQ (f := 8); exact rfl; (repeat (first | exact Evs.nil | apply Evs.cons rfl)); (intro wq hq; refine (signVer5 _ _ _ l wq (bsNew hv hq (by simp)) (fun hne k hk => Nat.lt_of_lt_of_le (hv.old hne k hk) hq.upd.size) hk).mono ?_; rintro e wr ⟨rfl, hr⟩; exact ⟨rfl, hq.keep hr⟩)) | (apply Wl.callQ (f := 9); exact rfl; (repeat (first | exact Evs.nil | apply Evs.cons rfl)); (intro wq hq; refine (refVer5 _ _ _ l wq (bsNew hv hq (by simp)) hk).mono ?_; rintro e wr ⟨rfl, hr⟩; exact ⟨rfl, hq.keep hr⟩)) | (apply Wl.move; exact rfl; exact rfl) | (apply Wl.assign; exact rfl; exact rfl) | (apply Wl.on; exact rfl; exact rfl; (first | with_reducible rfl | with_reducible assumption | decide)) | (apply Wl.pickF; exact rfl; exact rfl; (first | with_reducible rfl | with_reducible assumption | decide); exact rfl) | (apply Wl.not; exact rfl; exact rfl) | (apply Wl.eqlIs; exact rfl; exact rfl; exact rfl; (first | with_reducible assumption | with_reducible rfl)) | (apply Wl.gtr; exact rfl; exact rfl; exact rfl) | (apply Wl.len; exact rfl; exact rfl) | (apply Wl.nil) | (apply St.seq) | (apply St.region) | (apply St.condF; exact rfl; (first | with_reducible rfl | with_reducible assumption | decide)) | (apply St.ret) | (apply St.skip) | (apply Gt.next) | (apply Gt.out1; exact rfl; exact rfl; intro w' hp) | (apply Wl.splitP; exact rfl; exact rfl; all_goals (intros; try (exfalso; omega))) | (apply Wl.splitB; exact rfl; exact rfl; all_goals intros) | (apply St.condP; exact rfl; all_goals (intros; try (exfalso; omega))) | (apply St.condB; exact rfl; all_goals intros))
    exact ⟨rfl, hp.drop (by simp)⟩
  have hl : l.length = 64 := Classical.byContradiction fun h => hk (.inl h)
  have hon : onB (rdL (l.take 32)) (rdL (l.drop 32)) = true := by
    cases h : onB (rdL (l.take 32)) (rdL (l.drop 32))
    · exact absurd (.inr h) hk
    · rfl
  have hko : ∀ {wq : World}, Hp w [] wq → ∀ k, kv.ownBlock = some k → k < wq.heap.size := fun hq k hk => Nat.lt_of_lt_of_le (hv.old (fun e => by subst e; cases hl) k hk) hq.upd.size
  by_cases hgl : g.length = 64
  · obtain ⟨U1, hu1⟩ : ∃ U1, eN m * pwm Prim.N256 (rdL (g.drop 32)) (Prim.N256 - 2) % Prim.N256 = U1 := ⟨_, rfl⟩
    obtain ⟨V1, hv1⟩ : ∃ V1, rdL (g.take 32) * pwm Prim.N256 (rdL (g.drop 32)) (Prim.N256 - 2) % Prim.N256 = V1 := ⟨_, rfl⟩
    obtain ⟨A, hA⟩ : ∃ A, A = add3 (sm3 U1 (some curG)) (sm3 V1 (some (nF (rdL (l.take 32)), nF (rdL (l.drop 32))))) := ⟨_, rfl⟩
    have hP := fun wq (hq : Hp w [] wq) => signVerM kv _ gv l m g wq (hKq hq) (bsNew hv hq (by simp)) (hko hq) hl hon (bsNew hm hq (by simp)) hlen (hmo hq) (bsNew hg hq (by simp)) hgl U1 V1 A hu1 hv1 hA
    have hR := fun wq (hq : Hp w [] wq) => refVerM kv _ gv l m g wq (bsNew hv hq (by simp)) hl hon (bsNew hm hq (by simp)) hlen (hmo hq) (bsNew hg hq (by simp)) hgl U1 V1 A hu1 hv1 hA
    clear hu1 hv1 hA
    generalize verA (rdL (g.take 32)) (rdL (g.drop 32)) A = a at *
    repeat' (first | (apply Wl.callQ (f := 7); exact rfl; (repeat (first | exact Evs.nil | apply Evs.cons rfl)); (intro wq hq; refine (fit05 wq (hKq hq)).mono ?_; rintro e wr ⟨rfl, hr⟩; exact ⟨rfl, hq.keep hr⟩)) | (apply Wl.callQ (f := 8); exact rfl; (repeat (first | exact Evs.nil | apply Evs.cons rfl)); (intro wq hq; refine (hP wq hq).mono ?_; rintro e wr ⟨rfl, hr⟩; exact ⟨rfl, hq.keep hr⟩)) | (apply Wl.callQ (f := 9); exact rfl; (repeat (first | exact Evs.nil | apply Evs.cons rfl)); (intro wq hq; refine (hR wq hq).mono ?_; rintro e wr ⟨rfl, hr⟩; exact ⟨rfl, hq.keep hr⟩)) | (apply Wl.move; exact rfl; exact rfl) | (apply Wl.assign; exact rfl; exact rfl) | (apply Wl.on; exact rfl; exact rfl; (first | with_reducible rfl | with_reducible assumption | decide)) | (apply Wl.pickF; exact rfl; exact rfl; (first | with_reducible rfl | with_reducible assumption | decide); exact rfl) | (apply Wl.not; exact rfl; exact rfl) | (apply Wl.eqlIs; exact rfl; exact rfl; exact rfl; (first | with_reducible assumption | with_reducible rfl)) | (apply Wl.gtr; exact rfl; exact rfl; exact rfl) | (apply Wl.len; exact rfl; exact rfl) | (apply Wl.nil) | (apply St.seq) | (apply St.region) | (apply St.condF; exact rfl; (first | with_reducible rfl | with_reducible assumption | decide)) | (apply St.ret) | (apply St.skip) | (apply Gt.next) | (apply Gt.out1; exact rfl; exact rfl; intro w' hp) | (apply Wl.splitP; exact rfl; exact rfl; all_goals (intros; try (exfalso; omega))) | (apply Wl.splitB; exact rfl; exact rfl; all_goals intros) | (apply St.condP; exact rfl; all_goals (intros; try (exfalso; omega))) | (apply St.condB; exact rfl; all_goals intros))
    exact ⟨rfl, hp.drop (by simp)⟩
  · repeat' (first | (apply Wl.callQ (f := 7); exact rfl; (repeat (first | exact Evs.nil | apply Evs.cons rfl)); (intro wq hq; refine (fit05 wq (hKq hq)).mono ?_; rintro e wr ⟨rfl, hr⟩; exact ⟨rfl, hq.keep hr⟩)) | (apply Wl.callQ (f := 8); exact rfl; (repeat (first | exact Evs.nil | apply Evs.cons rfl)); (intro wq hq; refine (signVer4 _ _ _ l g wq (bsNew hv hq (by simp)) (hko hq) hl hon (bsNew hg hq (by simp)) hgl).mono ?_; rintro e wr ⟨rfl, hr⟩; exact ⟨rfl, hq.keep hr⟩)) | (apply Wl.callQ (f := 9); exact rfl; (repeat (first | exact Evs.nil | apply Evs.cons rfl)); (intro wq hq; refine (refVer4 _ _ _ l g wq (bsNew hv hq (by simp)) hl hon (bsNew hg hq (by simp)) hgl).mono ?_; rintro e wr ⟨rfl, hr⟩; exact ⟨rfl, hq.keep hr⟩)) | (apply Wl.move; exact rfl; exact rfl) | (apply Wl.assign; exact rfl; exact rfl) | (apply Wl.on; exact rfl; exact rfl; (first | with_reducible rfl | with_reducible assumption | decide)) | (apply Wl.pickF; exact rfl; exact rfl; (first | with_reducible rfl | with_reducible assumption | decide); exact rfl) | (apply Wl.not; exact rfl; exact rfl) | (apply Wl.eqlIs; exact rfl; exact rfl; exact rfl; (first | with_reducible assumption | with_reducible rfl)) | (apply Wl.gtr; exact rfl; exact rfl; exact rfl) | (apply Wl.len; exact rfl; exact rfl) | (apply Wl.nil) | (apply St.seq) | (apply St.region) | (apply St.condF; exact rfl; (first | with_reducible rfl | with_reducible assumption | decide)) | (apply St.ret) | (apply St.skip) | (apply Gt.next) | (apply Gt.out1; exact rfl; exact rfl; intro w' hp) | (apply Wl.splitP; exact rfl; exact rfl; all_goals (intros; try (exfalso; omega))) | (apply Wl.splitB; exact rfl; exact rfl; all_goals intros) | (apply St.condP; exact rfl; all_goals (intros; try (exfalso; omega))) | (apply St.condB; exact rfl; all_goals intros))
    exact ⟨rfl, hp.drop (by simp)⟩
set_option maxHeartbeats 8000000 in
theorem keys05 (kv : Value) (l : List UInt8) (w : World) (hK : ArrAt w 0 0 .u32 64 Sha.K) (hv : Bs w kv l) : Calls Tryd.prog 4 #[kv] w fun e w' => e = .returned (.bool true) ∧ Hp w [] w' := by
  obtain ⟨ka, kc, rfl, hkc, hkm⟩ := hv.shape
  have hKq : ∀ {wq : World}, Hp w [] wq → ArrAt wq 0 0 .u32 64 Sha.K := fun hq => hK.upd hq.upd (fun y => y trivial)
  refine enter (args := [_]) (Γ := [(0, _)]) Tryd.func4 Tryd.ntmps4 rfl (of_decide_eq_true rfl) (.cons rfl .nil) ?_
  by_cases hl : l.length = 64
  · have hko : ∀ {wq : World} {H : List Blk}, Hp w H wq → ∀ k, (Value.slice ka l.length kc).ownBlock = some k → k < wq.heap.size := fun hq k hk => Nat.lt_of_lt_of_le (hv.old (fun e => by subst e; cases hl) k hk) hq.upd.size
    have hd : decide ((l.length : Int) ≠ 64) = false := decide_eq_false (by omega)
    have hd2 : decide ((l.length : Int) = 64) = true := decide_eq_true (by omega)
    have hT1 : (false == decide ((l.length : Int) ≠ 64)) = true := by rw [hd]; rfl
    have hq1 : decide ((3 : Int) = 2) = decide ((l.length : Int) ≠ 64) := by rw [hd]; rfl
    have hq2 : decide ((3 : Int) = 3) = decide ((l.length : Int) = 64) := by rw [hd2]; rfl
    have hP := fun wq hb ho => signKey (.slice ka l.length kc) l wq hb ho hl
    have hR := fun wq hb => refKey (.slice ka l.length kc) l wq hb hl
    obtain ⟨X, hX⟩ : ∃ X, X = rdL (l.take 32) := ⟨_, rfl⟩
    obtain ⟨Y, hY⟩ : ∃ Y, Y = rdL (l.drop 32) := ⟨_, rfl⟩
    rw [← hX, ← hY] at hP hR
    have hXW : X < W256 := hX ▸ rdL_lt _
    have hYW : Y < W256 := hY ▸ rdL_lt _
    cases hon : onB X Y
    · rw [hon] at hP hR
      simp only [if_neg (show ¬ (false = true) by decide)] at hP hR
      repeat' (first | (apply Wl.callQ (f := 7); exact rfl; (repeat (first | exact Evs.nil | apply Evs.cons rfl)); (intro wq hq; refine (fit05 wq (hKq hq)).mono ?_; rintro e wr ⟨rfl, hr⟩; exact ⟨rfl, hq.keep hr⟩)) | (apply Wl.callQ (f := 10); exact rfl; (repeat (first | exact Evs.nil | apply Evs.cons rfl)); (intro wq hq; refine (hP wq (bsNew hv hq (by simp)) (hko hq)).mono ?_; rintro e wr ⟨rfl, hr⟩; exact ⟨rfl, hq.keep hr⟩)) | (apply Wl.callQ (f := 11); exact rfl; (repeat (first | exact Evs.nil | apply Evs.cons rfl)); (intro wq hq; refine (hR wq (bsNew hv hq (by simp; omega))).mono ?_; rintro e wr ⟨rfl, hr⟩; exact ⟨rfl, hq.keep hr⟩)) | (apply Wl.allocC (t := 32); exact rfl; exact zPo; intro c hc ho) | (apply Wl.storeAll; exact rfl; exact rfl; (repeat (first | apply HSet.here | apply HSet.there)); (first | exact ptC_len _ _ _ | exact poC_len _ _ _ | exact poD_len _); (first | exact rfl | exact ptC_len _ _ _ | exact poC_len _ _ _ | exact poD_len _); (first | exact ptC_one _ _ _ | exact poC_one _ _ _ | exact poD_one _)) | (apply Wl.allocC (t := 39); exact rfl; exact zRp; intro c hc ho) | (apply Wl.storeAll; exact rfl; exact rfl; (repeat (first | apply HSet.here | apply HSet.there)); (first | exact rpC_len _ _ _); (first | exact rfl | exact rpC_len _ _ _); (first | exact rpC_one _ _ _)) | (apply Wl.loadAH; exact rfl; exact rfl; (repeat (first | exact List.Mem.head _ | apply List.Mem.tail)); (first | exact ptC_x _ _ _ | exact ptC_y _ _ _ | exact ptC_z _ _ _ | exact poC_x _ _ _ | exact poC_y _ _ _ | exact poD_x _ | exact poD_y _ | exact LSub.whole (ptC_len _ _ _) | exact LSub.whole (poC_len _ _ _) | exact LSub.whole (poD_len _))) | (apply Wl.eqlA (t := 30); exact rfl; exact rfl; exact rfl; kernel_rfl; kernel_rfl; kernel_rfl; kernel_rfl; exact cell32 _ (dlt _); exact cell32 _ (dlt _); with_reducible exact eq8 rfl) | (apply Wl.buildN; exact rfl; (repeat (first | exact Parts.nil | apply Parts.cons rfl)); (repeat (first | apply Fills.nil | (apply Fills.one; exact rfl; exact rfl; (repeat (first | apply LSet.z | apply LSet.s))) | (apply Fills.agg; exact rfl; exact rfl; (repeat (first | apply LPut.s | apply LPut.z | apply LOver.nil | apply LOver.cons))))); (first | exact one8 | exact zero8 | exact two8 | exact one16)) | (apply Wl.move; exact rfl; exact rfl) | (apply Wl.assign; exact rfl; exact rfl) | (apply Wl.on; exact rfl; exact rfl; (first | with_reducible rfl | with_reducible assumption | decide)) | (apply Wl.extract; exact rfl; exact rfl; exact rfl) | (apply Wl.pickT; exact rfl; exact rfl; (first | with_reducible rfl | with_reducible assumption | decide); exact rfl) | (apply Wl.not; exact rfl; exact rfl) | (apply Wl.fieldAddr0; exact rfl; exact rfl) | (apply Wl.eqlIs; exact rfl; exact rfl; exact rfl; (first | with_reducible assumption | with_reducible rfl)) | (apply Wl.eql; exact rfl; exact rfl; exact rfl) | (apply Wl.neq; exact rfl; exact rfl; exact rfl) | (apply Wl.eqlBs; exact rfl; exact rfl; exact rfl; (first | with_reducible assumption | with_reducible rfl)) | (apply Wl.eqlB; exact rfl; exact rfl; exact rfl) | (apply Wl.len; exact rfl; exact rfl) | (apply Wl.nil) | (apply St.seq) | (apply St.region) | (apply St.condT; exact rfl; (first | with_reducible rfl | with_reducible assumption | decide)) | (apply St.condF; exact rfl; (first | with_reducible rfl | with_reducible assumption | decide)) | (apply St.ret) | (apply St.skip) | (apply Gt.next) | (apply Gt.thenRet) | (apply Gt.out1; exact rfl; exact rfl; intro w' hp))
      exact ⟨by first | rfl | (rw [hd2]; rfl), hp.drop (by simp; omega)⟩
    · rw [hon] at hP hR
      simp only [if_pos] at hP hR
      repeat' (first | (apply Wl.callQ (f := 7); exact rfl; (repeat (first | exact Evs.nil | apply Evs.cons rfl)); (intro wq hq; refine (fit05 wq (hKq hq)).mono ?_; rintro e wr ⟨rfl, hr⟩; exact ⟨rfl, hq.keep hr⟩)) | (apply Wl.callQ (f := 10); exact rfl; (repeat (first | exact Evs.nil | apply Evs.cons rfl)); (intro wq hq; refine (hP wq (bsNew hv hq (by simp)) (hko hq)).mono ?_; rintro e wr ⟨rfl, hr⟩; exact ⟨rfl, hq.keep hr⟩)) | (apply Wl.callQ (f := 11); exact rfl; (repeat (first | exact Evs.nil | apply Evs.cons rfl)); (intro wq hq; refine (hR wq (bsNew hv hq (by simp; omega))).mono ?_; rintro e wr ⟨rfl, hr⟩; exact ⟨rfl, hq.keep hr⟩)) | (apply Wl.allocC (t := 32); exact rfl; exact zPo; intro c hc ho) | (apply Wl.storeAll; exact rfl; exact rfl; (repeat (first | apply HSet.here | apply HSet.there)); (first | exact ptC_len _ _ _ | exact poC_len _ _ _ | exact poD_len _); (first | exact rfl | exact ptC_len _ _ _ | exact poC_len _ _ _ | exact poD_len _); (first | exact ptC_one _ _ _ | exact poC_one _ _ _ | exact poD_one _)) | (apply Wl.allocC (t := 39); exact rfl; exact zRp; intro c hc ho) | (apply Wl.storeAll; exact rfl; exact rfl; (repeat (first | apply HSet.here | apply HSet.there)); (first | exact rpC_len _ _ _); (first | exact rfl | exact rpC_len _ _ _); (first | exact rpC_one _ _ _)) | (apply St.bagX 23 [22]; exact mixed; (decide +kernel); kernel_rfl) | (apply OpsX.nil) | (apply OpsX.v; (intro X hX; change Wl [_] _ _ _ _ _ _ _; apply Wl.catX; (repeat (first | apply CatB.nil | apply CatB.cons)))) | (apply Gt.endX; exact rfl) | (apply EndX.on; exact rfl) | (apply EndX.off; exact rfl) | (apply EndX.nil'; apply Wl.catE; (repeat (first | apply CatB.nil | apply CatB.cons))) | (apply Wl.loadAH; exact rfl; exact rfl; (repeat (first | exact List.Mem.head _ | apply List.Mem.tail)); (first | exact ptC_x _ _ _ | exact ptC_y _ _ _ | exact ptC_z _ _ _ | exact poC_x _ _ _ | exact poC_y _ _ _ | exact poD_x _ | exact poD_y _ | exact LSub.whole (ptC_len _ _ _) | exact LSub.whole (poC_len _ _ _) | exact LSub.whole (poD_len _))) | (apply Wl.loadH; exact rfl; exact rfl; (repeat (first | exact List.Mem.head _ | apply List.Mem.tail)); (first | exact poC_n _ _ _ | exact poD_n _)) | (apply Wl.loadAH; exact rfl; exact rfl; (repeat (first | exact List.Mem.head _ | apply List.Mem.tail)); (first | exact rpC_x _ _ _ | exact rpC_y _ _ _ | exact rpC_z _ _ _ | exact LSub.whole (rpC_len _ _ _))) | (apply Wl.callQ (f := 12); exact rfl; (repeat (first | exact Evs.nil | apply Evs.cons rfl)); (intro wq hq; refine (refWords _ wq).mono ?_; rintro e wr ⟨rfl, hr⟩; exact ⟨rfl, hq.keep hr⟩)) | (apply Wl.eqlA (t := 30); exact rfl; exact rfl; exact rfl; kernel_rfl; kernel_rfl; kernel_rfl; kernel_rfl; exact cell32 _ (dlt _); exact cell32 _ (dlt _); with_reducible exact eq8 rfl) | (apply Wl.move; exact rfl; exact rfl) | (apply Wl.assign; exact rfl; exact rfl) | (apply Wl.on; exact rfl; exact rfl; (first | with_reducible rfl | with_reducible assumption | decide)) | (apply Wl.extract; exact rfl; exact rfl; exact rfl) | (apply Wl.pickT; exact rfl; exact rfl; (first | with_reducible rfl | with_reducible assumption | decide); exact rfl) | (apply Wl.not; exact rfl; exact rfl) | (apply Wl.fieldAddr0; exact rfl; exact rfl) | (apply Wl.fieldAddrZ; exact rfl; exact rfl) | (apply Wl.eqlIs; exact rfl; exact rfl; exact rfl; (first | with_reducible assumption | with_reducible rfl)) | (apply Wl.nil) | (apply St.seq) | (apply St.region) | (apply St.condF; exact rfl; (first | with_reducible rfl | with_reducible assumption | decide)) | (apply St.ret) | (apply St.skip) | (apply Gt.next) | (apply Gt.out1; exact rfl; exact rfl; intro w' hp) | (apply Wl.splitP; exact rfl; exact rfl; all_goals (intros; try (exfalso; omega))) | (apply Wl.splitB; exact rfl; exact rfl; all_goals intros) | (apply St.condP; exact rfl; all_goals (intros; try (exfalso; omega))) | (apply St.condB; exact rfl; all_goals intros))
      exact ⟨rfl, hp.drop (by simp; omega)⟩
  · have hd : decide ((l.length : Int) ≠ 64) = true := decide_eq_true (by omega)
    have hd2 : decide ((l.length : Int) = 64) = false := decide_eq_false (by omega)
    have hT1 : (true == decide ((l.length : Int) ≠ 64)) = true := by rw [hd]; rfl
    have hq1 : decide ((2 : Int) = 2) = decide ((l.length : Int) ≠ 64) := by rw [hd]; rfl
    have hq2 : decide ((2 : Int) = 3) = decide ((l.length : Int) = 64) := by rw [hd2]; rfl
    repeat' (first | (apply Wl.callQ (f := 7); exact rfl; (repeat (first | exact Evs.nil | apply Evs.cons rfl)); (intro wq hq; refine (fit05 wq (hKq hq)).mono ?_; rintro e wr ⟨rfl, hr⟩; exact ⟨rfl, hq.keep hr⟩)) | (apply Wl.callQ (f := 10); exact rfl; (repeat (first | exact Evs.nil | apply Evs.cons rfl)); (intro wq hq; refine (signKeyN _ l wq (bsNew hv hq (by simp)) hl).mono ?_; rintro e wr ⟨rfl, hr⟩; exact ⟨rfl, hq.keep hr⟩)) | (apply Wl.callQ (f := 11); exact rfl; (repeat (first | exact Evs.nil | apply Evs.cons rfl)); (intro wq hq; refine (refKeyN _ l wq (bsNew hv hq (by simp; omega)) hl).mono ?_; rintro e wr ⟨rfl, hr⟩; exact ⟨rfl, hq.keep hr⟩)) | (apply Wl.allocC (t := 32); exact rfl; exact zPo; intro c hc ho) | (apply Wl.storeAll; exact rfl; exact rfl; (repeat (first | apply HSet.here | apply HSet.there)); (first | exact ptC_len _ _ _ | exact poC_len _ _ _ | exact poD_len _); (first | exact rfl | exact ptC_len _ _ _ | exact poC_len _ _ _ | exact poD_len _); (first | exact ptC_one _ _ _ | exact poC_one _ _ _ | exact poD_one _)) | (apply Wl.allocC (t := 39); exact rfl; exact zRp; intro c hc ho) | (apply Wl.storeAll; exact rfl; exact rfl; (repeat (first | apply HSet.here | apply HSet.there)); (first | exact rpC_len _ _ _); (first | exact rfl | exact rpC_len _ _ _); (first | exact rpC_one _ _ _)) | (apply Wl.loadAH; exact rfl; exact rfl; (repeat (first | exact List.Mem.head _ | apply List.Mem.tail)); (first | exact ptC_x _ _ _ | exact ptC_y _ _ _ | exact ptC_z _ _ _ | exact poC_x _ _ _ | exact poC_y _ _ _ | exact poD_x _ | exact poD_y _ | exact LSub.whole (ptC_len _ _ _) | exact LSub.whole (poC_len _ _ _) | exact LSub.whole (poD_len _))) | (apply Wl.eqlA (t := 30); exact rfl; exact rfl; exact rfl; kernel_rfl; kernel_rfl; kernel_rfl; kernel_rfl; exact cell32 _ (dlt _); exact cell32 _ (dlt _); with_reducible exact eq8 rfl) | (apply Wl.buildN; exact rfl; (repeat (first | exact Parts.nil | apply Parts.cons rfl)); (repeat (first | apply Fills.nil | (apply Fills.one; exact rfl; exact rfl; (repeat (first | apply LSet.z | apply LSet.s))) | (apply Fills.agg; exact rfl; exact rfl; (repeat (first | apply LPut.s | apply LPut.z | apply LOver.nil | apply LOver.cons))))); (first | exact one8 | exact zero8 | exact two8 | exact one16)) | (apply Wl.move; exact rfl; exact rfl) | (apply Wl.assign; exact rfl; exact rfl) | (apply Wl.on; exact rfl; exact rfl; (first | with_reducible rfl | with_reducible assumption | decide)) | (apply Wl.extract; exact rfl; exact rfl; exact rfl) | (apply Wl.pickT; exact rfl; exact rfl; (first | with_reducible rfl | with_reducible assumption | decide); exact rfl) | (apply Wl.not; exact rfl; exact rfl) | (apply Wl.fieldAddr0; exact rfl; exact rfl) | (apply Wl.eqlIs; exact rfl; exact rfl; exact rfl; (first | with_reducible assumption | with_reducible rfl)) | (apply Wl.eql; exact rfl; exact rfl; exact rfl) | (apply Wl.neq; exact rfl; exact rfl; exact rfl) | (apply Wl.eqlBs; exact rfl; exact rfl; exact rfl; (first | with_reducible assumption | with_reducible rfl)) | (apply Wl.eqlB; exact rfl; exact rfl; exact rfl) | (apply Wl.len; exact rfl; exact rfl) | (apply Wl.nil) | (apply St.seq) | (apply St.region) | (apply St.condT; exact rfl; (first | with_reducible rfl | with_reducible assumption | decide)) | (apply St.condF; exact rfl; (first | with_reducible rfl | with_reducible assumption | decide)) | (apply St.ret) | (apply St.skip) | (apply Gt.next) | (apply Gt.thenRet) | (apply Gt.out1; exact rfl; exact rfl; intro w' hp))
    exact ⟨by first | rfl | (rw [hd2]; rfl), hp.drop (by simp; omega)⟩
end Go.Proofs.YtfaobdakpbpkbaaDoor
end
