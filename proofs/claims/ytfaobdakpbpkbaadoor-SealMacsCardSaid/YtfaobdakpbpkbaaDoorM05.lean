/-
  7 texts, one behind the other; each says what it proves. Conditions: as each text says.
-/
import Derived.Test.YtfaobdakpbpkbaaDoorM04
import Derived.Test.YtfaobdakpbpkbaaDoorM01
import Derived.ArgAppend
import Derived.Lib.SliceRun
section
/-
  sign.scalar, sign.Verify. Conditions: the message is short; its bytes, the key's and the signature's, are older than the call; the table of SHA-256 is laid.
-/
namespace Go.Proofs.YtfaobdakpbpkbaaDoor
open Go.RowKit Go.Pt
attribute [local irreducible] Prim.P256 Prim.N256
theorem ne8 {a b : Nat} (ha : a < W256) (hb : b < W256) (h : a ≠ b) : false = true ↔ ∀ j, j < 8 → dg W32 a j = dg W32 b j :=
  (show false = decide (a = b) from (decide_eq_false h).symm) ▸ d8_inj ha hb
theorem eq8 {a b : Nat} (h : a = b) : true = true ↔ ∀ j, j < 8 → dg W32 a j = dg W32 b j := ⟨fun _ _ _ => by rw [h], fun _ => rfl⟩
theorem hpTrS {w0 w1 w2 : World} {H : List Blk} {c t t' : Nat} {cs cs' : List Value} (h1 : Hp w0 (⟨c, cs, t⟩ :: H) w1) (h2 : Hp w1 (⟨c, cs', t'⟩ :: H) w2) (hx : w0.heap.size ≤ c) : Hp w0 H w2 :=
  hpPopS (x := ⟨c, cs', t'⟩) ⟨(show Upd (fun k => ¬ Off (⟨c, cs', t'⟩ :: H) k) w0 w1 from h1.upd).trans h2.upd, h2.own, h2.apart⟩ hx
theorem newModN (w : World) : Calls Tryd.prog 21 #[numV Prim.N256] w fun e w' => ∃ b, e = .returned (.tuple #[mp b, .int .i64 0]) ∧ w.heap.size ≤ b ∧ ModV w' b Prim.N256 ∧ Hp w [] w' := by
  refine (modNew Prim.N256 nW w).mono ?_
  rintro e w' (⟨_, _, b, h⟩ | ⟨h, _⟩)
  · exact ⟨b, h⟩
  · exact absurd ⟨n_odd, by decide +kernel⟩ h
theorem uv_eq {m a s k : Nat} (ho : m % 2 = 1) : a * W256 % m * pw m (s * W256 % m) k * rinv m % m * rinv m % m = a * pwm m s k % m := by
  rw [pw_in ho, in_mul ho, outIn ho]
  unfold pwm
  rw [Nat.mul_mod_mod]
def okS (n : Nat) : Bool := decide (n ≠ 0) && decide (n < Prim.N256)
theorem sigScalar (n : Nat) (w : World) (hn : n < W256) : Calls Tryd.prog 20 #[numV n] w fun e w' => e = .returned (.bool (okS n)) ∧ Hp w [] w' := by
  have hz := fun wq => limbZero n wq hn
  refine enter (args := [_]) (Γ := [(0, _)]) Tryd.func20 Tryd.ntmps20 rfl (of_decide_eq_true rfl) (.cons rfl .nil) ?_
  unfold okS
  have hcs : n = 0 ∨ (n ≠ 0 ∧ n < Prim.N256) ∨ (n ≠ 0 ∧ ¬ n < Prim.N256) := by omega
  rcases hcs with h0 | ⟨h0, h1⟩ | ⟨h0, h1⟩
  · rw [decide_eq_true h0] at hz
    rw [decide_eq_false (p := n ≠ 0) (fun h => h h0), Bool.false_and]
    repeat' (first | (apply St.bagX 9 [8]; exact mixed; (decide +kernel); kernel_rfl) | (apply OpsX.nil) | (apply OpsX.v; (intro X hX; change Wl [_] _ _ _ _ _ _ _; apply Wl.catX; (repeat (first | apply CatB.nil | apply CatB.cons)))) | (apply Gt.endX; exact rfl) | (apply EndX.on; exact rfl) | (apply EndX.off; exact rfl) | (apply EndX.nil'; apply Wl.catE; (repeat (first | apply CatB.nil | apply CatB.cons))) | (apply Wl.callQ (f := 55); exact rfl; (repeat (first | exact Evs.nil | apply Evs.cons rfl)); (intro wq hq; refine (hz wq).mono ?_; rintro e wr ⟨rfl, hr⟩; exact ⟨rfl, hq.keep hr⟩)) | (apply Wl.loadW; exact rfl; exact rfl; (repeat (first | exact List.Mem.head _ | apply List.Mem.tail)); exact rfl) | (apply Wl.boxN; exact rfl; exact rfl; intro c hc ho) | (apply Wl.move; exact rfl; exact rfl) | (apply Wl.assign; exact rfl; exact rfl) | (apply Wl.off; exact rfl; exact rfl; exact rfl; (first | with_reducible rfl | (show _ = false; with_reducible assumption) | (show _ = true; with_reducible assumption) | decide)) | (apply Wl.pickF; exact rfl; exact rfl; (first | with_reducible rfl | with_reducible assumption | decide); exact rfl) | (apply Wl.not; exact rfl; exact rfl) | (apply Wl.nil) | (apply St.seq) | (apply St.region) | (apply St.ret) | (apply Gt.next) | (apply Gt.out1; exact rfl; exact rfl; intro w' hp) | (apply Wl.splitP; exact rfl; exact rfl; all_goals (intros; try (exfalso; omega))) | (apply Wl.splitB; exact rfl; exact rfl; all_goals intros) | (apply St.condP; exact rfl; all_goals (intros; try (exfalso; omega))) | (apply St.condB; exact rfl; all_goals intros))
    exact ⟨rfl, hp.drop (by simp; omega)⟩
  · rw [decide_eq_false h0] at hz
    rw [decide_eq_true (p := n ≠ 0) h0, decide_eq_true h1, Bool.true_and]
    have hCmp : cmpN n Prim.N256 = -1 := cmp_lt h1
    repeat' (first | (apply St.bagX 9 [8]; exact mixed; (decide +kernel); kernel_rfl) | (apply OpsX.nil) | (apply OpsX.v; (intro X hX; change Wl [_] _ _ _ _ _ _ _; apply Wl.catX; (repeat (first | apply CatB.nil | apply CatB.cons)))) | (apply Gt.endX; exact rfl) | (apply EndX.on; exact rfl) | (apply EndX.off; exact rfl) | (apply EndX.nil'; apply Wl.catE; (repeat (first | apply CatB.nil | apply CatB.cons))) | (apply Wl.callQ (f := 55); exact rfl; (repeat (first | exact Evs.nil | apply Evs.cons rfl)); (intro wq hq; refine (hz wq).mono ?_; rintro e wr ⟨rfl, hr⟩; exact ⟨rfl, hq.keep hr⟩)) | (apply Wl.callQ (f := 22); exact rfl; (repeat (first | exact Evs.nil | apply Evs.cons rfl)); (intro wq hq; refine (curOrder wq).mono ?_; rintro e wr ⟨rfl, hr⟩; exact ⟨rfl, hq.keep hr⟩)) | (apply Wl.callQ (f := 56); exact rfl; (repeat (first | exact Evs.nil | apply Evs.cons rfl)); (intro wq hq; refine (gCmp hn nW hCmp wq).mono ?_; rintro e wr ⟨rfl, hr⟩; exact ⟨rfl, hq.keep hr⟩)) | (apply Wl.loadW; exact rfl; exact rfl; (repeat (first | exact List.Mem.head _ | apply List.Mem.tail)); exact rfl) | (apply Wl.boxN; exact rfl; exact rfl; intro c hc ho) | (apply Wl.move; exact rfl; exact rfl) | (apply Wl.assign; exact rfl; exact rfl) | (apply Wl.on; exact rfl; exact rfl; (first | with_reducible rfl | with_reducible assumption | decide)) | (apply Wl.pickT; exact rfl; exact rfl; (first | with_reducible rfl | with_reducible assumption | decide); exact rfl) | (apply Wl.not; exact rfl; exact rfl) | (apply Wl.lss; exact rfl; exact rfl; exact rfl) | (apply Wl.nil) | (apply St.seq) | (apply St.region) | (apply St.ret) | (apply Gt.next) | (apply Gt.out1; exact rfl; exact rfl; intro w' hp) | (apply Wl.splitP; exact rfl; exact rfl; all_goals (intros; try (exfalso; omega))) | (apply Wl.splitB; exact rfl; exact rfl; all_goals intros) | (apply St.condP; exact rfl; all_goals (intros; try (exfalso; omega))) | (apply St.condB; exact rfl; all_goals intros))
    exact ⟨rfl, hp.drop (by simp; omega)⟩
  · rw [decide_eq_false h0] at hz
    rw [decide_eq_true (p := n ≠ 0) h0, decide_eq_false h1, Bool.true_and]
    obtain ⟨q, hCmp⟩ : ∃ q, cmpN n Prim.N256 = q := ⟨_, rfl⟩
    have hq0 : 0 ≤ q := hCmp ▸ cmp_ge h1
    have hlt : decide (q < 0) = false := decide_eq_false (by omega)
    repeat' (first | (apply St.bagX 9 [8]; exact mixed; (decide +kernel); kernel_rfl) | (apply OpsX.nil) | (apply OpsX.v; (intro X hX; change Wl [_] _ _ _ _ _ _ _; apply Wl.catX; (repeat (first | apply CatB.nil | apply CatB.cons)))) | (apply Gt.endX; exact rfl) | (apply EndX.on; exact rfl) | (apply EndX.off; exact rfl) | (apply EndX.nil'; apply Wl.catE; (repeat (first | apply CatB.nil | apply CatB.cons))) | (apply Wl.callQ (f := 55); exact rfl; (repeat (first | exact Evs.nil | apply Evs.cons rfl)); (intro wq hq; refine (hz wq).mono ?_; rintro e wr ⟨rfl, hr⟩; exact ⟨rfl, hq.keep hr⟩)) | (apply Wl.callQ (f := 22); exact rfl; (repeat (first | exact Evs.nil | apply Evs.cons rfl)); (intro wq hq; refine (curOrder wq).mono ?_; rintro e wr ⟨rfl, hr⟩; exact ⟨rfl, hq.keep hr⟩)) | (apply Wl.callQ (f := 56); exact rfl; (repeat (first | exact Evs.nil | apply Evs.cons rfl)); (intro wq hq; refine (gCmp hn nW hCmp wq).mono ?_; rintro e wr ⟨rfl, hr⟩; exact ⟨rfl, hq.keep hr⟩)) | (apply Wl.loadW; exact rfl; exact rfl; (repeat (first | exact List.Mem.head _ | apply List.Mem.tail)); exact rfl) | (apply Wl.boxN; exact rfl; exact rfl; intro c hc ho) | (apply Wl.move; exact rfl; exact rfl) | (apply Wl.assign; exact rfl; exact rfl) | (apply Wl.on; exact rfl; exact rfl; (first | with_reducible rfl | with_reducible assumption | decide)) | (apply Wl.pickT; exact rfl; exact rfl; (first | with_reducible rfl | with_reducible assumption | decide); exact rfl) | (apply Wl.not; exact rfl; exact rfl) | (apply Wl.lss; exact rfl; exact rfl; exact rfl) | (apply Wl.nil) | (apply St.seq) | (apply St.region) | (apply St.ret) | (apply Gt.next) | (apply Gt.out1; exact rfl; exact rfl; intro w' hp) | (apply Wl.splitP; exact rfl; exact rfl; all_goals (intros; try (exfalso; omega))) | (apply Wl.splitB; exact rfl; exact rfl; all_goals intros) | (apply St.condP; exact rfl; all_goals (intros; try (exfalso; omega))) | (apply St.condB; exact rfl; all_goals intros))
    exact ⟨by rw [hlt], hp.drop (by simp; omega)⟩
theorem sKeyOk (v : Value) (l : List UInt8) (w : World) (hv : Bs w v l) (hvl : ∀ k, v.ownBlock = some k → k < w.heap.size) (hl : l.length = 64) (h : onB (rdL (l.take 32)) (rdL (l.drop 32)) = true) : Calls Tryd.prog 10 #[v] w fun e w' =>
    e = .returned (.tuple #[.agg (poC (rdL (l.take 32)) (rdL (l.drop 32)) false).toArray, .int .i64 0]) ∧ Hp w [] w' := by
  have := signKey v l w hv hvl hl
  rw [h] at this
  exact this
theorem curTwoQ (k bm : Nat) (n m X Y : Nat) (w : World) (hV : CurV w k bm) (hX : X < Prim.P256) (hY : Y < Prim.P256) (hB : OnP (some (nF X, nF Y))) (hn : n < W256) (hm : m < W256) : Calls Tryd.prog 29 #[mp k, numV n, poV (some curG), numV m, .agg (poC X Y false).toArray] w fun e w' => e = .returned (poV (add3 (sm3 n (some curG)) (sm3 m (some (nF X, nF Y))))) ∧ Hp w [] w' := by
  have := curTwo k bm (some curG) (some (nF X, nF Y)) n m w hV onG hB hn hm
  rw [show poV (some (nF X, nF Y)) = .agg (poC X Y false).toArray by unfold poV; rw [poD_some, nF_val, nF_val, Nat.mod_eq_of_lt hX, Nat.mod_eq_of_lt hY]] at this
  exact this
set_option maxHeartbeats 16000000 in
theorem signVerM (kv mv gv : Value) (l m g : List UInt8) (w : World) (hK : ArrAt w 0 0 .u32 64 Sha.K) (hv : Bs w kv l) (hvl : ∀ k, kv.ownBlock = some k → k < w.heap.size) (hl : l.length = 64) (h : onB (rdL (l.take 32)) (rdL (l.drop 32)) = true) (hm : Bs w mv m) (hmn : m.length < 100000000) (hmv : m ≠ [] → ∀ k, mv.ownBlock = some k → k < w.heap.size) (hg : Bs w gv g) (hgl : g.length = 64)
    (U1 V1 : Nat) (A : Ec.Pt) (hu1 : eN m * pwm Prim.N256 (rdL (g.drop 32)) (Prim.N256 - 2) % Prim.N256 = U1) (hv1 : rdL (g.take 32) * pwm Prim.N256 (rdL (g.drop 32)) (Prim.N256 - 2) % Prim.N256 = V1) (hA : A = add3 (sm3 U1 (some curG)) (sm3 V1 (some (nF (rdL (l.take 32)), nF (rdL (l.drop 32)))))) :
    Calls Tryd.prog 8 #[kv, mv, gv] w fun e w' => e = .returned (.int .i64 (verA (rdL (g.take 32)) (rdL (g.drop 32)) A)) ∧ Hp w [] w' := by
  have h0K := hK.lt (by decide)
  obtain ⟨ga, gc, rfl, hglc, hgm⟩ := hg.shape
  unfold maxLen at hgm
  obtain ⟨ab, off, rfl, hcell⟩ := hg.cells (fun e => by subst e; simp at hgl)
  rw [hgl] at hg ⊢
  obtain ⟨hs1, hs2⟩ := bsHalves hg hgl
  obtain ⟨S1, hS1⟩ : ∃ S1, S1 = Value.slice (some ⟨ab, off, none⟩) 32 gc := ⟨_, rfl⟩
  obtain ⟨S2, hS2⟩ : ∃ S2, S2 = Value.slice (some ⟨ab, off + 32, none⟩) (64 - 32) (gc - 32) := ⟨_, rfl⟩
  rw [← hS1] at hs1
  rw [show (32 : Nat) = 64 - 32 from rfl, ← hS2] at hs2
  have hc64 := hg.len.2.1
  have hl1 : (g.take 32).length = 32 := by rw [List.length_take]; omega
  have hl2 : (g.drop 32).length = 32 := by rw [List.length_drop]; omega
  refine enter (args := [_, _, _]) (Γ := [(0, _), (1, _), (2, _)]) Tryd.func8 Tryd.ntmps8 rfl (of_decide_eq_true rfl) (.cons rfl (.cons rfl (.cons rfl .nil))) ?_
  repeat' (first | (apply Wl.callQ (f := 10); exact rfl; (repeat (first | exact Evs.nil | apply Evs.cons rfl)); (intro wq hq; refine (sKeyOk kv l wq (bsNew hv hq (by simp)) (fun k hk => Nat.lt_of_lt_of_le (hvl k hk) hq.upd.size) hl h).mono ?_; rintro e wr ⟨rfl, hr⟩; exact ⟨rfl, hq.keep hr⟩)) | (apply Wl.allocC (t := 32); exact rfl; exact zPo; intro c hc ho) | (apply Wl.storeAll; exact rfl; exact rfl; (repeat (first | apply HSet.here | apply HSet.there)); (first | exact ptC_len _ _ _ | exact poC_len _ _ _ | exact poD_len _); (first | exact rfl | exact ptC_len _ _ _ | exact poC_len _ _ _ | exact poD_len _); (first | exact ptC_one _ _ _ | exact poC_one _ _ _ | exact poD_one _)) | (apply Wl.sliceTo 32; exact rfl; exact rfl; exact rfl; exact rfl; (omega); exact hS1) | (apply Wl.sliceFrom 32; exact rfl; exact rfl; exact rfl; exact rfl; (decide); exact hc64; exact hS2) | (apply Wl.callQ (f := 19); exact rfl; (repeat (first | exact Evs.nil | apply Evs.cons rfl)); (intro wq hq; have hb1 := bsNew hs1 hq (by simp; omega); have hb2 := bsNew hs2 hq (by simp; omega); with_reducible first | refine (limbRead _ (g.take 32) wq hb1 hl1).mono ?_ | refine (limbRead _ (g.drop 32) wq hb2 hl2).mono ?_); (rintro e wr ⟨rfl, hr⟩; exact ⟨rfl, hq.keep hr⟩)) | (apply Wl.loadW; exact rfl; exact rfl; (repeat (first | exact List.Mem.head _ | apply List.Mem.tail)); exact rfl) | (apply Wl.storeW; exact rfl; exact rfl; (repeat (first | apply HSet.here | apply HSet.there)); exact rfl; (first | exact cellsN_len _ _ _ | exact rfl)) | (apply Wl.allocN; exact rfl; (first | exact z8 | exact z16 | exact z17 | exact z33 | exact z10); intro c hc ho) | (apply Wl.move; exact rfl; exact rfl) | (apply Wl.assign; exact rfl; exact rfl) | (apply Wl.extract; exact rfl; exact rfl; exact rfl) | (apply Wl.neqIs; exact rfl; exact rfl; exact rfl; (first | with_reducible assumption | with_reducible rfl)) | (apply Wl.neq; exact rfl; exact rfl; exact rfl) | (apply Wl.len; exact rfl; exact rfl) | (apply Wl.nil) | (apply St.seq) | (apply St.region) | (apply St.condF; exact rfl; (first | with_reducible rfl | with_reducible assumption | decide)) | (apply St.skip) | (apply Gt.next) | (apply Wl.splitP; exact rfl; exact rfl; all_goals (intros; try (exfalso; omega))) | (apply Wl.splitB; exact rfl; exact rfl; all_goals intros) | (apply St.condP; exact rfl; all_goals (intros; try (exfalso; omega))) | (apply St.condB; exact rfl; all_goals intros))
  generalize hR : rdL (g.take 32) = R at *
  generalize hS : rdL (g.drop 32) = S at *
  have hRW : R < W256 := hR ▸ rdL_lt _
  have hSW : S < W256 := hS ▸ rdL_lt _
  generalize c = cs at *
  rename_i cK hcK hoK cr hcr hor
  obtain ⟨XA, hXA⟩ : ∃ XA, XA = rdL (l.take 32) := ⟨_, rfl⟩
  obtain ⟨YA, hYA⟩ : ∃ YA, YA = rdL (l.drop 32) := ⟨_, rfl⟩
  rw [← hXA, ← hYA] at h hA ⊢
  obtain ⟨hXP, hYP, hOn⟩ := onP_of h
  have hB1 := fun wq => sigScalar R wq hRW
  have hB2 := fun wq => sigScalar S wq hSW
  have hcs : okS R = false ∨ (okS R = true ∧ okS S = false) ∨ (okS R = true ∧ okS S = true) := by cases okS R <;> cases okS S <;> simp
  rcases hcs with hb1 | ⟨hb1, hb2⟩ | ⟨hb1, hb2⟩
  · rw [hb1] at hB1
    repeat' (first | (apply Wl.callQ (f := 20); exact rfl; (repeat (first | exact Evs.nil | apply Evs.cons rfl)); (intro wq hq; refine (hB1 wq).mono ?_; rintro e wr ⟨rfl, hr⟩; exact ⟨rfl, hq.keep hr⟩)) | (apply Wl.move; exact rfl; exact rfl) | (apply Wl.assign; exact rfl; exact rfl) | (apply Wl.off; exact rfl; exact rfl; exact rfl; (first | with_reducible rfl | (show _ = false; with_reducible assumption) | (show _ = true; with_reducible assumption) | decide)) | (apply Wl.pickT; exact rfl; exact rfl; (first | with_reducible rfl | with_reducible assumption | decide); exact rfl) | (apply Wl.not; exact rfl; exact rfl) | (apply Wl.nil) | (apply St.seq) | (apply St.region) | (apply St.condT; exact rfl; (first | with_reducible rfl | with_reducible assumption | decide)) | (apply St.ret) | (apply Gt.next) | (apply Gt.thenRet) | (apply Gt.out1; exact rfl; exact rfl; intro w' hp) | (apply Wl.splitP; exact rfl; exact rfl; all_goals (intros; try (exfalso; omega))) | (apply Wl.splitB; exact rfl; exact rfl; all_goals intros) | (apply St.condP; exact rfl; all_goals (intros; try (exfalso; omega))) | (apply St.condB; exact rfl; all_goals intros))
    refine ⟨?_, hp.drop (by simp; omega)⟩
    unfold okS at hb1
    unfold verA
    rw [if_pos]
    by_cases h0 : R = 0
    · exact .inl h0
    · rw [decide_eq_true h0, Bool.true_and] at hb1
      exact .inr (.inr (.inl (of_decide_eq_false hb1)))
  · rw [hb1] at hB1
    rw [hb2] at hB2
    repeat' (first | (apply Wl.callQ (f := 20); exact rfl; (repeat (first | exact Evs.nil | apply Evs.cons rfl)); (intro wq hq; with_reducible first | refine (hB1 wq).mono ?_ | refine (hB2 wq).mono ?_); (rintro e wr ⟨rfl, hr⟩; exact ⟨rfl, hq.keep hr⟩)) | (apply Wl.loadW; exact rfl; exact rfl; (repeat (first | exact List.Mem.head _ | apply List.Mem.tail)); exact rfl) | (apply Wl.move; exact rfl; exact rfl) | (apply Wl.assign; exact rfl; exact rfl) | (apply Wl.on; exact rfl; exact rfl; (first | with_reducible rfl | with_reducible assumption | decide)) | (apply Wl.pickF; exact rfl; exact rfl; (first | with_reducible rfl | with_reducible assumption | decide); exact rfl) | (apply Wl.not; exact rfl; exact rfl) | (apply Wl.nil) | (apply St.seq) | (apply St.region) | (apply St.condT; exact rfl; (first | with_reducible rfl | with_reducible assumption | decide)) | (apply St.ret) | (apply Gt.next) | (apply Gt.thenRet) | (apply Gt.out1; exact rfl; exact rfl; intro w' hp) | (apply Wl.splitP; exact rfl; exact rfl; all_goals (intros; try (exfalso; omega))) | (apply Wl.splitB; exact rfl; exact rfl; all_goals intros) | (apply St.condP; exact rfl; all_goals (intros; try (exfalso; omega))) | (apply St.condB; exact rfl; all_goals intros))
    refine ⟨?_, hp.drop (by simp; omega)⟩
    unfold okS at hb2
    unfold verA
    rw [if_pos]
    by_cases h0 : S = 0
    · exact .inr (.inl h0)
    · rw [decide_eq_true h0, Bool.true_and] at hb2
      exact .inr (.inr (.inr (of_decide_eq_false hb2)))
  rw [hb1] at hB1
  rw [hb2] at hB2
  have hRN' : R ≠ 0 ∧ R < Prim.N256 := by
    unfold okS at hb1
    rw [Bool.and_eq_true] at hb1
    exact ⟨of_decide_eq_true hb1.1, of_decide_eq_true hb1.2⟩
  have hSN' : S ≠ 0 ∧ S < Prim.N256 := by
    unfold okS at hb2
    rw [Bool.and_eq_true] at hb2
    exact ⟨of_decide_eq_true hb2.1, of_decide_eq_true hb2.2⟩
  have hAns : verA R S A = if A = none ∨ poX A % Prim.N256 ≠ R then 4 else 0 := by
    unfold verA
    rw [if_neg (by rintro (h | h | h | h); exact hRN'.1 h; exact hSN'.1 h; exact h hRN'.2; exact h hSN'.2)]
  rw [hAns]
  clear hAns hb1 hb2
  repeat' (first | (apply Wl.callQ (f := 20); exact rfl; (repeat (first | exact Evs.nil | apply Evs.cons rfl)); (intro wq hq; with_reducible first | refine (hB1 wq).mono ?_ | refine (hB2 wq).mono ?_); (rintro e wr ⟨rfl, hr⟩; exact ⟨rfl, hq.keep hr⟩)) | (apply Wl.callQ (f := 22); exact rfl; (repeat (first | exact Evs.nil | apply Evs.cons rfl)); (intro wq hq; refine (curOrder wq).mono ?_; rintro e wr ⟨rfl, hr⟩; exact ⟨rfl, hq.keep hr⟩)) | (apply Wl.loadW; exact rfl; exact rfl; (repeat (first | exact List.Mem.head _ | apply List.Mem.tail)); exact rfl) | (apply Wl.move; exact rfl; exact rfl) | (apply Wl.on; exact rfl; exact rfl; (first | with_reducible rfl | with_reducible assumption | decide)) | (apply Wl.pickF; exact rfl; exact rfl; (first | with_reducible rfl | with_reducible assumption | decide); exact rfl) | (apply Wl.not; exact rfl; exact rfl) | (apply Wl.nil) | (apply St.seq) | (apply St.region) | (apply St.condF; exact rfl; (first | with_reducible rfl | with_reducible assumption | decide)) | (apply St.skip) | (apply Gt.next) | (apply Wl.splitP; exact rfl; exact rfl; all_goals (intros; try (exfalso; omega))) | (apply Wl.splitB; exact rfl; exact rfl; all_goals intros) | (apply St.condP; exact rfl; all_goals (intros; try (exfalso; omega))) | (apply St.condB; exact rfl; all_goals intros))
  apply Wl.callC
  · exact rfl
  · (repeat (first | exact Evs.nil | apply Evs.cons rfl))
  intro wq hq
  refine (newModN wq).mono ?_
  rintro e w1 ⟨bn, rfl, hbn, hMn, hr1⟩
  have hqr := hq.keep hr1
  have hszq := hq.upd.size
  have l0 := hq.own.lt (.head _)
  have l1 := hq.own.lt (.tail _ (.head _))
  have l2 := hq.own.lt (.tail _ (.tail _ (.head _)))
  simp only at l0 l1 l2
  refine ⟨_, _, rfl, hpRb hqr, ?_⟩
  have hu : Upd (fun k => w.heap.size ≤ k) w w1 := hpOn hqr (Upd.refl _ _) (by simp; omega)
  have hnl := hMn.blk
  clear hq hr1 hqr hB1 hB2
  have h0N : 0 < Prim.N256 := by omega
  have h2N : 2 < Prim.N256 := by decide +kernel
  have hK1 : ArrAt w1 0 0 .u32 64 Sha.K := hK.upd hu (by omega)
  have hmW : ∀ {H : List Blk} {wx : World}, Hp w1 H wx → (∀ x ∈ H, w.heap.size ≤ x.b) → Bs wx mv m := fun hx hH => hm.upd (hpOn hx hu hH) fun k hk hlt hne hs => by omega
  repeat' (first | (apply Wl.callQ (f := 23); exact rfl; (repeat (first | exact Evs.nil | apply Evs.cons rfl)); (intro wq hq; refine (shaOf mv m wq (hmW hq (by simp; omega)) (by omega) (fun a k hk => by have := hmv a k hk; have := hq.upd.size; omega) (hK1.upd hq.upd (fun y => y (by (repeat (first | exact trivial | exact hX.off (by omega) | refine ⟨by first | assumption | omega | (simp only; omega), ?_⟩)))))).mono ?_; rintro e wr ⟨rfl, hr⟩; exact ⟨rfl, hq.keep hr⟩)) | (apply Wl.allocC (t := 45); exact rfl; exact z32b; intro c hc ho) | (apply Wl.storeW; exact rfl; exact rfl; (repeat (first | apply HSet.here | apply HSet.there)); exact rfl; (first | exact cellsN_len _ _ _ | exact rfl)) | (apply Wl.move; exact rfl; exact rfl) | (apply Wl.assign; exact rfl; exact rfl) | (apply Wl.extract; exact rfl; exact rfl; exact rfl) | (apply Wl.nil) | (apply St.seq) | (apply St.region) | (apply Gt.next) | (apply Wl.splitP; exact rfl; exact rfl; all_goals (intros; try (exfalso; omega))) | (apply Wl.splitB; exact rfl; exact rfl; all_goals intros) | (apply St.condP; exact rfl; all_goals (intros; try (exfalso; omega))) | (apply St.condB; exact rfl; all_goals intros))
  generalize c = cH at *
  have hcH : w1.heap.size ≤ cH := by assumption
  repeat' (first | (apply Wl.sliceAll; exact rfl; exact rfl; (decide); exact rfl) | (apply Wl.callQ (f := 19); exact rfl; (repeat (first | exact Evs.nil | apply Evs.cons rfl)); (intro wq hq; have hb : wq.heap[cH]? = _ := hq.own.at (x := ⟨cH, cellsN .u8 32 (Sha.of m), 45⟩) (by (repeat (first | exact List.Mem.head _ | apply List.Mem.tail))); refine (limbRead _ (shaL m) wq (bsSha hb) (shaL_len m)).mono ?_; rintro e wr ⟨rfl, hr⟩; exact ⟨rfl, hq.keep hr⟩)) | (apply Wl.loadW; exact rfl; exact rfl; (repeat (first | exact List.Mem.head _ | apply List.Mem.tail)); exact rfl) | (apply Wl.storeW; exact rfl; exact rfl; (repeat (first | apply HSet.here | apply HSet.there)); exact rfl; (first | exact cellsN_len _ _ _ | exact rfl)) | (apply Wl.allocN; exact rfl; (first | exact z8 | exact z16 | exact z17 | exact z33 | exact z10); intro c hc ho) | (apply Wl.move; exact rfl; exact rfl) | (apply Wl.assign; exact rfl; exact rfl) | (apply Wl.extract; exact rfl; exact rfl; exact rfl) | (apply Wl.nil) | (apply St.seq) | (apply St.region) | (apply Gt.next) | (apply Wl.splitP; exact rfl; exact rfl; all_goals (intros; try (exfalso; omega))) | (apply Wl.splitB; exact rfl; exact rfl; all_goals intros) | (apply St.condP; exact rfl; all_goals (intros; try (exfalso; omega))) | (apply St.condB; exact rfl; all_goals intros))
  generalize c = cE at *
  have hcE : w1.heap.size ≤ cE := by assumption
  obtain ⟨E, hE⟩ : ∃ E, E = rdL (shaL m) := ⟨_, rfl⟩
  have hEW : E < W256 := hE ▸ rdL_lt _
  rw [show eN m = E % Prim.N256 by rw [hE]; rfl, Nat.mod_mul_mod] at hu1
  rw [← hE]
  have hU1W : U1 < W256 := by rw [← hu1]; exact Nat.lt_trans (Nat.mod_lt _ h0N) nW
  have hV1W : V1 < W256 := by rw [← hv1]; exact Nat.lt_trans (Nat.mod_lt _ h0N) nW
  obtain ⟨Is, hIs⟩ : ∃ x, x = S * W256 % Prim.N256 := ⟨_, rfl⟩
  obtain ⟨Wv, hWv⟩ : ∃ x, x = pw Prim.N256 Is (Prim.N256 - 2) := ⟨_, rfl⟩
  obtain ⟨Ih, hIh⟩ : ∃ x, x = E * W256 % Prim.N256 := ⟨_, rfl⟩
  obtain ⟨Ir, hIr⟩ : ∃ x, x = R * W256 % Prim.N256 := ⟨_, rfl⟩
  obtain ⟨Th, hTh⟩ : ∃ x, x = Ih * Wv * rinv Prim.N256 % Prim.N256 := ⟨_, rfl⟩
  obtain ⟨Tr, hTr⟩ : ∃ x, x = Ir * Wv * rinv Prim.N256 % Prim.N256 := ⟨_, rfl⟩
  have hIsN : Is < Prim.N256 := hIs ▸ Nat.mod_lt _ h0N
  have hWvN : Wv < Prim.N256 := hWv ▸ pw_lt h0N
  have hIhW : Ih < W256 := hIh ▸ Nat.lt_trans (Nat.mod_lt _ h0N) nW
  have hIrW : Ir < W256 := hIr ▸ Nat.lt_trans (Nat.mod_lt _ h0N) nW
  have hThW : Th < W256 := hTh ▸ Nat.lt_trans (Nat.mod_lt _ h0N) nW
  have hTrW : Tr < W256 := hTr ▸ Nat.lt_trans (Nat.mod_lt _ h0N) nW
  have hOu : Th * rinv Prim.N256 % Prim.N256 = U1 := by rw [hTh, hIh, hWv, hIs, uv_eq n_odd]; exact hu1
  have hOv : Tr * rinv Prim.N256 % Prim.N256 = V1 := by rw [hTr, hIr, hWv, hIs, uv_eq n_odd]; exact hv1
  have cIs := fun wq h => modIn bn Prim.N256 S wq h hSW
  rw [← hIs] at cIs
  have cWv := fun wq (h : ModV wq bn Prim.N256) => modInv h hIsN nW h2N
  rw [← hWv] at cWv
  have cIh := fun wq h => modIn bn Prim.N256 E wq h hEW
  rw [← hIh] at cIh
  have cIr := fun wq h => modIn bn Prim.N256 R wq h hRW
  rw [← hIr] at cIr
  have cTh := fun wq (h : ModV wq bn Prim.N256) => modTimes' h hIhW hWvN
  rw [← hTh] at cTh
  have cTr := fun wq (h : ModV wq bn Prim.N256) => modTimes' h hIrW hWvN
  rw [← hTr] at cTr
  have cOu := fun wq h => modOut bn Prim.N256 Th wq h hThW
  rw [hOu] at cOu
  have cOv := fun wq h => modOut bn Prim.N256 Tr wq h hTrW
  rw [hOv] at cOv
  clear hIs hWv hIh hIr hTh hTr hOu hOv hu1 hv1
  repeat' (first | (apply Wl.callQ (f := 25); exact rfl; (repeat (first | exact Evs.nil | apply Evs.cons rfl)); (intro wq hq; refine (cIs wq (hMn.hp hq (by (repeat (first | exact trivial | exact hX.off (by omega) | refine ⟨by first | assumption | omega | (simp only; omega), ?_⟩))))).mono ?_; rintro e wr ⟨rfl, hr⟩; exact ⟨rfl, hq.keep hr⟩)) | (apply Wl.callQ (f := 24); exact rfl; (repeat (first | exact Evs.nil | apply Evs.cons rfl)); (intro wq hq; refine (cWv wq (hMn.hp hq (by (repeat (first | exact trivial | exact hX.off (by omega) | refine ⟨by first | assumption | omega | (simp only; omega), ?_⟩))))).mono ?_; rintro e wr ⟨rfl, hr⟩; exact ⟨rfl, hq.keep hr⟩)) | (apply Wl.storeW; exact rfl; exact rfl; (repeat (first | apply HSet.here | apply HSet.there)); exact rfl; (first | exact cellsN_len _ _ _ | exact rfl)) | (apply Wl.allocN; exact rfl; (first | exact z8 | exact z16 | exact z17 | exact z33 | exact z10); intro c hc ho) | (apply Wl.nil) | (apply St.seq) | (apply Gt.next) | (apply Wl.splitP; exact rfl; exact rfl; all_goals (intros; try (exfalso; omega))) | (apply Wl.splitB; exact rfl; exact rfl; all_goals intros) | (apply St.condP; exact rfl; all_goals (intros; try (exfalso; omega))) | (apply St.condB; exact rfl; all_goals intros))
  generalize c = cW at *
  have hcW : w1.heap.size ≤ cW := by assumption
  repeat' (first | (apply St.bagSn 20 []; exact rfl; exact mixed; kernel_rfl) | (apply OpsS.nil) | (apply OpsS.b; rotate_left; exact rfl; exact rfl) | (apply OpsS.s (j := 16); exact rfl; exact rfl; exact rfl; (intro X f hX hfj; change Wl [_] _ _ _ _ _ _ _; apply Wl.catS; (repeat (first | apply CatB.nil | apply CatB.cons)))) | (apply OpsS.s (j := 17); exact rfl; exact rfl; exact rfl; (intro X f hX hfj; change Wl [_] _ _ _ _ _ _ _; apply Wl.catS; (repeat (first | apply CatB.nil | apply CatB.cons)))) | (apply OpsS.v; exact rfl; (intro X f hX; change Wl [_] _ _ _ _ _ _ _; apply Wl.catX; (repeat (first | apply CatB.nil | apply CatB.cons)))) | (apply Gt.endS; exact fun _ h => h) | (apply Gt.endX; exact rfl) | (apply ConS.nil) | (apply ConS.v) | (apply ConS.s) | (apply ConS.b1; exact rfl) | (apply EndS.new; intro c hc ho) | (apply EndS.off; exact rfl) | (apply EndS.st) | (apply EndS.nil'; apply Gt.catS; (repeat (first | apply CatB.nil | apply CatB.cons))) | (apply Wl.storeAll; exact rfl; exact rfl; (repeat (first | apply HSet.here | apply HSet.there)); exact cellsN_len _ _ _; exact rfl; exact cellsN_one _ _ _) | (apply Wl.callQ (f := 25); exact rfl; (repeat (first | exact Evs.nil | apply Evs.cons rfl)); (intro wq hq; have hMq := hMn.hp hq (by (repeat (first | exact trivial | exact hX.off (by omega) | refine ⟨by first | assumption | omega | (simp only; omega), ?_⟩))); with_reducible first | refine (cIh wq hMq).mono ?_ | refine (cIr wq hMq).mono ?_); (rintro e wr ⟨rfl, hr⟩; exact ⟨rfl, hq.keep hr⟩)) | (apply Wl.callQ (f := 27); exact rfl; (repeat (first | exact Evs.nil | apply Evs.cons rfl)); (intro wq hq; have hMq := hMn.hp hq (by (repeat (first | exact trivial | exact hX.off (by omega) | refine ⟨by first | assumption | omega | (simp only; omega), ?_⟩))); with_reducible first | refine (cTh wq hMq).mono ?_ | refine (cTr wq hMq).mono ?_); (rintro e wr ⟨rfl, hr⟩; exact ⟨rfl, hq.keep hr⟩)) | (apply Wl.callQ (f := 26); exact rfl; (repeat (first | exact Evs.nil | apply Evs.cons rfl)); (intro wq hq; have hMq := hMn.hp hq (by (repeat (first | exact trivial | exact hX.off (by omega) | refine ⟨by first | assumption | omega | (simp only; omega), ?_⟩))); with_reducible first | refine (cOu wq hMq).mono ?_ | refine (cOv wq hMq).mono ?_); (rintro e wr ⟨rfl, hr⟩; exact ⟨rfl, hq.keep hr⟩)) | (apply Wl.loadW; exact rfl; exact rfl; (repeat (first | exact List.Mem.head _ | apply List.Mem.tail)); exact rfl) | (apply Wl.move; exact rfl; exact rfl) | (apply Wl.nil) | (apply St.seq) | (apply Gt.next) | (apply Wl.splitP; exact rfl; exact rfl; all_goals (intros; try (exfalso; omega))) | (apply Wl.splitB; exact rfl; exact rfl; all_goals intros) | (apply St.condP; exact rfl; all_goals (intros; try (exfalso; omega))) | (apply St.condB; exact rfl; all_goals intros))
  have hXW := poX_W A
  obtain ⟨T, hT⟩ : ∃ T, T = poX A % Prim.N256 := ⟨_, rfl⟩
  have hTW : T < W256 := by rw [hT]; exact Nat.lt_trans (Nat.mod_lt _ h0N) nW
  have hRd := fun wq h => modReduce bn Prim.N256 (poX A) wq h hXW
  rw [← hT] at hRd ⊢
  have hcs2 : (A.isNone = true ∧ A = none) ∨ (A.isNone = false ∧ A ≠ none ∧ T = R) ∨ (A.isNone = false ∧ A ≠ none ∧ T ≠ R) := by
    cases A with
    | none => exact .inl ⟨rfl, rfl⟩
    | some x => exact (Classical.em (T = R)).elim (fun e => .inr (.inl ⟨rfl, by simp, e⟩)) fun e => .inr (.inr ⟨rfl, by simp, e⟩)
  generalize c = cV1 at *
  rename_i cU hcU hoU
  have hcV1 : w1.heap.size ≤ cV1 := by assumption
  clear cIs cWv cIh cIr cTh cTr cOu cOv
  refine St.tree (Hp w1 [⟨cV1, cellsN .u32 8 (dg W32 V1), 30⟩, ⟨cU, cellsN .u32 8 (dg W32 U1), 30⟩, ⟨cW, cellsN .u32 8 (dg W32 Wv), 30⟩, ⟨cE, cellsN .u32 8 (dg W32 E), 30⟩, ⟨cH, cellsN .u8 32 (Sha.of m), 45⟩, ⟨cs, cellsN .u32 8 (dg W32 S), 30⟩, ⟨cr, cellsN .u32 8 (dg W32 R), 30⟩, ⟨cK, poC XA YA false, 32⟩]) mixed (fun _ h => ⟨Hp.drew h, Hp.drew h⟩) ?_
  refine Mt.pure 1 (by decide +kernel) (by exact rfl) (by exact rfl) (by decide +kernel) (by decide +kernel) ?_
  repeat' (first | (apply Wl.loadW; exact rfl; exact rfl; (repeat (first | exact List.Mem.head _ | apply List.Mem.tail)); exact rfl) | (apply Wl.nilM) | (apply Wl.splitP; exact rfl; exact rfl; all_goals (intros; try (exfalso; omega))) | (apply Wl.splitB; exact rfl; exact rfl; all_goals intros) | (apply St.condP; exact rfl; all_goals (intros; try (exfalso; omega))) | (apply St.condB; exact rfl; all_goals intros))
  apply Mt.back
  refine Mt.pure 3 (by decide +kernel) (by exact rfl) (by exact rfl) (by decide +kernel) (by decide +kernel) ?_
  repeat' (first | (apply Wl.loadW; exact rfl; exact rfl; (repeat (first | exact List.Mem.head _ | apply List.Mem.tail)); exact rfl) | (apply Wl.nilM) | (apply Wl.splitP; exact rfl; exact rfl; all_goals (intros; try (exfalso; omega))) | (apply Wl.splitB; exact rfl; exact rfl; all_goals intros) | (apply St.condP; exact rfl; all_goals (intros; try (exfalso; omega))) | (apply St.condB; exact rfl; all_goals intros))
  apply Mt.back
  refine Mt.pure 4 (by decide +kernel) (by exact rfl) (by exact rfl) (by decide +kernel) (by decide +kernel) ?_
  repeat' (first | (apply Wl.loadAH; exact rfl; exact rfl; (repeat (first | exact List.Mem.head _ | apply List.Mem.tail)); (first | exact ptC_x _ _ _ | exact ptC_y _ _ _ | exact ptC_z _ _ _ | exact poC_x _ _ _ | exact poC_y _ _ _ | exact poD_x _ | exact poD_y _ | exact LSub.whole (ptC_len _ _ _) | exact LSub.whole (poC_len _ _ _) | exact LSub.whole (poD_len _))) | (apply Wl.nilM) | (apply Wl.splitP; exact rfl; exact rfl; all_goals (intros; try (exfalso; omega))) | (apply Wl.splitB; exact rfl; exact rfl; all_goals intros) | (apply St.condP; exact rfl; all_goals (intros; try (exfalso; omega))) | (apply St.condB; exact rfl; all_goals intros))
  apply Mt.back
  refine Mt.eff2 (i := 0) (j := 6) (by decide +kernel) (by exact rfl) (by exact rfl) ?_ ?_
  · apply Wl.callC
    · exact rfl
    · (repeat (first | exact Evs.nil | apply Evs.cons rfl))
    intro wq hq
    refine (curNew wq).mono ?_
    rintro e wr ⟨k, bm, rfl, hk, hbm, hV, hr⟩
    have hqr := hq.keep hr
    refine ⟨_, _, rfl, hpRb hqr, ?_⟩
    have hszq := hq.upd.size
    have hszr := hr.upd.size
    have hall := fun x hx => hq.own.lt (x := x) hx
    simp only [List.mem_cons, List.not_mem_nil, or_false, forall_eq_or_imp, forall_eq] at hall
    have hu2 : Upd (fun k => w.heap.size ≤ k) w wr := hpOn hqr hu (by simp; omega)
    obtain ⟨hkl, hbl⟩ := hV.lt
    have hMr : ModV wr bn Prim.N256 := (hMn.hp hq (by (repeat (first | exact trivial | exact hX.off (by omega) | refine ⟨by first | assumption | omega | (simp only; omega), ?_⟩)))).hp hr trivial
    have cTwo := fun wq (hV : CurV wq k bm) => curTwoQ k bm U1 V1 XA YA wq hV hXP hYP hOn hU1W hV1W
    rw [← hA] at cTwo
    clear hq hr
    repeat' (first | (apply Wl.nil) | (apply Wl.splitP; exact rfl; exact rfl; all_goals (intros; try (exfalso; omega))) | (apply Wl.splitB; exact rfl; exact rfl; all_goals intros) | (apply St.condP; exact rfl; all_goals (intros; try (exfalso; omega))) | (apply St.condB; exact rfl; all_goals intros))
    refine Mt.backE (fun u h => hpTr hqr h) ?_
    refine Mt.eff2 (i := 2) (j := 6) (by decide +kernel) (by exact rfl) (by exact rfl) ?_ ?_
    · repeat' (first | (apply Wl.callQ (f := 30); exact rfl; (repeat (first | exact Evs.nil | apply Evs.cons rfl)); (intro wq hq; refine (curBase wq).mono ?_; rintro e wr ⟨rfl, hr⟩; exact ⟨rfl, hq.keep hr⟩)) | (apply Wl.nil) | (apply Wl.splitP; exact rfl; exact rfl; all_goals (intros; try (exfalso; omega))) | (apply Wl.splitB; exact rfl; exact rfl; all_goals intros) | (apply St.condP; exact rfl; all_goals (intros; try (exfalso; omega))) | (apply St.condB; exact rfl; all_goals intros))
      refine Mt.backE (fun u h => hpTr hqr h) ?_
      refine Mt.eff2 (i := 5) (j := 6) (by decide +kernel) (by exact rfl) (by exact rfl) ?_ ?_
      · repeat' (first | (apply Wl.callQ (f := 29); exact rfl; (repeat (first | exact Evs.nil | apply Evs.cons rfl)); (intro wq hq; refine (cTwo wq (hV.hp hq (by (repeat (first | exact trivial | exact hX.off (by omega) | refine ⟨by first | assumption | omega | (simp only; omega), ?_⟩))) (by (repeat (first | exact trivial | exact hX.off (by omega) | refine ⟨by first | assumption | omega | (simp only; omega), ?_⟩))))).mono ?_; rintro e wr ⟨rfl, hr⟩; exact ⟨rfl, hq.keep hr⟩)) | (apply Wl.nil) | (apply Wl.splitP; exact rfl; exact rfl; all_goals (intros; try (exfalso; omega))) | (apply Wl.splitB; exact rfl; exact rfl; all_goals intros) | (apply St.condP; exact rfl; all_goals (intros; try (exfalso; omega))) | (apply St.condB; exact rfl; all_goals intros))
        refine Mt.backE (fun u h => hpTr hqr h) ?_
        refine Mt.eff1 (i := 6) (by decide +kernel) (by exact rfl) ?_
        repeat' (first | (apply Wl.allocC (t := 32); exact rfl; exact zPo; intro c hc ho) | (apply Wl.nil) | (apply Wl.splitP; exact rfl; exact rfl; all_goals (intros; try (exfalso; omega))) | (apply Wl.splitB; exact rfl; exact rfl; all_goals intros) | (apply St.condP; exact rfl; all_goals (intros; try (exfalso; omega))) | (apply St.condB; exact rfl; all_goals intros))
        generalize c = cP at *
        have hcc : wr.heap.size ≤ cP := by assumption
        refine Mt.backE (fun u h => hpTr hqr (hpPopS h hcc)) ?_
        refine Mt.eff1 (i := 7) (by decide +kernel) (by exact rfl) ?_
        repeat' (first | (apply Wl.storeAll; exact rfl; exact rfl; (repeat (first | apply HSet.here | apply HSet.there)); (first | exact ptC_len _ _ _ | exact poC_len _ _ _ | exact poD_len _); (first | exact rfl | exact ptC_len _ _ _ | exact poC_len _ _ _ | exact poD_len _); (first | exact ptC_one _ _ _ | exact poC_one _ _ _ | exact poD_one _)) | (apply Wl.nil) | (apply Wl.splitP; exact rfl; exact rfl; all_goals (intros; try (exfalso; omega))) | (apply Wl.splitB; exact rfl; exact rfl; all_goals intros) | (apply St.condP; exact rfl; all_goals (intros; try (exfalso; omega))) | (apply St.condB; exact rfl; all_goals intros))
        refine Mt.backE (fun u h => hpTr hqr (hpPopS h hcc)) ?_
        refine Mt.toGt (by decide +kernel) ?_
        rcases hcs2 with ⟨hA1, hA0⟩ | ⟨hA1, hA0, hTR⟩ | ⟨hA1, hA0, hTR⟩
        all_goals
          repeat' (first | (apply St.bagX 10 [9]; exact mixed; (decide +kernel); kernel_rfl) | (apply OpsX.nil) | (apply OpsX.v; (intro X hX; change Wl [_] _ _ _ _ _ _ _; apply Wl.catX; (repeat (first | apply CatB.nil | apply CatB.cons)))) | (apply Gt.endX; exact rfl) | (apply EndX.on; exact rfl) | (apply EndX.off; exact rfl) | (apply EndX.nil'; apply Wl.catE; (repeat (first | apply CatB.nil | apply CatB.cons))) | (apply Wl.loadAH; exact rfl; exact rfl; (repeat (first | exact List.Mem.head _ | apply List.Mem.tail)); (first | exact ptC_x _ _ _ | exact ptC_y _ _ _ | exact ptC_z _ _ _ | exact poC_x _ _ _ | exact poC_y _ _ _ | exact poD_x _ | exact poD_y _ | exact LSub.whole (ptC_len _ _ _) | exact LSub.whole (poC_len _ _ _) | exact LSub.whole (poD_len _))) | (apply Wl.loadH; exact rfl; exact rfl; (repeat (first | exact List.Mem.head _ | apply List.Mem.tail)); (first | exact poC_n _ _ _ | exact poD_n _)) | (apply Wl.callQ (f := 31); exact rfl; (repeat (first | exact Evs.nil | apply Evs.cons rfl)); (intro wq hq; refine (hRd wq (hMr.hp hq (by (repeat (first | exact trivial | exact hX.off (by omega) | refine ⟨by first | assumption | omega | (simp only; omega), ?_⟩))))).mono ?_; rintro e wr ⟨rfl, hr⟩; exact ⟨rfl, hq.keep hr⟩)) | (apply Wl.neqA (t := 30); exact rfl; exact rfl; exact rfl; kernel_rfl; kernel_rfl; kernel_rfl; kernel_rfl; exact cell32 _ (dlt _); exact cell32 _ (dlt _); (first | with_reducible exact ne8 hTW hRW hTR | with_reducible exact eq8 hTR)) | (apply Wl.loadW; exact rfl; exact rfl; (repeat (first | exact List.Mem.head _ | apply List.Mem.tail)); exact rfl) | (apply Wl.move; exact rfl; exact rfl) | (apply Wl.assign; exact rfl; exact rfl) | (apply Wl.on; exact rfl; exact rfl; (first | with_reducible rfl | with_reducible assumption | decide)) | (apply Wl.off; exact rfl; exact rfl; exact rfl; (first | with_reducible rfl | (show _ = false; with_reducible assumption) | (show _ = true; with_reducible assumption) | decide)) | (apply Wl.pickT; exact rfl; exact rfl; (first | with_reducible rfl | with_reducible assumption | decide); exact rfl) | (apply Wl.pickF; exact rfl; exact rfl; (first | with_reducible rfl | with_reducible assumption | decide); exact rfl) | (apply Wl.fieldAddr0; exact rfl; exact rfl) | (apply Wl.fieldAddrZ; exact rfl; exact rfl) | (apply Wl.nil) | (apply St.seq) | (apply St.region) | (apply St.condT; exact rfl; (first | with_reducible rfl | with_reducible assumption | decide)) | (apply St.condF; exact rfl; (first | with_reducible rfl | with_reducible assumption | decide)) | (apply St.ret) | (apply St.skip) | (apply Gt.next) | (apply Gt.thenRet) | (apply Gt.out1; exact rfl; exact rfl; intro w' hp) | (apply Wl.splitP; exact rfl; exact rfl; all_goals (intros; try (exfalso; omega))) | (apply Wl.splitB; exact rfl; exact rfl; all_goals intros) | (apply St.condP; exact rfl; all_goals (intros; try (exfalso; omega))) | (apply St.condB; exact rfl; all_goals intros))
        · exact ⟨by rw [if_pos (.inl hA0)], hpFin hp hu2 (by simp; omega)⟩
        · exact ⟨by rw [if_neg (by rintro (h | h); exact hA0 h; exact h hTR)], hpFin hp hu2 (by simp; omega)⟩
        · exact ⟨by rw [if_pos (.inr hTR)], hpFin hp hu2 (by simp; omega)⟩
      · repeat' (first | (apply Wl.allocC (t := 32); exact rfl; exact zPo; intro c hc ho) | (apply Wl.nil) | (apply Wl.splitP; exact rfl; exact rfl; all_goals (intros; try (exfalso; omega))) | (apply Wl.splitB; exact rfl; exact rfl; all_goals intros) | (apply St.condP; exact rfl; all_goals (intros; try (exfalso; omega))) | (apply St.condB; exact rfl; all_goals intros))
        generalize c = cP at *
        have hcc : wr.heap.size ≤ cP := by assumption
        refine Mt.backE (fun u h => hpTr hqr (hpPopS h hcc)) ?_
        refine Mt.eff1 (i := 5) (by decide +kernel) (by exact rfl) ?_
        repeat' (first | (apply Wl.callQ (f := 29); exact rfl; (repeat (first | exact Evs.nil | apply Evs.cons rfl)); (intro wq hq; refine (cTwo wq (hV.hp hq (by (repeat (first | exact trivial | exact hX.off (by omega) | refine ⟨by first | assumption | omega | (simp only; omega), ?_⟩))) (by (repeat (first | exact trivial | exact hX.off (by omega) | refine ⟨by first | assumption | omega | (simp only; omega), ?_⟩))))).mono ?_; rintro e wr ⟨rfl, hr⟩; exact ⟨rfl, hq.keep hr⟩)) | (apply Wl.nil) | (apply Wl.splitP; exact rfl; exact rfl; all_goals (intros; try (exfalso; omega))) | (apply Wl.splitB; exact rfl; exact rfl; all_goals intros) | (apply St.condP; exact rfl; all_goals (intros; try (exfalso; omega))) | (apply St.condB; exact rfl; all_goals intros))
        refine Mt.backE (fun u h => hpTr hqr (hpPopS h hcc)) ?_
        refine Mt.eff1 (i := 7) (by decide +kernel) (by exact rfl) ?_
        repeat' (first | (apply Wl.storeAll; exact rfl; exact rfl; (repeat (first | apply HSet.here | apply HSet.there)); (first | exact ptC_len _ _ _ | exact poC_len _ _ _ | exact poD_len _); (first | exact rfl | exact ptC_len _ _ _ | exact poC_len _ _ _ | exact poD_len _); (first | exact ptC_one _ _ _ | exact poC_one _ _ _ | exact poD_one _)) | (apply Wl.nil) | (apply Wl.splitP; exact rfl; exact rfl; all_goals (intros; try (exfalso; omega))) | (apply Wl.splitB; exact rfl; exact rfl; all_goals intros) | (apply St.condP; exact rfl; all_goals (intros; try (exfalso; omega))) | (apply St.condB; exact rfl; all_goals intros))
        refine Mt.backE (fun u h => hpTr hqr (hpPopS h hcc)) ?_
        refine Mt.toGt (by decide +kernel) ?_
        rcases hcs2 with ⟨hA1, hA0⟩ | ⟨hA1, hA0, hTR⟩ | ⟨hA1, hA0, hTR⟩
        all_goals
          repeat' (first | (apply St.bagX 10 [9]; exact mixed; (decide +kernel); kernel_rfl) | (apply OpsX.nil) | (apply OpsX.v; (intro X hX; change Wl [_] _ _ _ _ _ _ _; apply Wl.catX; (repeat (first | apply CatB.nil | apply CatB.cons)))) | (apply Gt.endX; exact rfl) | (apply EndX.on; exact rfl) | (apply EndX.off; exact rfl) | (apply EndX.nil'; apply Wl.catE; (repeat (first | apply CatB.nil | apply CatB.cons))) | (apply Wl.loadAH; exact rfl; exact rfl; (repeat (first | exact List.Mem.head _ | apply List.Mem.tail)); (first | exact ptC_x _ _ _ | exact ptC_y _ _ _ | exact ptC_z _ _ _ | exact poC_x _ _ _ | exact poC_y _ _ _ | exact poD_x _ | exact poD_y _ | exact LSub.whole (ptC_len _ _ _) | exact LSub.whole (poC_len _ _ _) | exact LSub.whole (poD_len _))) | (apply Wl.loadH; exact rfl; exact rfl; (repeat (first | exact List.Mem.head _ | apply List.Mem.tail)); (first | exact poC_n _ _ _ | exact poD_n _)) | (apply Wl.callQ (f := 31); exact rfl; (repeat (first | exact Evs.nil | apply Evs.cons rfl)); (intro wq hq; refine (hRd wq (hMr.hp hq (by (repeat (first | exact trivial | exact hX.off (by omega) | refine ⟨by first | assumption | omega | (simp only; omega), ?_⟩))))).mono ?_; rintro e wr ⟨rfl, hr⟩; exact ⟨rfl, hq.keep hr⟩)) | (apply Wl.neqA (t := 30); exact rfl; exact rfl; exact rfl; kernel_rfl; kernel_rfl; kernel_rfl; kernel_rfl; exact cell32 _ (dlt _); exact cell32 _ (dlt _); (first | with_reducible exact ne8 hTW hRW hTR | with_reducible exact eq8 hTR)) | (apply Wl.loadW; exact rfl; exact rfl; (repeat (first | exact List.Mem.head _ | apply List.Mem.tail)); exact rfl) | (apply Wl.move; exact rfl; exact rfl) | (apply Wl.assign; exact rfl; exact rfl) | (apply Wl.on; exact rfl; exact rfl; (first | with_reducible rfl | with_reducible assumption | decide)) | (apply Wl.off; exact rfl; exact rfl; exact rfl; (first | with_reducible rfl | (show _ = false; with_reducible assumption) | (show _ = true; with_reducible assumption) | decide)) | (apply Wl.pickT; exact rfl; exact rfl; (first | with_reducible rfl | with_reducible assumption | decide); exact rfl) | (apply Wl.pickF; exact rfl; exact rfl; (first | with_reducible rfl | with_reducible assumption | decide); exact rfl) | (apply Wl.fieldAddr0; exact rfl; exact rfl) | (apply Wl.fieldAddrZ; exact rfl; exact rfl) | (apply Wl.nil) | (apply St.seq) | (apply St.region) | (apply St.condT; exact rfl; (first | with_reducible rfl | with_reducible assumption | decide)) | (apply St.condF; exact rfl; (first | with_reducible rfl | with_reducible assumption | decide)) | (apply St.ret) | (apply St.skip) | (apply Gt.next) | (apply Gt.thenRet) | (apply Gt.out1; exact rfl; exact rfl; intro w' hp) | (apply Wl.splitP; exact rfl; exact rfl; all_goals (intros; try (exfalso; omega))) | (apply Wl.splitB; exact rfl; exact rfl; all_goals intros) | (apply St.condP; exact rfl; all_goals (intros; try (exfalso; omega))) | (apply St.condB; exact rfl; all_goals intros))
        · exact ⟨by rw [if_pos (.inl hA0)], hpFin hp hu2 (by simp; omega)⟩
        · exact ⟨by rw [if_neg (by rintro (h | h); exact hA0 h; exact h hTR)], hpFin hp hu2 (by simp; omega)⟩
        · exact ⟨by rw [if_pos (.inr hTR)], hpFin hp hu2 (by simp; omega)⟩
    · repeat' (first | (apply Wl.allocC (t := 32); exact rfl; exact zPo; intro c hc ho) | (apply Wl.nil) | (apply Wl.splitP; exact rfl; exact rfl; all_goals (intros; try (exfalso; omega))) | (apply Wl.splitB; exact rfl; exact rfl; all_goals intros) | (apply St.condP; exact rfl; all_goals (intros; try (exfalso; omega))) | (apply St.condB; exact rfl; all_goals intros))
      generalize c = cP at *
      have hcc : wr.heap.size ≤ cP := by assumption
      refine Mt.backE (fun u h => hpTr hqr (hpPopS h hcc)) ?_
      refine Mt.eff1 (i := 2) (by decide +kernel) (by exact rfl) ?_
      repeat' (first | (apply Wl.callQ (f := 30); exact rfl; (repeat (first | exact Evs.nil | apply Evs.cons rfl)); (intro wq hq; refine (curBase wq).mono ?_; rintro e wr ⟨rfl, hr⟩; exact ⟨rfl, hq.keep hr⟩)) | (apply Wl.nil) | (apply Wl.splitP; exact rfl; exact rfl; all_goals (intros; try (exfalso; omega))) | (apply Wl.splitB; exact rfl; exact rfl; all_goals intros) | (apply St.condP; exact rfl; all_goals (intros; try (exfalso; omega))) | (apply St.condB; exact rfl; all_goals intros))
      refine Mt.backE (fun u h => hpTr hqr (hpPopS h hcc)) ?_
      refine Mt.eff1 (i := 5) (by decide +kernel) (by exact rfl) ?_
      repeat' (first | (apply Wl.callQ (f := 29); exact rfl; (repeat (first | exact Evs.nil | apply Evs.cons rfl)); (intro wq hq; refine (cTwo wq (hV.hp hq (by (repeat (first | exact trivial | exact hX.off (by omega) | refine ⟨by first | assumption | omega | (simp only; omega), ?_⟩))) (by (repeat (first | exact trivial | exact hX.off (by omega) | refine ⟨by first | assumption | omega | (simp only; omega), ?_⟩))))).mono ?_; rintro e wr ⟨rfl, hr⟩; exact ⟨rfl, hq.keep hr⟩)) | (apply Wl.nil) | (apply Wl.splitP; exact rfl; exact rfl; all_goals (intros; try (exfalso; omega))) | (apply Wl.splitB; exact rfl; exact rfl; all_goals intros) | (apply St.condP; exact rfl; all_goals (intros; try (exfalso; omega))) | (apply St.condB; exact rfl; all_goals intros))
      refine Mt.backE (fun u h => hpTr hqr (hpPopS h hcc)) ?_
      refine Mt.eff1 (i := 7) (by decide +kernel) (by exact rfl) ?_
      repeat' (first | (apply Wl.storeAll; exact rfl; exact rfl; (repeat (first | apply HSet.here | apply HSet.there)); (first | exact ptC_len _ _ _ | exact poC_len _ _ _ | exact poD_len _); (first | exact rfl | exact ptC_len _ _ _ | exact poC_len _ _ _ | exact poD_len _); (first | exact ptC_one _ _ _ | exact poC_one _ _ _ | exact poD_one _)) | (apply Wl.nil) | (apply Wl.splitP; exact rfl; exact rfl; all_goals (intros; try (exfalso; omega))) | (apply Wl.splitB; exact rfl; exact rfl; all_goals intros) | (apply St.condP; exact rfl; all_goals (intros; try (exfalso; omega))) | (apply St.condB; exact rfl; all_goals intros))
      refine Mt.backE (fun u h => hpTr hqr (hpPopS h hcc)) ?_
      refine Mt.toGt (by decide +kernel) ?_
      rcases hcs2 with ⟨hA1, hA0⟩ | ⟨hA1, hA0, hTR⟩ | ⟨hA1, hA0, hTR⟩
      all_goals
        repeat' (first | (apply St.bagX 10 [9]; exact mixed; (decide +kernel); kernel_rfl) | (apply OpsX.nil) | (apply OpsX.v; (intro X hX; change Wl [_] _ _ _ _ _ _ _; apply Wl.catX; (repeat (first | apply CatB.nil | apply CatB.cons)))) | (apply Gt.endX; exact rfl) | (apply EndX.on; exact rfl) | (apply EndX.off; exact rfl) | (apply EndX.nil'; apply Wl.catE; (repeat (first | apply CatB.nil | apply CatB.cons))) | (apply Wl.loadAH; exact rfl; exact rfl; (repeat (first | exact List.Mem.head _ | apply List.Mem.tail)); (first | exact ptC_x _ _ _ | exact ptC_y _ _ _ | exact ptC_z _ _ _ | exact poC_x _ _ _ | exact poC_y _ _ _ | exact poD_x _ | exact poD_y _ | exact LSub.whole (ptC_len _ _ _) | exact LSub.whole (poC_len _ _ _) | exact LSub.whole (poD_len _))) | (apply Wl.loadH; exact rfl; exact rfl; (repeat (first | exact List.Mem.head _ | apply List.Mem.tail)); (first | exact poC_n _ _ _ | exact poD_n _)) | (apply Wl.callQ (f := 31); exact rfl; (repeat (first | exact Evs.nil | apply Evs.cons rfl)); (intro wq hq; refine (hRd wq (hMr.hp hq (by (repeat (first | exact trivial | exact hX.off (by omega) | refine ⟨by first | assumption | omega | (simp only; omega), ?_⟩))))).mono ?_; rintro e wr ⟨rfl, hr⟩; exact ⟨rfl, hq.keep hr⟩)) | (apply Wl.neqA (t := 30); exact rfl; exact rfl; exact rfl; kernel_rfl; kernel_rfl; kernel_rfl; kernel_rfl; exact cell32 _ (dlt _); exact cell32 _ (dlt _); (first | with_reducible exact ne8 hTW hRW hTR | with_reducible exact eq8 hTR)) | (apply Wl.loadW; exact rfl; exact rfl; (repeat (first | exact List.Mem.head _ | apply List.Mem.tail)); exact rfl) | (apply Wl.move; exact rfl; exact rfl) | (apply Wl.assign; exact rfl; exact rfl) | (apply Wl.on; exact rfl; exact rfl; (first | with_reducible rfl | with_reducible assumption | decide)) | (apply Wl.off; exact rfl; exact rfl; exact rfl; (first | with_reducible rfl | (show _ = false; with_reducible assumption) | (show _ = true; with_reducible assumption) | decide)) | (apply Wl.pickT; exact rfl; exact rfl; (first | with_reducible rfl | with_reducible assumption | decide); exact rfl) | (apply Wl.pickF; exact rfl; exact rfl; (first | with_reducible rfl | with_reducible assumption | decide); exact rfl) | (apply Wl.fieldAddr0; exact rfl; exact rfl) | (apply Wl.fieldAddrZ; exact rfl; exact rfl) | (apply Wl.nil) | (apply St.seq) | (apply St.region) | (apply St.condT; exact rfl; (first | with_reducible rfl | with_reducible assumption | decide)) | (apply St.condF; exact rfl; (first | with_reducible rfl | with_reducible assumption | decide)) | (apply St.ret) | (apply St.skip) | (apply Gt.next) | (apply Gt.thenRet) | (apply Gt.out1; exact rfl; exact rfl; intro w' hp) | (apply Wl.splitP; exact rfl; exact rfl; all_goals (intros; try (exfalso; omega))) | (apply Wl.splitB; exact rfl; exact rfl; all_goals intros) | (apply St.condP; exact rfl; all_goals (intros; try (exfalso; omega))) | (apply St.condB; exact rfl; all_goals intros))
      · exact ⟨by rw [if_pos (.inl hA0)], hpFin hp hu2 (by simp; omega)⟩
      · exact ⟨by rw [if_neg (by rintro (h | h); exact hA0 h; exact h hTR)], hpFin hp hu2 (by simp; omega)⟩
      · exact ⟨by rw [if_pos (.inr hTR)], hpFin hp hu2 (by simp; omega)⟩
  · repeat' (first | (apply Wl.allocC (t := 32); exact rfl; exact zPo; intro c hc ho) | (apply Wl.nil) | (apply Wl.splitP; exact rfl; exact rfl; all_goals (intros; try (exfalso; omega))) | (apply Wl.splitB; exact rfl; exact rfl; all_goals intros) | (apply St.condP; exact rfl; all_goals (intros; try (exfalso; omega))) | (apply St.condB; exact rfl; all_goals intros))
    generalize c = cP at *
    have hcc : w1.heap.size ≤ cP := by assumption
    refine Mt.backE (fun u h => hpPopS h hcc) ?_
    refine Mt.eff1 (i := 0) (by decide +kernel) (by exact rfl) ?_
    apply Wl.callC
    · exact rfl
    · (repeat (first | exact Evs.nil | apply Evs.cons rfl))
    intro wq hq
    refine (curNew wq).mono ?_
    rintro e wr ⟨k, bm, rfl, hk, hbm, hV, hr⟩
    have hqr := hq.keep hr
    refine ⟨_, _, rfl, hpRb hqr, ?_⟩
    have hszq := hq.upd.size
    have hszr := hr.upd.size
    have hall := fun x hx => hq.own.lt (x := x) hx
    simp only [List.mem_cons, List.not_mem_nil, or_false, forall_eq_or_imp, forall_eq] at hall
    have hu2 : Upd (fun k => w.heap.size ≤ k) w wr := hpOn hqr hu (by simp; omega)
    obtain ⟨hkl, hbl⟩ := hV.lt
    have hMr : ModV wr bn Prim.N256 := (hMn.hp hq (by (repeat (first | exact trivial | exact hX.off (by omega) | refine ⟨by first | assumption | omega | (simp only; omega), ?_⟩)))).hp hr trivial
    have cTwo := fun wq (hV : CurV wq k bm) => curTwoQ k bm U1 V1 XA YA wq hV hXP hYP hOn hU1W hV1W
    rw [← hA] at cTwo
    clear hq hr
    repeat' (first | (apply Wl.nil) | (apply Wl.splitP; exact rfl; exact rfl; all_goals (intros; try (exfalso; omega))) | (apply Wl.splitB; exact rfl; exact rfl; all_goals intros) | (apply St.condP; exact rfl; all_goals (intros; try (exfalso; omega))) | (apply St.condB; exact rfl; all_goals intros))
    refine Mt.backE (fun u h => hpPopS (hpTr hqr h) hcc) ?_
    refine Mt.eff1 (i := 2) (by decide +kernel) (by exact rfl) ?_
    repeat' (first | (apply Wl.callQ (f := 30); exact rfl; (repeat (first | exact Evs.nil | apply Evs.cons rfl)); (intro wq hq; refine (curBase wq).mono ?_; rintro e wr ⟨rfl, hr⟩; exact ⟨rfl, hq.keep hr⟩)) | (apply Wl.nil) | (apply Wl.splitP; exact rfl; exact rfl; all_goals (intros; try (exfalso; omega))) | (apply Wl.splitB; exact rfl; exact rfl; all_goals intros) | (apply St.condP; exact rfl; all_goals (intros; try (exfalso; omega))) | (apply St.condB; exact rfl; all_goals intros))
    refine Mt.backE (fun u h => hpPopS (hpTr hqr h) hcc) ?_
    refine Mt.eff1 (i := 5) (by decide +kernel) (by exact rfl) ?_
    repeat' (first | (apply Wl.callQ (f := 29); exact rfl; (repeat (first | exact Evs.nil | apply Evs.cons rfl)); (intro wq hq; refine (cTwo wq (hV.hp hq (by (repeat (first | exact trivial | exact hX.off (by omega) | refine ⟨by first | assumption | omega | (simp only; omega), ?_⟩))) (by (repeat (first | exact trivial | exact hX.off (by omega) | refine ⟨by first | assumption | omega | (simp only; omega), ?_⟩))))).mono ?_; rintro e wr ⟨rfl, hr⟩; exact ⟨rfl, hq.keep hr⟩)) | (apply Wl.nil) | (apply Wl.splitP; exact rfl; exact rfl; all_goals (intros; try (exfalso; omega))) | (apply Wl.splitB; exact rfl; exact rfl; all_goals intros) | (apply St.condP; exact rfl; all_goals (intros; try (exfalso; omega))) | (apply St.condB; exact rfl; all_goals intros))
    refine Mt.backE (fun u h => hpPopS (hpTr hqr h) hcc) ?_
    refine Mt.eff1 (i := 7) (by decide +kernel) (by exact rfl) ?_
    repeat' (first | (apply Wl.storeAll; exact rfl; exact rfl; (repeat (first | apply HSet.here | apply HSet.there)); (first | exact ptC_len _ _ _ | exact poC_len _ _ _ | exact poD_len _); (first | exact rfl | exact ptC_len _ _ _ | exact poC_len _ _ _ | exact poD_len _); (first | exact ptC_one _ _ _ | exact poC_one _ _ _ | exact poD_one _)) | (apply Wl.nil) | (apply Wl.splitP; exact rfl; exact rfl; all_goals (intros; try (exfalso; omega))) | (apply Wl.splitB; exact rfl; exact rfl; all_goals intros) | (apply St.condP; exact rfl; all_goals (intros; try (exfalso; omega))) | (apply St.condB; exact rfl; all_goals intros))
    refine Mt.backE (fun u h => hpTrS (c := cP) hqr h hcc) ?_
    refine Mt.toGt (by decide +kernel) ?_
    rcases hcs2 with ⟨hA1, hA0⟩ | ⟨hA1, hA0, hTR⟩ | ⟨hA1, hA0, hTR⟩
    all_goals
      repeat' (first | (apply St.bagX 10 [9]; exact mixed; (decide +kernel); kernel_rfl) | (apply OpsX.nil) | (apply OpsX.v; (intro X hX; change Wl [_] _ _ _ _ _ _ _; apply Wl.catX; (repeat (first | apply CatB.nil | apply CatB.cons)))) | (apply Gt.endX; exact rfl) | (apply EndX.on; exact rfl) | (apply EndX.off; exact rfl) | (apply EndX.nil'; apply Wl.catE; (repeat (first | apply CatB.nil | apply CatB.cons))) | (apply Wl.loadAH; exact rfl; exact rfl; (repeat (first | exact List.Mem.head _ | apply List.Mem.tail)); (first | exact ptC_x _ _ _ | exact ptC_y _ _ _ | exact ptC_z _ _ _ | exact poC_x _ _ _ | exact poC_y _ _ _ | exact poD_x _ | exact poD_y _ | exact LSub.whole (ptC_len _ _ _) | exact LSub.whole (poC_len _ _ _) | exact LSub.whole (poD_len _))) | (apply Wl.loadH; exact rfl; exact rfl; (repeat (first | exact List.Mem.head _ | apply List.Mem.tail)); (first | exact poC_n _ _ _ | exact poD_n _)) | (apply Wl.callQ (f := 31); exact rfl; (repeat (first | exact Evs.nil | apply Evs.cons rfl)); (intro wq hq; refine (hRd wq (hMr.hp hq (by (repeat (first | exact trivial | exact hX.off (by omega) | refine ⟨by first | assumption | omega | (simp only; omega), ?_⟩))))).mono ?_; rintro e wr ⟨rfl, hr⟩; exact ⟨rfl, hq.keep hr⟩)) | (apply Wl.neqA (t := 30); exact rfl; exact rfl; exact rfl; kernel_rfl; kernel_rfl; kernel_rfl; kernel_rfl; exact cell32 _ (dlt _); exact cell32 _ (dlt _); (first | with_reducible exact ne8 hTW hRW hTR | with_reducible exact eq8 hTR)) | (apply Wl.loadW; exact rfl; exact rfl; (repeat (first | exact List.Mem.head _ | apply List.Mem.tail)); exact rfl) | (apply Wl.move; exact rfl; exact rfl) | (apply Wl.assign; exact rfl; exact rfl) | (apply Wl.on; exact rfl; exact rfl; (first | with_reducible rfl | with_reducible assumption | decide)) | (apply Wl.off; exact rfl; exact rfl; exact rfl; (first | with_reducible rfl | (show _ = false; with_reducible assumption) | (show _ = true; with_reducible assumption) | decide)) | (apply Wl.pickT; exact rfl; exact rfl; (first | with_reducible rfl | with_reducible assumption | decide); exact rfl) | (apply Wl.pickF; exact rfl; exact rfl; (first | with_reducible rfl | with_reducible assumption | decide); exact rfl) | (apply Wl.fieldAddr0; exact rfl; exact rfl) | (apply Wl.fieldAddrZ; exact rfl; exact rfl) | (apply Wl.nil) | (apply St.seq) | (apply St.region) | (apply St.condT; exact rfl; (first | with_reducible rfl | with_reducible assumption | decide)) | (apply St.condF; exact rfl; (first | with_reducible rfl | with_reducible assumption | decide)) | (apply St.ret) | (apply St.skip) | (apply Gt.next) | (apply Gt.thenRet) | (apply Gt.out1; exact rfl; exact rfl; intro w' hp) | (apply Wl.splitP; exact rfl; exact rfl; all_goals (intros; try (exfalso; omega))) | (apply Wl.splitB; exact rfl; exact rfl; all_goals intros) | (apply St.condP; exact rfl; all_goals (intros; try (exfalso; omega))) | (apply St.condB; exact rfl; all_goals intros))
    · exact ⟨by rw [if_pos (.inl hA0)], hpFin hp hu2 (by simp; omega)⟩
    · exact ⟨by rw [if_neg (by rintro (h | h); exact hA0 h; exact h hTR)], hpFin hp hu2 (by simp; omega)⟩
    · exact ⟨by rw [if_pos (.inr hTR)], hpFin hp hu2 (by simp; omega)⟩
end Go.Proofs.YtfaobdakpbpkbaaDoor
end
section
/-
  seal.Mac. Conditions: the key and the parts are short; the table of SHA-256 is laid.
-/
namespace Go.Pt
open Go.RowKit
theorem Wl.indexAt {P : Program} {md : Md} {N : Nat} {ops : Array Oper} {rest : List Oper} {Γ : Env} {C : World → Prop} {Q : Exit → Act → World → Prop} {d : Nat} {ty : TypeId} {pos : String} {af : Array Edge} {t e sz by_ n : TypeId} [ht : TyD P t (.array n e)] [TyS P e sz by_] {x i : Operand} {b o : Nat} {k : IntKind} {j : Int} (o' : Nat) (hd : Nat.blt d N = true) (hx : ev Γ x = some (.pointer (some ⟨b, o, none⟩))) (hi : ev Γ i = some (.int k j))
    (hj : 0 ≤ j ∧ j < (n : Int)) (ho : o + j.toNat * sz = o') (h : Wl rest P md ops N ((d, .pointer (some ⟨b, o', none⟩)) :: Γ) C Q) : Wl (⟨some d, .indexAddr t x i, ty, pos, af, none⟩ :: rest) P md ops N Γ C Q := by
  subst ho
  exact Wl.indexArr hd hx hi hj h
theorem Bs.aged {w : World} {v : Value} {l : List UInt8} (h : Bs w v l) (hne : l ≠ []) : ∀ k, v.ownBlock = some k → k < w.heap.size := by
  obtain ⟨a, cap, rfl, _, _⟩ := h.shape
  obtain ⟨ab, off, rfl, hcell⟩ := h.cells hne
  intro k hk
  cases hk
  exact World.block_lt_of_cell? w _ (hcell 0 (List.length_pos_iff.2 hne))
/-- v is a slice of byte slices that read as ls -/
def Pts (w : World) (v : Value) (ls : List (List UInt8)) : Prop := ∃ vs : List Value, vs.length = ls.length ∧ Sv w 1 vs.length v vs ∧ ∀ (i : Nat) (x : Value) (l : List UInt8), vs[i]? = some x → ls[i]? = some l → Bs w x l
theorem flat_succ {α : Type} (ls : List (List α)) (i : Nat) (l : List α) (h : ls[i]? = some l) : (ls.take (i + 1)).flatten = (ls.take i).flatten ++ l := by
  rw [List.take_add_one, h]; simp
theorem flat_le {α : Type} (ls : List (List α)) (i : Nat) : (ls.take i).flatten.length ≤ ls.flatten.length := by
  have := congrArg List.length (congrArg List.flatten (List.take_append_drop i ls))
  rw [List.flatten_append, List.length_append] at this
  omega
def padX (k : List UInt8) (c : Nat) (i : Nat) : Nat := (Sha.byteAt k i ^^^ c) % 256
theorem padX_lt (k : List UInt8) (c i : Nat) : padX k c i < 256 := Nat.mod_lt _ (by decide)
def padL (k : List UInt8) (c : Nat) : List UInt8 := (List.range 64).map fun i => UInt8.ofNat (padX k c i)
theorem padL_len (k : List UInt8) (c : Nat) : (padL k c).length = 64 := by simp [padL]
def key64 (k : List UInt8) : List UInt8 := if 64 < k.length then shaL k else k
def macI (q t : List UInt8) : Nat → Nat := Sha.of (padL q 92 ++ shaL (padL q 54 ++ t))
def mac (k t : List UInt8) : Nat → Nat := macI (key64 k) t
def padF (k : List UInt8) (n j : Nat) : Nat := if j < 64 then (if j < n then padX k 54 j else 0) else if j - 64 < n then padX k 92 (j - 64) else 0
theorem padF_zero (k : List UInt8) (j : Nat) : padF k 0 j = 0 := by unfold padF; split <;> simp
theorem padF_succ (k : List UInt8) (i : Nat) (hi : i < 64) : cellsN .u8 128 (updN (updN (padF k i) i (padX k 54 i)) (64 + i) (padX k 92 i)) = cellsN .u8 128 (padF k (i + 1)) := cellsN_congr fun j hj => by
  unfold updN padF
  by_cases h1 : j = 64 + i
  · subst h1
    rw [if_pos rfl, if_neg (by omega), if_pos (by omega), show 64 + i - 64 = i by omega]
  · rw [if_neg h1]
    by_cases h2 : j = i
    · subst h2; rw [if_pos rfl, if_pos hi, if_pos (by omega)]
    · rw [if_neg h2]
      by_cases h3 : j < 64
      · rw [if_pos h3, if_pos h3]
        by_cases h4 : j < i
        · rw [if_pos h4, if_pos (by omega)]
        · rw [if_neg h4, if_neg (by omega)]
      · rw [if_neg h3, if_neg h3]
        by_cases h4 : j - 64 < i
        · rw [if_pos h4, if_pos (by omega)]
        · rw [if_neg h4, if_neg (by omega)]
theorem padF_all (k : List UInt8) : byteCells (padL k 54 ++ padL k 92) = cellsN .u8 128 (padF k 64) := by
  apply List.ext_getElem?
  intro j
  unfold byteCells cellsN
  rw [List.map_append]
  by_cases h1 : j < 64
  · rw [List.getElem?_append_left (by rw [List.length_map, padL_len]; exact h1)]
    unfold padL padF
    simp only [List.getElem?_map, List.getElem?_range h1, List.getElem?_range (show j < 128 by omega), Option.map_some]
    rw [if_pos h1, if_pos h1, UInt8.toNat_ofNat', Nat.mod_eq_of_lt (show padX k 54 j < 2 ^ 8 from padX_lt _ _ _)]
  · rw [List.getElem?_append_right (by rw [List.length_map, padL_len]; omega), List.length_map, padL_len]
    by_cases h2 : j < 128
    · unfold padL padF
      simp only [List.getElem?_map, List.getElem?_range (show j - 64 < 64 by omega), List.getElem?_range h2, Option.map_some]
      rw [if_neg h1, if_pos (by omega), UInt8.toNat_ofNat', Nat.mod_eq_of_lt (show padX k 92 (j - 64) < 2 ^ 8 from padX_lt _ _ _)]
    · rw [List.getElem?_eq_none (by rw [List.length_map, padL_len]; omega), List.getElem?_eq_none (by simp; omega)]
theorem bsPads {w : World} {c t : Nat} {k : List UInt8} {fr : Nat × Nat} (h : w.heap[c]? = some (.cells (cellsN .u8 128 (padF k 64)).toArray t fr)) :
    Bs w (.slice (some ⟨c, 0, none⟩) 64 64) (padL k 54) ∧ Bs w (.slice (some ⟨c, 64, none⟩) 64 64) (padL k 92) := by
  have hl : (padL k 54 ++ padL k 92).length = 128 := by rw [List.length_append, padL_len, padL_len]
  have hb := Bs.ofBlk (l := padL k 54 ++ padL k 92) (by rw [padF_all]; exact h) (by rw [hl]; decide)
  rw [hl] at hb
  refine ⟨?_, ?_⟩
  · have := hb.sub (lo := 0) (hi := 64) (mx := 64) (by omega) (by omega) (by omega) (by omega)
    rw [List.take_append_of_le_length (by rw [padL_len]; decide), List.take_of_length_le (by rw [padL_len]; decide)] at this
    simpa [Addr.add] using this
  · have := hb.sub (lo := 64) (hi := 128) (mx := 128) (by omega) (by omega) (by omega) (by omega)
    rw [List.take_of_length_le (by omega), show (64 : Nat) = (padL k 54).length from (padL_len _ _).symm, List.drop_left, padL_len] at this
    simpa [Addr.add] using this
end Go.Pt
namespace Go.Pt
open Go.RowKit
theorem Gt.meetW {N : Nat} {Γ : Env} {C : World → Prop} {Q : Exit → Act → World → Prop} {σ : Type} {I : σ → Prop} {Γf : σ → Env} {Cf : σ → World → Prop} (f : World → σ) (hI : ∀ w, C w → I (f w)) (hs : ∀ w, Sub Γ (Γf (f w))) (hc : ∀ w, C w → Cf (f w) w) :
    Gt N .normal Γ C (Exit.then (fun a w => ∃ τ', I τ' ∧ Fr N a (Γf τ') ∧ Cf τ' w) Q) := Gt.intro fun a w ha hw => (⟨f w, hI w hw, ha.sub (hs w), hc w hw⟩ : ∃ τ', I τ' ∧ Fr N a (Γf τ') ∧ Cf τ' w)
end Go.Pt
namespace Go.Proofs.YtfaobdakpbpkbaaDoor
open Go.RowKit Go.Pt
instance tzPads : TyZ Tryd.prog 87 (.agg (cellsN .u8 128 fun _ => 0).toArray) := ⟨by kernel_rfl⟩
theorem zPads (k : List UInt8) : (Value.agg (cellsN .u8 128 fun _ => 0).toArray).cells.toList = cellsN .u8 128 (padF k 0) := by
  rw [cellsN_congr (f := padF k 0) (g := fun _ => 0) fun j _ => padF_zero k j]
  rfl
set_option maxHeartbeats 16000000 in
theorem sealMac (kv pv : Value) (k : List UInt8) (ls : List (List UInt8)) (w : World) (hK : ArrAt w 0 0 .u32 64 Sha.K) (hk : Bs w kv k) (hkn : k.length < 400000000000000) (hp : Pts w pv ls) (hln : ls.flatten.length < 100000000) :
    Calls Tryd.prog 14 #[kv, pv] w fun e w' => e = .returned (.agg (cellsN .u8 32 (mac k ls.flatten)).toArray) ∧ Hp w [] w' := by
  have h0K := hK.lt (by decide)
  obtain ⟨vs, hlen, ⟨_, pa, pc, rfl, hc1, hc2, _, hcell⟩, hbs⟩ := hp
  unfold maxLen at hc2
  obtain ⟨ka, kc, rfl, hkl, hkm⟩ := hk.shape
  unfold maxLen at hkm
  refine enter (args := [_, _]) (Γ := [(0, _), (1, _)]) Tryd.func14 Tryd.ntmps14 rfl (of_decide_eq_true rfl) (.cons rfl (.cons rfl .nil)) ?_
  apply St.seq
  repeat' (first | (apply Wl.allocC (t := 45); exact rfl; exact z32b; intro c hc ho) | (apply Wl.nil) | (apply St.region) | (apply Gt.next) | (apply Wl.splitP; exact rfl; exact rfl; all_goals (intros; try (exfalso; omega))) | (apply Wl.splitB; exact rfl; exact rfl; all_goals intros) | (apply St.condP; exact rfl; all_goals (intros; try (exfalso; omega))) | (apply St.condB; exact rfl; all_goals intros))
  generalize c = c4 at *
  have hc4 : w.heap.size ≤ c4 := by assumption
  refine St.cut (σ := World × Value) (fun τ => (Upd (fun k => w.heap.size ≤ k) w τ.1 ∧ Bs τ.1 τ.2 (key64 k)) ∧ c4 < τ.1.heap.size ∧ (key64 k ≠ [] → ∀ b, τ.2.ownBlock = some b → b ≠ c4 ∧ b < τ.1.heap.size)) (fun τ => [(0, τ.2), (1, .slice pa vs.length pc), (4, .pointer (some ⟨c4, 0, none⟩))]) (fun τ => Hp τ.1 [⟨c4, cellsN .u8 32 fun _ => 0, 45⟩]) ?_ ?_
  · by_cases hbig : 64 < k.length
    · have hd : decide ((64 : Int) < (k.length : Int)) = true := decide_eq_true (by omega)
      repeat' (first | (apply Wl.callQ (f := 23); exact rfl; (repeat (first | exact Evs.nil | apply Evs.cons rfl)); (intro wq hq; refine (shaOf _ k wq (bsNew hk hq (by simp; omega)) (by omega) (fun hne b hb => Nat.lt_of_lt_of_le (hk.aged hne b hb) hq.upd.size) (hK.upd hq.upd (fun y => y (by (repeat (first | exact trivial | exact hX.off (by omega) | refine ⟨by first | assumption | omega | (simp only; omega), ?_⟩)))))).mono ?_; rintro e wr ⟨rfl, hr⟩; exact ⟨rfl, hq.keep hr⟩)) | (apply Wl.allocC (t := 45); exact rfl; exact z32b; intro c hc ho) | (apply Wl.sliceAll; exact rfl; exact rfl; (decide); exact rfl) | (apply Wl.storeW; exact rfl; exact rfl; (repeat (first | apply HSet.here | apply HSet.there)); exact rfl; (first | exact cellsN_len _ _ _ | exact rfl)) | (apply Wl.move; exact rfl; exact rfl) | (apply Wl.assign; exact rfl; exact rfl) | (apply Wl.gtr; exact rfl; exact rfl; exact rfl) | (apply Wl.len; exact rfl; exact rfl) | (apply Wl.nil) | (apply St.seq) | (apply St.region) | (apply St.condT; exact rfl; (first | with_reducible rfl | with_reducible assumption | decide)) | (apply Gt.next) | (apply Wl.splitP; exact rfl; exact rfl; all_goals (intros; try (exfalso; omega))) | (apply Wl.splitB; exact rfl; exact rfl; all_goals intros) | (apply St.condP; exact rfl; all_goals (intros; try (exfalso; omega))) | (apply St.condB; exact rfl; all_goals intros))
      have hne : c ≠ c4 := by rename_i ho; exact fun e => ho.1 e.symm
      refine Gt.meetW (fun w' => (w', .slice (some ⟨c, 0, none⟩) 32 32)) (fun w' hw => ⟨⟨hpOn hw (Upd.refl _ _) (by simp; omega), ?_⟩, hw.own.lt (.tail _ (.head _)), fun _ b hb => ?_⟩) (fun w' => by (repeat (first | exact Sub.nil | apply Sub.cons rfl))) fun w' hw => ⟨Upd.refl _ _, hw.own.2, hw.apart.2⟩
      · show Bs w' _ (key64 k)
        unfold key64
        rw [if_pos hbig]
        exact bsSha (hw.own.at (x := ⟨c, cellsN .u8 32 (Sha.of k), 45⟩) (.head _))
      · cases hb
        exact ⟨hne, hw.own.lt (.head _)⟩
    · have hd : decide ((64 : Int) < (k.length : Int)) = false := decide_eq_false (by omega)
      repeat' (first | (apply Wl.move; exact rfl; exact rfl) | (apply Wl.gtr; exact rfl; exact rfl; exact rfl) | (apply Wl.len; exact rfl; exact rfl) | (apply Wl.nil) | (apply St.seq) | (apply St.region) | (apply St.condF; exact rfl; (first | with_reducible rfl | with_reducible assumption | decide)) | (apply St.skip) | (apply Gt.next) | (apply Wl.splitP; exact rfl; exact rfl; all_goals (intros; try (exfalso; omega))) | (apply Wl.splitB; exact rfl; exact rfl; all_goals intros) | (apply St.condP; exact rfl; all_goals (intros; try (exfalso; omega))) | (apply St.condB; exact rfl; all_goals intros))
      have e64 : key64 k = k := by unfold key64; rw [if_neg hbig]
      refine Gt.meetW (fun w' => (w', .slice ka k.length kc)) (fun w' hw => ⟨⟨hpOn hw (Upd.refl _ _) (by simp; omega), ?_⟩, hw.own.lt (.head _), fun hne b hb => ?_⟩) (fun w' => by (repeat (first | exact Sub.nil | apply Sub.cons rfl))) fun w' hw => ⟨Upd.refl _ _, hw.own, hw.apart⟩
      · show Bs w' _ (key64 k)
        rw [e64]
        exact bsNew hk hw (by simp; omega)
      · rw [e64] at hne
        have := hk.aged hne b hb
        have := hw.upd.size
        exact ⟨by omega, by show b < w'.heap.size; omega⟩
  rintro ⟨w1, kv1⟩ ⟨⟨hu1, hk1⟩, hl4, ho1⟩
  simp only at hu1 hk1 hl4 ho1 ⊢
  have hq64 : (key64 k).length ≤ 64 := by
    unfold key64
    split
    · rw [shaL_len]; decide
    · omega
  rw [show mac k ls.flatten = macI (key64 k) ls.flatten from rfl]
  generalize key64 k = q at *
  have s01 := hu1.size
  obtain ⟨ka1, kc1, rfl, hkl1, hkm1⟩ := hk1.shape
  unfold maxLen at hkm1
  have hK1 : ArrAt w1 0 0 .u32 64 Sha.K := hK.upd hu1 (by omega)
  repeat' (first | (apply Wl.allocC (t := 87); exact rfl; exact zPads q; intro c hc ho) | (apply Wl.move; exact rfl; exact rfl) | (apply Wl.nil) | (apply St.seq) | (apply St.block) | (apply St.region) | (apply Gt.next) | (apply Wl.splitP; exact rfl; exact rfl; all_goals (intros; try (exfalso; omega))) | (apply Wl.splitB; exact rfl; exact rfl; all_goals intros) | (apply St.condP; exact rfl; all_goals (intros; try (exfalso; omega))) | (apply St.condB; exact rfl; all_goals intros))
  generalize c = c6 at *
  have hc6 : w1.heap.size ≤ c6 := by assumption
  refine St.loop (σ := Nat) (fun i => i ≤ 64) (fun i => [(0, .slice ka1 q.length kc1), (1, .slice pa vs.length pc), (4, .pointer (some ⟨c4, 0, none⟩)), (6, .pointer (some ⟨c6, 0, none⟩)), (20, .int .i64 (i : Int))]) (fun i => Hp w1 [⟨c6, cellsN .u8 128 (padF q i), 87⟩, ⟨c4, cellsN .u8 32 fun _ => 0, 45⟩]) (fun i => 64 - i) 0 (by omega) (by (repeat (first | exact Sub.nil | apply Sub.cons rfl))) (fun _ h => h) ?_
  intro i hi
  by_cases hlt : i < 64
  · have hd : decide ((i : Int) < 64) = true := decide_eq_true (by omega)
    by_cases hlq : i < q.length
    · have hd2 : decide ((i : Int) < (q.length : Int)) = true := decide_eq_true (by omega)
      have hqn : q ≠ [] := fun e => by subst e; cases hlq
      obtain ⟨ab, off, rfl, hcell1⟩ := hk1.cells hqn
      obtain ⟨hne4, hla⟩ := ho1 hqn ab rfl
      have hne6 : c6 ≠ ab := by omega
      have hne4' : c4 ≠ ab := Ne.symm hne4
      have hci := hcell1 i hlq
      have hx1 : padX q 54 i = (q[i].toNat ^^^ 54) % 256 := by unfold padX; rw [Sha.byteAt_get hlq]
      have hx2 : padX q 92 i = (q[i].toNat ^^^ 92) % 256 := by unfold padX; rw [Sha.byteAt_get hlq]
      repeat' (first | (apply Wl.indexAt 0; exact rfl; exact rfl; exact rfl; (decide); (decide)) | (apply Wl.indexAt 64; exact rfl; exact rfl; exact rfl; (decide); (decide)) | (apply Wl.indexAt i; exact rfl; exact rfl; exact rfl; (constructor <;> omega); (omega)) | (apply Wl.indexAt (64 + i); exact rfl; exact rfl; exact rfl; (constructor <;> omega); (omega)) | (apply Wl.xorN8 (n := 54); exact rfl; exact rfl; exact rfl) | (apply Wl.xorN8 (n := 92); exact rfl; exact rfl; exact rfl) | (apply Wl.storeN; exact rfl; exact rfl; (repeat (first | apply HSet.here | apply HSet.there)); (omega)) | (apply Wl.move; exact rfl; exact rfl) | (apply Wl.assign; exact rfl; exact rfl) | (apply Wl.loadO; exact rfl; exact rfl; (assumption); (repeat (first | exact trivial | refine ⟨by first | assumption | omega, ?_⟩))) | (apply Wl.lss; exact rfl; exact rfl; exact rfl) | (apply Wl.addI; exact rfl; exact rfl; exact rfl; (constructor <;> omega)) | (apply Wl.len; exact rfl; exact rfl) | (apply Wl.indexAddr1; exact rfl; exact rfl; exact rfl; (constructor <;> omega)) | (apply Wl.nil) | (apply St.seq) | (apply St.block) | (apply St.region) | (apply St.condT; exact rfl; (first | with_reducible rfl | with_reducible assumption | decide)) | (apply St.skip) | (apply Gt.next) | (apply Gt.inNormal) | (apply Wl.splitP; exact rfl; exact rfl; all_goals (intros; try (exfalso; omega))) | (apply Wl.splitB; exact rfl; exact rfl; all_goals intros) | (apply St.condP; exact rfl; all_goals (intros; try (exfalso; omega))) | (apply St.condB; exact rfl; all_goals intros))
      apply Gt.round (i + 1)
      rotate_left
      · omega
      · (repeat (first | exact Sub.nil | apply Sub.cons rfl))
      · exact fun _ h => by rw [← padF_succ q i hlt, hx1, hx2]; exact h
      · omega
    · have hd2 : decide ((i : Int) < (q.length : Int)) = false := decide_eq_false (by omega)
      have hx0 : Sha.byteAt q i = 0 := by unfold Sha.byteAt; rw [List.getD_eq_getElem?_getD, List.getElem?_eq_none (by omega)]; rfl
      have hx1 : padX q 54 i = (0 ^^^ 54) % 256 := by unfold padX; rw [hx0]
      have hx2 : padX q 92 i = (0 ^^^ 92) % 256 := by unfold padX; rw [hx0]
      repeat' (first | (apply Wl.indexAt 0; exact rfl; exact rfl; exact rfl; (decide); (decide)) | (apply Wl.indexAt 64; exact rfl; exact rfl; exact rfl; (decide); (decide)) | (apply Wl.indexAt i; exact rfl; exact rfl; exact rfl; (constructor <;> omega); (omega)) | (apply Wl.indexAt (64 + i); exact rfl; exact rfl; exact rfl; (constructor <;> omega); (omega)) | (apply Wl.xorN8 (n := 54); exact rfl; exact rfl; exact rfl) | (apply Wl.xorN8 (n := 92); exact rfl; exact rfl; exact rfl) | (apply Wl.storeN; exact rfl; exact rfl; (repeat (first | apply HSet.here | apply HSet.there)); (omega)) | (apply Wl.move; exact rfl; exact rfl) | (apply Wl.assign; exact rfl; exact rfl) | (apply Wl.lss; exact rfl; exact rfl; exact rfl) | (apply Wl.addI; exact rfl; exact rfl; exact rfl; (constructor <;> omega)) | (apply Wl.len; exact rfl; exact rfl) | (apply Wl.nil) | (apply St.seq) | (apply St.block) | (apply St.region) | (apply St.condT; exact rfl; (first | with_reducible rfl | with_reducible assumption | decide)) | (apply St.condF; exact rfl; (first | with_reducible rfl | with_reducible assumption | decide)) | (apply St.skip) | (apply Gt.next) | (apply Gt.inNormal) | (apply Wl.splitP; exact rfl; exact rfl; all_goals (intros; try (exfalso; omega))) | (apply Wl.splitB; exact rfl; exact rfl; all_goals intros) | (apply St.condP; exact rfl; all_goals (intros; try (exfalso; omega))) | (apply St.condB; exact rfl; all_goals intros))
      apply Gt.round (i + 1)
      rotate_left
      · omega
      · (repeat (first | exact Sub.nil | apply Sub.cons rfl))
      · exact fun _ h => by rw [← padF_succ q i hlt, hx1, hx2]; exact h
      · omega
  obtain rfl : i = 64 := by omega
  have hd : decide (((64 : Nat) : Int) < 64) = false := rfl
  repeat' (first | (apply Wl.lss; exact rfl; exact rfl; exact rfl) | (apply Wl.nil) | (apply St.seq) | (apply St.region) | (apply St.condF; exact rfl; (first | with_reducible rfl | with_reducible assumption | decide)) | (apply St.exit) | (apply Gt.next) | (apply Gt.thenExit) | (apply Gt.inExit) | (apply Wl.splitP; exact rfl; exact rfl; all_goals (intros; try (exfalso; omega))) | (apply Wl.splitB; exact rfl; exact rfl; all_goals intros) | (apply St.condP; exact rfl; all_goals (intros; try (exfalso; omega))) | (apply St.condB; exact rfl; all_goals intros))
  apply Wl.callC
  · exact rfl
  · (repeat (first | exact Evs.nil | apply Evs.cons rfl))
  intro wq hq
  refine (shaNew wq).mono ?_
  rintro e w2 ⟨b1, rfl, hb1, hH1, hr⟩
  have hqr := hq.keep hr
  have s1 := hq.upd.size
  have s2 := hr.upd.size
  have m6 := hq.own.lt (.head _)
  have m4 := hq.own.lt (.tail _ (.head _))
  simp only at m6 m4
  have hu2 : Upd (fun k => w.heap.size ≤ k) w w2 := hpOn hqr hu1 (by simp; omega)
  have l1 : b1 < w2.heap.size := (Array.getElem?_eq_some_iff.1 hH1).1
  refine ⟨_, _, rfl, Hp.open (hpRb hqr) hH1 ⟨by simp only; omega, by simp only; omega, trivial⟩, ?_⟩
  clear hq hr hqr
  repeat' (first | (apply Wl.splitP; exact rfl; exact rfl; all_goals (intros; try (exfalso; omega))) | (apply Wl.splitB; exact rfl; exact rfl; all_goals intros) | (apply St.condP; exact rfl; all_goals (intros; try (exfalso; omega))) | (apply St.condB; exact rfl; all_goals intros))
  apply Wl.callC
  · exact rfl
  · (repeat (first | exact Evs.nil | apply Evs.cons rfl))
  intro wq2 hq
  refine (shaNew wq2).mono ?_
  rintro e w3 ⟨b2, rfl, hb2, hH2, hr⟩
  have hqr := hq.keep hr
  have s3 := hq.upd.size
  have s4 := hr.upd.size
  have n1 := hq.own.lt (.head _)
  simp only at n1
  have hu3 : Upd (fun k => w.heap.size ≤ k) w w3 := hpOn hqr hu2 (by simp; omega)
  have l2 : b2 < w3.heap.size := (Array.getElem?_eq_some_iff.1 hH2).1
  refine ⟨_, _, rfl, Hp.open (hpRb hqr) hH2 ⟨by simp only; omega, by simp only; omega, by simp only; omega, trivial⟩, ?_⟩
  clear hq hr hqr
  have hK3 : ArrAt w3 0 0 .u32 64 Sha.K := hK.upd hu3 (by omega)
  have hp0 : ∀ j, Sha.ini.p j < 256 := fun _ => by show 0 < 256; decide
  repeat' (first | (apply Wl.indexAt 0; exact rfl; exact rfl; exact rfl; (decide); (decide)) | (apply Wl.sliceAll; exact rfl; exact rfl; (decide); exact rfl) | (apply Wl.move; exact rfl; exact rfl) | (apply Wl.assign; exact rfl; exact rfl) | (apply Wl.nil) | (apply St.seq) | (apply St.region) | (apply Gt.next) | (apply Wl.splitP; exact rfl; exact rfl; all_goals (intros; try (exfalso; omega))) | (apply Wl.splitB; exact rfl; exact rfl; all_goals intros) | (apply St.condP; exact rfl; all_goals (intros; try (exfalso; omega))) | (apply St.condB; exact rfl; all_goals intros))
  apply Wl.callC
  exact rfl
  (repeat (first | exact Evs.nil | apply Evs.cons rfl))
  intro wq hq
  refine (shaWrite b1 Sha.ini (.slice (some ⟨c6, 0, none⟩) 64 64) (padL q 54) wq (hq.own.at (.tail _ (.head _))) hp0 (by rw [padL_len]; decide) (bsPads (c := c6) (hq.own.at (.tail _ (.tail _ (.head _))))).1 (fun _ e => absurd (show c6 = b1 from Option.some.inj e) (by omega)) (hK3.hp hq (by (repeat (first | exact trivial | exact hX.off (by omega) | refine ⟨by first | assumption | omega | (simp only; omega), ?_⟩)))) (by omega)).mono ?_
  rintro e wr ⟨rfl, hp⟩
  refine ⟨_, _, rfl, hq.callSet (by (repeat (first | apply HSet.here | apply HSet.there))) hp, ?_⟩
  clear hp hq wq wr
  repeat' (first | (apply Wl.move; exact rfl; exact rfl) | (apply Wl.len; exact rfl; exact rfl) | (apply Wl.nil) | (apply St.seq) | (apply St.block) | (apply St.region) | (apply Gt.next) | (apply Wl.splitP; exact rfl; exact rfl; all_goals (intros; try (exfalso; omega))) | (apply Wl.splitB; exact rfl; exact rfl; all_goals intros) | (apply St.condP; exact rfl; all_goals (intros; try (exfalso; omega))) | (apply St.condB; exact rfl; all_goals intros))
  refine St.loop (σ := Nat) (fun i => i ≤ vs.length) (fun i => [(4, .pointer (some ⟨c4, 0, none⟩)), (6, .pointer (some ⟨c6, 0, none⟩)), (9, mp b1), (10, mp b2), (48, .slice pa vs.length pc), (49, .int .i64 (vs.length : Int)), (50, .int .i64 (i : Int))]) (fun i => Hp w3 [hashB b2 Sha.ini, hashB b1 (Sha.wrL Sha.ini (padL q 54 ++ (ls.take i).flatten)), ⟨c6, cellsN .u8 128 (padF q 64), 87⟩, ⟨c4, cellsN .u8 32 fun _ => 0, 45⟩]) (fun i => vs.length - i) 0 (by omega) (by (repeat (first | exact Sub.nil | apply Sub.cons rfl))) (fun _ h => by rw [List.take_zero, List.flatten_nil, List.append_nil]; exact h) ?_
  intro i hi
  by_cases hlt : i < vs.length
  · have hd : decide ((i : Int) < (vs.length : Int)) = true := decide_eq_true (by omega)
    obtain ⟨g, og, rfl, hgc⟩ := hcell (fun e => by rw [e] at hlt; simp at hlt)
    obtain ⟨x, hx⟩ : ∃ x, vs[i]? = some x := ⟨_, List.getElem?_eq_getElem hlt⟩
    obtain ⟨l, hli⟩ : ∃ l, ls[i]? = some l := ⟨_, List.getElem?_eq_getElem (hlen ▸ hlt)⟩
    have hxl := hbs i x l hx hli
    have hg : w.cell? ⟨g, og + (i : Int).toNat, none⟩ = some x := by
      have h1 := hgc i hlt
      rw [List.getElem?_eq_getElem hlt] at hx
      rw [Int.toNat_natCast, h1]; exact hx
    have hgs := World.block_lt_of_cell? w _ hg
    simp only at hgs
    have hg3 : w3.cell? ⟨g, og + (i : Int).toNat, none⟩ = some x := hu3.cell hg (by simp only; omega)
    have hx3 : Bs w3 x l := hxl.upd hu3 fun k _ hk _ y => by omega
    have hxo : l ≠ [] → ∀ b, x.ownBlock = some b → b < w.heap.size := fun hne b hb => hxl.aged hne b hb
    have hsum := flat_succ ls i l hli
    have hle := flat_le ls (i + 1)
    have hle0 := flat_le ls i
    rw [hsum, List.length_append] at hle
    have e1 : c6 ≠ g := by omega
    have e2 : c4 ≠ g := by omega
    have e3 : b1 ≠ g := by omega
    have e4 : b2 ≠ g := by omega
    repeat' (first | (apply Wl.move; exact rfl; exact rfl) | (apply Wl.assign; exact rfl; exact rfl) | (apply Wl.loadO; exact rfl; exact rfl; (assumption); (repeat (first | exact trivial | refine ⟨by first | assumption | omega, ?_⟩))) | (apply Wl.lss; exact rfl; exact rfl; exact rfl) | (apply Wl.indexAddr1; exact rfl; exact rfl; exact rfl; (constructor <;> omega)) | (apply Wl.nil) | (apply St.seq) | (apply St.block) | (apply St.region) | (apply St.condT; exact rfl; (first | with_reducible rfl | with_reducible assumption | decide)) | (apply St.skip) | (apply Gt.next) | (apply Wl.splitP; exact rfl; exact rfl; all_goals (intros; try (exfalso; omega))) | (apply Wl.splitB; exact rfl; exact rfl; all_goals intros) | (apply St.condP; exact rfl; all_goals (intros; try (exfalso; omega))) | (apply St.condB; exact rfl; all_goals intros))
    apply Wl.callC
    exact rfl
    (repeat (first | exact Evs.nil | apply Evs.cons rfl))
    intro wq hq
    refine (shaWrite b1 (Sha.wrL Sha.ini (padL q 54 ++ (ls.take i).flatten)) x l wq (hq.own.at (.tail _ (.head _))) (wrL_p _ hp0) (by rw [Sha.wrL_n, List.length_append, padL_len]; show 0 + _ + _ < _; omega) (hx3.upd hq.upd fun k hk hlt hne hS => by have := hxo hne k hk; exact hS (by (repeat (first | exact trivial | exact hX.off (by omega) | refine ⟨by first | assumption | omega | (simp only; omega), ?_⟩)))) (fun hne e => by have := hxo hne b1 e; omega) (hK3.hp hq (by (repeat (first | exact trivial | exact hX.off (by omega) | refine ⟨by first | assumption | omega | (simp only; omega), ?_⟩)))) (by omega)).mono ?_
    rintro e wr ⟨rfl, hp⟩
    refine ⟨_, _, rfl, hq.callSet (by (repeat (first | apply HSet.here | apply HSet.there))) hp, ?_⟩
    clear hp hq wq wr
    repeat' (first | (apply Wl.move; exact rfl; exact rfl) | (apply Wl.addI; exact rfl; exact rfl; exact rfl; (constructor <;> omega)) | (apply Wl.nil) | (apply St.region) | (apply Gt.next) | (apply Gt.inNormal) | (apply Wl.splitP; exact rfl; exact rfl; all_goals (intros; try (exfalso; omega))) | (apply Wl.splitB; exact rfl; exact rfl; all_goals intros) | (apply St.condP; exact rfl; all_goals (intros; try (exfalso; omega))) | (apply St.condB; exact rfl; all_goals intros))
    apply Gt.round (i + 1)
    rotate_left
    · omega
    · (repeat (first | exact Sub.nil | apply Sub.cons rfl))
    · exact fun _ h => by rw [hsum, ← List.append_assoc, Sha.wrL_app]; exact h
    · omega
  obtain rfl : i = vs.length := by omega
  have hd2 : decide ((vs.length : Int) < (vs.length : Int)) = false := decide_eq_false (by omega)
  have etk : (ls.take vs.length).flatten = ls.flatten := by rw [hlen, List.take_length]
  rw [etk]
  repeat' (first | (apply Wl.move; exact rfl; exact rfl) | (apply Wl.lss; exact rfl; exact rfl; exact rfl) | (apply Wl.nil) | (apply St.seq) | (apply St.region) | (apply St.condF; exact rfl; (first | with_reducible rfl | with_reducible assumption | decide)) | (apply St.exit) | (apply Gt.next) | (apply Gt.thenExit) | (apply Gt.inExit) | (apply Wl.splitP; exact rfl; exact rfl; all_goals (intros; try (exfalso; omega))) | (apply Wl.splitB; exact rfl; exact rfl; all_goals intros) | (apply St.condP; exact rfl; all_goals (intros; try (exfalso; omega))) | (apply St.condB; exact rfl; all_goals intros))
  apply Wl.callQ
  exact rfl
  (repeat (first | exact Evs.nil | apply Evs.cons rfl))
  · intro wq hq
    refine (shaSum b1 (Sha.wrL Sha.ini (padL q 54 ++ ls.flatten)) wq (hq.own.at (.tail _ (.head _))) (wrL_p _ hp0) (by rw [Sha.wrL_n, List.length_append, padL_len]; show 0 + _ < _; omega) (hK3.hp hq (by (repeat (first | exact trivial | exact hX.off (by omega) | refine ⟨by first | assumption | omega | (simp only; omega), ?_⟩)))) (by omega)).mono ?_
    rintro e wr ⟨rfl, hr⟩
    exact ⟨rfl, hq.keep hr⟩
  repeat' (first | (apply Wl.allocC (t := 45); exact rfl; exact z32b; intro c hc ho) | (apply Wl.indexAt 64; exact rfl; exact rfl; exact rfl; (decide); (decide)) | (apply Wl.sliceAll; exact rfl; exact rfl; (decide); exact rfl) | (apply Wl.storeW; exact rfl; exact rfl; (repeat (first | apply HSet.here | apply HSet.there)); exact rfl; (first | exact cellsN_len _ _ _ | exact rfl)) | (apply Wl.move; exact rfl; exact rfl) | (apply Wl.nil) | (apply St.seq) | (apply St.region) | (apply Gt.next) | (apply Wl.splitP; exact rfl; exact rfl; all_goals (intros; try (exfalso; omega))) | (apply Wl.splitB; exact rfl; exact rfl; all_goals intros) | (apply St.condP; exact rfl; all_goals (intros; try (exfalso; omega))) | (apply St.condB; exact rfl; all_goals intros))
  have hb2' : b2 ≠ c := by omega
  generalize c = c13 at *
  apply Wl.callC
  exact rfl
  (repeat (first | exact Evs.nil | apply Evs.cons rfl))
  intro wq hq
  refine (shaWrite b2 Sha.ini (.slice (some ⟨c6, 64, none⟩) 64 64) (padL q 92) wq (hq.own.at (.tail _ (.head _))) hp0 (by rw [padL_len]; decide) (bsPads (c := c6) (hq.own.at (.tail _ (.tail _ (.tail _ (.head _)))))).2 (fun _ e => absurd (show c6 = b2 from Option.some.inj e) (by omega)) (hK3.hp hq (by (repeat (first | exact trivial | exact hX.off (by omega) | refine ⟨by first | assumption | omega | (simp only; omega), ?_⟩)))) (by omega)).mono ?_
  rintro e wr ⟨rfl, hp⟩
  refine ⟨_, _, rfl, hq.callSet (by (repeat (first | apply HSet.here | apply HSet.there))) hp, ?_⟩
  clear hp hq wq wr
  repeat' (first | (apply Wl.sliceAll; exact rfl; exact rfl; (decide); exact rfl) | (apply Wl.move; exact rfl; exact rfl) | (apply Wl.nil) | (apply St.seq) | (apply St.region) | (apply Gt.next) | (apply Wl.splitP; exact rfl; exact rfl; all_goals (intros; try (exfalso; omega))) | (apply Wl.splitB; exact rfl; exact rfl; all_goals intros) | (apply St.condP; exact rfl; all_goals (intros; try (exfalso; omega))) | (apply St.condB; exact rfl; all_goals intros))
  apply Wl.callC
  exact rfl
  (repeat (first | exact Evs.nil | apply Evs.cons rfl))
  intro wq hq
  refine (shaWrite b2 (Sha.wrL Sha.ini (padL q 92)) (.slice (some ⟨c13, 0, none⟩) 32 32) (shaL (padL q 54 ++ ls.flatten)) wq (hq.own.at (.tail _ (.head _))) (wrL_p _ hp0) (by rw [Sha.wrL_n, padL_len, shaL_len]; decide) (bsSha (c := c13) (t := 45) (fr := (0, 0)) (hq.own.at (.head _))) (fun _ e => absurd (show c13 = b2 from Option.some.inj e) (by omega)) (hK3.hp hq (by (repeat (first | exact trivial | exact hX.off (by omega) | refine ⟨by first | assumption | omega | (simp only; omega), ?_⟩)))) (by omega)).mono ?_
  rintro e wr ⟨rfl, hp⟩
  refine ⟨_, _, rfl, hq.callSet (by (repeat (first | apply HSet.here | apply HSet.there))) hp, ?_⟩
  clear hp hq wq wr
  repeat' (first | (apply Wl.move; exact rfl; exact rfl) | (apply Wl.nil) | (apply St.seq) | (apply St.region) | (apply Gt.next) | (apply Wl.splitP; exact rfl; exact rfl; all_goals (intros; try (exfalso; omega))) | (apply Wl.splitB; exact rfl; exact rfl; all_goals intros) | (apply St.condP; exact rfl; all_goals (intros; try (exfalso; omega))) | (apply St.condB; exact rfl; all_goals intros))
  apply Wl.callQ
  exact rfl
  (repeat (first | exact Evs.nil | apply Evs.cons rfl))
  · intro wq hq
    refine (shaSum b2 (Sha.wrL (Sha.wrL Sha.ini (padL q 92)) (shaL (padL q 54 ++ ls.flatten))) wq (hq.own.at (.tail _ (.head _))) (wrL_p _ (wrL_p _ hp0)) (by rw [Sha.wrL_n, Sha.wrL_n, padL_len, shaL_len]; decide) (hK3.hp hq (by (repeat (first | exact trivial | exact hX.off (by omega) | refine ⟨by first | assumption | omega | (simp only; omega), ?_⟩)))) (by omega)).mono ?_
    rintro e wr ⟨rfl, hr⟩
    exact ⟨rfl, hq.keep hr⟩
  repeat' (first | (apply Gt.outN; exact rfl; infer_instance; exact rfl; (repeat (first | exact List.Mem.head _ | apply List.Mem.tail)); exact rfl; intro w' hp) | (apply Wl.storeW; exact rfl; exact rfl; (repeat (first | apply HSet.here | apply HSet.there)); exact rfl; (first | exact cellsN_len _ _ _ | exact rfl)) | (apply Wl.nil) | (apply St.ret) | (apply Gt.next) | (apply Wl.splitP; exact rfl; exact rfl; all_goals (intros; try (exfalso; omega))) | (apply Wl.splitB; exact rfl; exact rfl; all_goals intros) | (apply St.condP; exact rfl; all_goals (intros; try (exfalso; omega))) | (apply St.condB; exact rfl; all_goals intros))
  refine ⟨?_, hpFin hp hu3 (by simp; omega)⟩
  rw [← Sha.wrL_app]
  rfl
end Go.Proofs.YtfaobdakpbpkbaaDoor
end
section
/-
  porticoref19.Mac. Conditions: the key and the text are short.
-/
namespace Go.Pt
open Go.RowKit
def padG (k : List UInt8) (c n j : Nat) : Nat := if j < n then padX k c j else 0
theorem padG_zero (k : List UInt8) (c j : Nat) : padG k c 0 j = 0 := by unfold padG; rw [if_neg (by omega)]
theorem padG_succ (k : List UInt8) (c i x : Nat) (hx : x = padX k c i) (y : Nat) : cellsN .u8 64 (updN (updN (padG k c i) i y) i x) = cellsN .u8 64 (padG k c (i + 1)) := cellsN_congr fun j _ => by
  unfold updN padG
  by_cases h2 : j = i
  · subst h2; rw [if_pos rfl, if_pos (by omega), hx]
  · rw [if_neg h2, if_neg h2]
    by_cases h4 : j < i
    · rw [if_pos h4, if_pos (by omega)]
    · rw [if_neg h4, if_neg (by omega)]
theorem padG_succ1 (k : List UInt8) (c i x : Nat) (hx : x = padX k c i) : cellsN .u8 64 (updN (padG k c i) i x) = cellsN .u8 64 (padG k c (i + 1)) := cellsN_congr fun j _ => by
  unfold updN padG
  by_cases h2 : j = i
  · subst h2; rw [if_pos rfl, if_pos (by omega), hx]
  · rw [if_neg h2]
    by_cases h4 : j < i
    · rw [if_pos h4, if_pos (by omega)]
    · rw [if_neg h4, if_neg (by omega)]
theorem padG_all (k : List UInt8) (c : Nat) : byteCells (padL k c) = cellsN .u8 64 (padG k c 64) := by
  unfold padL byteCells cellsN
  rw [List.map_map]
  apply List.map_congr_left
  intro j hj
  have hj : j < 64 := List.mem_range.1 hj
  simp only [Function.comp_apply]
  unfold padG
  rw [if_pos hj, UInt8.toNat_ofNat', Nat.mod_eq_of_lt (show padX k c j < 2 ^ 8 from padX_lt _ _ _)]
theorem hpSw {w0 w : World} {x y : Blk} {H : List Blk} (h : Hp w0 (x :: y :: H) w) : Hp w0 (y :: x :: H) w :=
  ⟨h.upd.mono fun k _ hn ho => hn ⟨ho.2.1, ho.1, ho.2.2⟩, ⟨h.own.2.1, h.own.1, h.own.2.2⟩, ⟨⟨fun e => h.apart.1.1 e.symm, h.apart.2.1⟩, h.apart.1.2, h.apart.2.2⟩⟩
end Go.Pt
namespace Go.Proofs.YtfaobdakpbpkbaaDoor
open Go.RowKit Go.Pt
def macB (k t : List UInt8) : List UInt8 := shaL (padL (key64 k) 92 ++ shaL (padL (key64 k) 54 ++ t))
theorem Bo.ofB {w : World} {base c : Nat} {l : List UInt8} (h : w.heap[c]? = some (.cells (byteCells l).toArray 5 (0, 0))) (hb : base ≤ c) (hl : l.length ≤ maxLen) : Bo w base (.slice (some ⟨c, 0, none⟩) l.length l.length) l :=
  ⟨by rw [byteCells_length, Nat.mul_one], .inr ⟨c, l.length, _, rfl, hb, h, Nat.le_refl _, hl, by simp [byteCells_length], by rw [Nat.mul_one]; exact List.take_of_length_le (by rw [byteCells_length]; exact Nat.le_refl _)⟩⟩
theorem zMade (k : List UInt8) (c : Nat) : (madeCells (Value.int .u8 0).cells (64 * 1)).toList = cellsN .u8 64 (padG k c 0) := by
  rw [cellsN_congr (f := padG k c 0) (g := fun _ => 0) fun j _ => padG_zero k c j]
  kernel_rfl
set_option maxHeartbeats 16000000 in
theorem refMac (kv tv : Value) (k l : List UInt8) (w : World) (hk : Bs w kv k) (hkn : k.length < 10000000) (ht : Bs w tv l) (hln : l.length < 10000000) :
    Calls Tryd.prog 15 #[kv, tv] w fun e w' => ∃ v, e = .returned v ∧ Bs w' v (macB k l) ∧ (∀ b, v.ownBlock = some b → w.heap.size ≤ b ∧ b < w'.heap.size) ∧ Upd (fun k => w.heap.size ≤ k) w w' := by
  obtain ⟨ka, kc, rfl, hkl, hkm⟩ := hk.shape
  unfold maxLen at hkm
  refine enter (args := [_, _]) (Γ := [(0, _), (1, _)]) Tryd.func15 Tryd.ntmps15 rfl (of_decide_eq_true rfl) (.cons rfl (.cons rfl .nil)) ?_
  apply St.seq
  repeat' (first | (apply Wl.assign; exact rfl; exact rfl) | (apply Wl.nil) | (apply St.region) | (apply Gt.next) | (apply Wl.splitP; exact rfl; exact rfl; all_goals (intros; try (exfalso; omega))) | (apply Wl.splitB; exact rfl; exact rfl; all_goals intros) | (apply St.condP; exact rfl; all_goals (intros; try (exfalso; omega))) | (apply St.condB; exact rfl; all_goals intros))
  refine St.cut (σ := World × Value) (fun τ => (Upd (fun k => w.heap.size ≤ k) w τ.1 ∧ Bs τ.1 τ.2 (key64 k))) (fun τ => [(0, τ.2), (1, tv)]) (fun τ => Hp τ.1 []) ?_ ?_
  · by_cases hbig : 64 < k.length
    · have hd : decide ((64 : Int) < (k.length : Int)) = true := decide_eq_true (by omega)
      repeat' (first | (apply Wl.callQ (f := 16); exact rfl; (repeat (first | exact Evs.nil | apply Evs.cons rfl)); (intro wq hq; refine (refSum _ k wq (bsNew hk hq (by simp)) (by omega) (fun hne b hb => Nat.lt_of_lt_of_le (hk.aged hne b hb) hq.upd.size)).mono ?_; rintro e wr ⟨rfl, hr⟩; exact ⟨rfl, hq.keep hr⟩)) | (apply Wl.allocC (t := 45); exact rfl; exact z32b; intro c hc ho) | (apply Wl.sliceAll; exact rfl; exact rfl; (decide); exact rfl) | (apply Wl.storeW; exact rfl; exact rfl; (repeat (first | apply HSet.here | apply HSet.there)); exact rfl; (first | exact cellsN_len _ _ _ | exact rfl)) | (apply Wl.move; exact rfl; exact rfl) | (apply Wl.assign; exact rfl; exact rfl) | (apply Wl.gtr; exact rfl; exact rfl; exact rfl) | (apply Wl.len; exact rfl; exact rfl) | (apply Wl.nil) | (apply St.seq) | (apply St.region) | (apply St.condT; exact rfl; (first | with_reducible rfl | with_reducible assumption | decide)) | (apply Gt.next) | (apply Wl.splitP; exact rfl; exact rfl; all_goals (intros; try (exfalso; omega))) | (apply Wl.splitB; exact rfl; exact rfl; all_goals intros) | (apply St.condP; exact rfl; all_goals (intros; try (exfalso; omega))) | (apply St.condB; exact rfl; all_goals intros))
      refine Gt.meetW (fun w' => (w', .slice (some ⟨c, 0, none⟩) 32 32)) (fun w' hw => ⟨hpOn hw (Upd.refl _ _) (by simp; omega), ?_⟩) (fun w' => by (repeat (first | exact Sub.nil | apply Sub.cons rfl))) fun w' hw => ⟨Upd.refl _ _, hw.own.2, hw.apart.2⟩
      show Bs w' _ (key64 k)
      unfold key64
      rw [if_pos hbig]
      exact bsSha (hw.own.at (x := ⟨c, cellsN .u8 32 (Sha.of k), 45⟩) (.head _))
    · have hd : decide ((64 : Int) < (k.length : Int)) = false := decide_eq_false (by omega)
      repeat' (first | (apply Wl.move; exact rfl; exact rfl) | (apply Wl.gtr; exact rfl; exact rfl; exact rfl) | (apply Wl.len; exact rfl; exact rfl) | (apply Wl.nil) | (apply St.seq) | (apply St.region) | (apply St.condF; exact rfl; (first | with_reducible rfl | with_reducible assumption | decide)) | (apply St.skip) | (apply Gt.next) | (apply Wl.splitP; exact rfl; exact rfl; all_goals (intros; try (exfalso; omega))) | (apply Wl.splitB; exact rfl; exact rfl; all_goals intros) | (apply St.condP; exact rfl; all_goals (intros; try (exfalso; omega))) | (apply St.condB; exact rfl; all_goals intros))
      have e64 : key64 k = k := by unfold key64; rw [if_neg hbig]
      refine Gt.meetW (fun w' => (w', .slice ka k.length kc)) (fun w' hw => ⟨hpOn hw (Upd.refl _ _) (by simp), ?_⟩) (fun w' => by (repeat (first | exact Sub.nil | apply Sub.cons rfl))) fun w' hw => ⟨Upd.refl _ _, hw.own, hw.apart⟩
      show Bs w' _ (key64 k)
      rw [e64]
      exact bsNew hk hw (by simp)
  rintro ⟨w1, kv1⟩ ⟨hu1, hk1⟩
  simp only at hu1 hk1 ⊢
  have hq64 : (key64 k).length ≤ 64 := by
    unfold key64
    split
    · rw [shaL_len]; decide
    · omega
  rw [show macB k l = shaL (padL (key64 k) 92 ++ shaL (padL (key64 k) 54 ++ l)) from rfl]
  generalize key64 k = q at *
  have s01 := hu1.size
  have ht1 : Bs w1 tv l := ht.upd hu1 fun k hk hlt hne hs => by omega
  have hto := fun hne k hk => ht.aged (l := l) hne k hk
  obtain ⟨ka1, kc1, rfl, hkl1, hkm1⟩ := hk1.shape
  unfold maxLen at hkm1
  refine St.cut (σ := Nat × Nat) (fun τ => (w1.heap.size ≤ τ.1 ∧ w1.heap.size ≤ τ.2 ∧ τ.1 ≠ τ.2)) (fun τ => [(0, .slice ka1 q.length kc1), (1, tv), (6, .slice (some ⟨τ.1, 0, none⟩) 64 64), (7, .slice (some ⟨τ.2, 0, none⟩) 64 64)]) (fun τ => Hp w1 [⟨τ.2, cellsN .u8 64 (padG q 92 0), 5⟩, ⟨τ.1, cellsN .u8 64 (padG q 54 0), 5⟩]) ?_ ?_
  · refine St.tree (Hp w1 []) mixed (fun _ h => ⟨Hp.drew h, Hp.drew h⟩) ?_
    refine Mt.eff2 (i := 0) (j := 1) (by decide +kernel) (by exact rfl) (by exact rfl) ?_ ?_
    · apply Wl.makeSlice (n := 64)
      · exact rfl
      · exact rfl
      · exact rfl
      · exact rfl
      · decide
      intro a ha hoa
      rw [zMade q 54]
      repeat' (first | (apply Wl.nil) | (apply Wl.splitP; exact rfl; exact rfl; all_goals (intros; try (exfalso; omega))) | (apply Wl.splitB; exact rfl; exact rfl; all_goals intros) | (apply St.condP; exact rfl; all_goals (intros; try (exfalso; omega))) | (apply St.condB; exact rfl; all_goals intros))
      refine Mt.backE (fun u h => h.drop (by simp; omega)) ?_
      refine Mt.pure 2 (by decide +kernel) (by exact rfl) (by exact rfl) (by decide +kernel) (by decide +kernel) ?_
      repeat' (first | (apply Wl.assign; exact rfl; exact rfl) | (apply Wl.nilM) | (apply Wl.splitP; exact rfl; exact rfl; all_goals (intros; try (exfalso; omega))) | (apply Wl.splitB; exact rfl; exact rfl; all_goals intros) | (apply St.condP; exact rfl; all_goals (intros; try (exfalso; omega))) | (apply St.condB; exact rfl; all_goals intros))
      apply Mt.back
      refine Mt.eff1 (i := 1) (by decide +kernel) (by exact rfl) ?_
      apply Wl.makeSlice (n := 64)
      · exact rfl
      · exact rfl
      · exact rfl
      · exact rfl
      · decide
      intro b hb hob
      rw [zMade q 92]
      repeat' (first | (apply Wl.nil) | (apply Wl.splitP; exact rfl; exact rfl; all_goals (intros; try (exfalso; omega))) | (apply Wl.splitB; exact rfl; exact rfl; all_goals intros) | (apply St.condP; exact rfl; all_goals (intros; try (exfalso; omega))) | (apply St.condB; exact rfl; all_goals intros))
      refine Mt.backE (fun u h => h.drop (by simp; omega)) ?_
      refine Mt.pure 3 (by decide +kernel) (by exact rfl) (by exact rfl) (by decide +kernel) (by decide +kernel) ?_
      repeat' (first | (apply Wl.assign; exact rfl; exact rfl) | (apply Wl.nilM) | (apply Wl.splitP; exact rfl; exact rfl; all_goals (intros; try (exfalso; omega))) | (apply Wl.splitB; exact rfl; exact rfl; all_goals intros) | (apply St.condP; exact rfl; all_goals (intros; try (exfalso; omega))) | (apply St.condB; exact rfl; all_goals intros))
      apply Mt.back
      refine Mt.toGt (by decide +kernel) ?_
      apply Gt.meet (a, b)
      · exact ⟨ha, hb, hob.1⟩
      · (repeat (first | exact Sub.nil | apply Sub.cons rfl))
      · exact fun _ h => h
    · apply Wl.makeSlice (n := 64)
      · exact rfl
      · exact rfl
      · exact rfl
      · exact rfl
      · decide
      intro b hb hob
      rw [zMade q 92]
      repeat' (first | (apply Wl.nil) | (apply Wl.splitP; exact rfl; exact rfl; all_goals (intros; try (exfalso; omega))) | (apply Wl.splitB; exact rfl; exact rfl; all_goals intros) | (apply St.condP; exact rfl; all_goals (intros; try (exfalso; omega))) | (apply St.condB; exact rfl; all_goals intros))
      refine Mt.backE (fun u h => h.drop (by simp; omega)) ?_
      refine Mt.eff1 (i := 0) (by decide +kernel) (by exact rfl) ?_
      apply Wl.makeSlice (n := 64)
      · exact rfl
      · exact rfl
      · exact rfl
      · exact rfl
      · decide
      intro a ha hoa
      rw [zMade q 54]
      repeat' (first | (apply Wl.nil) | (apply Wl.splitP; exact rfl; exact rfl; all_goals (intros; try (exfalso; omega))) | (apply Wl.splitB; exact rfl; exact rfl; all_goals intros) | (apply St.condP; exact rfl; all_goals (intros; try (exfalso; omega))) | (apply St.condB; exact rfl; all_goals intros))
      refine Mt.backE (fun u h => h.drop (by simp; omega)) ?_
      refine Mt.pure 2 (by decide +kernel) (by exact rfl) (by exact rfl) (by decide +kernel) (by decide +kernel) ?_
      repeat' (first | (apply Wl.assign; exact rfl; exact rfl) | (apply Wl.nilM) | (apply Wl.splitP; exact rfl; exact rfl; all_goals (intros; try (exfalso; omega))) | (apply Wl.splitB; exact rfl; exact rfl; all_goals intros) | (apply St.condP; exact rfl; all_goals (intros; try (exfalso; omega))) | (apply St.condB; exact rfl; all_goals intros))
      apply Mt.back
      refine Mt.pure 3 (by decide +kernel) (by exact rfl) (by exact rfl) (by decide +kernel) (by decide +kernel) ?_
      repeat' (first | (apply Wl.assign; exact rfl; exact rfl) | (apply Wl.nilM) | (apply Wl.splitP; exact rfl; exact rfl; all_goals (intros; try (exfalso; omega))) | (apply Wl.splitB; exact rfl; exact rfl; all_goals intros) | (apply St.condP; exact rfl; all_goals (intros; try (exfalso; omega))) | (apply St.condB; exact rfl; all_goals intros))
      apply Mt.back
      refine Mt.toGt (by decide +kernel) ?_
      apply Gt.meet (a, b)
      · exact ⟨ha, hb, fun e => hoa.1 e.symm⟩
      · (repeat (first | exact Sub.nil | apply Sub.cons rfl))
      · exact fun _ h => hpSw h
  rintro ⟨c6, c7⟩ ⟨hc6, hc7, hne67⟩
  simp only at hc6 hc7 hne67 ⊢
  repeat' (first | (apply Wl.assign; exact rfl; exact rfl) | (apply Wl.nil) | (apply St.seq) | (apply St.block) | (apply St.region) | (apply Gt.next) | (apply Wl.splitP; exact rfl; exact rfl; all_goals (intros; try (exfalso; omega))) | (apply Wl.splitB; exact rfl; exact rfl; all_goals intros) | (apply St.condP; exact rfl; all_goals (intros; try (exfalso; omega))) | (apply St.condB; exact rfl; all_goals intros))
  refine St.loop (σ := Nat) (fun i => i ≤ 64) (fun i => [(0, .slice ka1 q.length kc1), (1, tv), (6, .slice (some ⟨c6, 0, none⟩) 64 64), (7, .slice (some ⟨c7, 0, none⟩) 64 64), (8, .int .i64 (i : Int))]) (fun i => Hp w1 [⟨c7, cellsN .u8 64 (padG q 92 i), 5⟩, ⟨c6, cellsN .u8 64 (padG q 54 i), 5⟩]) (fun i => 64 - i) 0 (by omega) (by (repeat (first | exact Sub.nil | apply Sub.cons rfl))) (fun _ h => h) ?_
  intro i hi
  by_cases hlt : i < 64
  · have hd : decide ((i : Int) < 64) = true := decide_eq_true (by omega)
    by_cases hlq : i < q.length
    · have hd2 : decide ((i : Int) < (q.length : Int)) = true := decide_eq_true (by omega)
      have hqn : q ≠ [] := fun e => by subst e; cases hlq
      obtain ⟨ab, off, rfl, hcell1⟩ := hk1.cells hqn
      have hla : ab < w1.heap.size := hk1.aged hqn ab rfl
      have hne6 : c6 ≠ ab := by omega
      have hne7 : c7 ≠ ab := by omega
      have hci := hcell1 i hlq
      have hx1 : (updN (padG q 54 i) i 54 i ^^^ q[i].toNat) % 256 = padX q 54 i := by unfold updN padX; rw [if_pos rfl]; rw [Sha.byteAt_get hlq, Nat.xor_comm]
      have hx2 : (updN (padG q 92 i) i 92 i ^^^ q[i].toNat) % 256 = padX q 92 i := by unfold updN padX; rw [if_pos rfl]; rw [Sha.byteAt_get hlq, Nat.xor_comm]
      repeat' (first | (apply Wl.storeN (v := 54); exact rfl; exact rfl; (repeat (first | apply HSet.here | apply HSet.there)); (omega)) | (apply Wl.storeN (v := 92); exact rfl; exact rfl; (repeat (first | apply HSet.here | apply HSet.there)); (omega)) | (apply Wl.indexS0; exact rfl; exact rfl; exact rfl; (omega)) | (apply Wl.xorN8; exact rfl; exact rfl; exact rfl) | (apply St.bagX 12 []; exact mixed; (decide +kernel); kernel_rfl) | (apply OpsX.nil) | (apply OpsX.v; (intro X hX; change Wl [_] _ _ _ _ _ _ _; apply Wl.catX; (repeat (first | apply CatB.nil | apply CatB.cons)))) | (apply Gt.endX; exact rfl) | (apply EndX.on; exact rfl) | (apply EndX.off; exact rfl) | (apply EndX.nil'; apply Wl.catE; (repeat (first | apply CatB.nil | apply CatB.cons))) | (apply Wl.loadO; exact rfl; exact rfl; exact hci; (first | exact ⟨hne7, hne6, hX.off hla⟩ | exact ⟨hne7, hne6, trivial⟩)) | (apply Wl.loadN; exact rfl; exact rfl; (repeat (first | exact List.Mem.head _ | apply List.Mem.tail)); (omega)) | (apply Wl.storeN; exact rfl; exact rfl; (repeat (first | apply HSet.here | apply HSet.there)); (omega)) | (apply Wl.move; exact rfl; exact rfl) | (apply Wl.assign; exact rfl; exact rfl) | (apply Wl.lss; exact rfl; exact rfl; exact rfl) | (apply Wl.addI; exact rfl; exact rfl; exact rfl; (constructor <;> omega)) | (apply Wl.len; exact rfl; exact rfl) | (apply Wl.indexAddr1; exact rfl; exact rfl; exact rfl; (constructor <;> omega)) | (apply Wl.nil) | (apply St.seq) | (apply St.block) | (apply St.region) | (apply St.condT; exact rfl; (first | with_reducible rfl | with_reducible assumption | decide)) | (apply St.skip) | (apply Gt.next) | (apply Gt.inNormal) | (apply Wl.splitP; exact rfl; exact rfl; all_goals (intros; try (exfalso; omega))) | (apply Wl.splitB; exact rfl; exact rfl; all_goals intros) | (apply St.condP; exact rfl; all_goals (intros; try (exfalso; omega))) | (apply St.condB; exact rfl; all_goals intros))
      apply Gt.round (i + 1)
      rotate_left
      · omega
      · (repeat (first | exact Sub.nil | apply Sub.cons rfl))
      · exact fun _ h => by rw [← padG_succ q 54 i _ hx1 54, ← padG_succ q 92 i _ hx2 92]; exact h
      · omega
    · have hd2 : decide ((i : Int) < (q.length : Int)) = false := decide_eq_false (by omega)
      have hx0 : Sha.byteAt q i = 0 := by unfold Sha.byteAt; rw [List.getD_eq_getElem?_getD, List.getElem?_eq_none (by omega)]; rfl
      have hx1 : 54 = padX q 54 i := by unfold padX; rw [hx0]; rfl
      have hx2 : 92 = padX q 92 i := by unfold padX; rw [hx0]; rfl
      repeat' (first | (apply Wl.storeN (v := 54); exact rfl; exact rfl; (repeat (first | apply HSet.here | apply HSet.there)); (omega)) | (apply Wl.storeN (v := 92); exact rfl; exact rfl; (repeat (first | apply HSet.here | apply HSet.there)); (omega)) | (apply Wl.indexS0; exact rfl; exact rfl; exact rfl; (omega)) | (apply Wl.move; exact rfl; exact rfl) | (apply Wl.assign; exact rfl; exact rfl) | (apply Wl.lss; exact rfl; exact rfl; exact rfl) | (apply Wl.addI; exact rfl; exact rfl; exact rfl; (constructor <;> omega)) | (apply Wl.len; exact rfl; exact rfl) | (apply Wl.nil) | (apply St.seq) | (apply St.block) | (apply St.region) | (apply St.condT; exact rfl; (first | with_reducible rfl | with_reducible assumption | decide)) | (apply St.condF; exact rfl; (first | with_reducible rfl | with_reducible assumption | decide)) | (apply St.skip) | (apply Gt.next) | (apply Gt.inNormal) | (apply Wl.splitP; exact rfl; exact rfl; all_goals (intros; try (exfalso; omega))) | (apply Wl.splitB; exact rfl; exact rfl; all_goals intros) | (apply St.condP; exact rfl; all_goals (intros; try (exfalso; omega))) | (apply St.condB; exact rfl; all_goals intros))
      apply Gt.round (i + 1)
      rotate_left
      · omega
      · (repeat (first | exact Sub.nil | apply Sub.cons rfl))
      · exact fun _ h => by rw [← padG_succ1 q 54 i 54 hx1, ← padG_succ1 q 92 i 92 hx2]; exact h
      · omega
  obtain rfl : i = 64 := by omega
  have hd : decide (((64 : Nat) : Int) < 64) = false := rfl
  repeat' (first | (apply Wl.move; exact rfl; exact rfl) | (apply Wl.lss; exact rfl; exact rfl; exact rfl) | (apply Wl.nil) | (apply St.seq) | (apply St.region) | (apply St.condF; exact rfl; (first | with_reducible rfl | with_reducible assumption | decide)) | (apply St.exit) | (apply Gt.next) | (apply Gt.thenExit) | (apply Gt.inExit) | (apply Wl.splitP; exact rfl; exact rfl; all_goals (intros; try (exfalso; omega))) | (apply Wl.splitB; exact rfl; exact rfl; all_goals intros) | (apply St.condP; exact rfl; all_goals (intros; try (exfalso; omega))) | (apply St.condB; exact rfl; all_goals intros))
  apply Wl.reb (H' := [])
  intro w3 hw3
  refine ⟨trivial, trivial, ?_⟩
  have hu3 : Upd (fun k => w.heap.size ≤ k) w w3 := hpOn hw3 hu1 (by simp; omega)
  have s13 := hw3.upd.size
  have hin : Bo w3 w.heap.size (.slice (some ⟨c6, 0, none⟩) (padL q 54).length (padL q 54).length) (padL q 54) := Bo.ofB (by rw [padG_all]; exact hw3.own.2.1) (by omega) (by rw [padL_len]; decide)
  have hout : Bo w3 w.heap.size (.slice (some ⟨c7, 0, none⟩) (padL q 92).length (padL q 92).length) (padL q 92) := Bo.ofB (by rw [padG_all]; exact hw3.own.1) (by omega) (by rw [padL_len]; decide)
  rw [padL_len] at hin hout
  have ht3 : Bs w3 tv l := ht.upd hu3 fun k hk hlt hne hs => by omega
  clear hw3
  apply Wl.appendV (news := byteCells l) (m := l.length) (base := w.heap.size) (n := 64) (xs := byteCells (padL q 54))
  · exact rfl
  · exact rfl
  · exact rfl
  · exact ht3
  · exact fun _ _ _ _ => trivial
  · have := hin; unfold Bo at this; rw [padL_len] at this; exact this
  · exact fun _ _ => trivial
  · exact byteCells_all _
  · exact rfl
  · decide
  · unfold maxLen; omega
  · omega
  · omega
  intro v4 w4 ho4 u4 _ hoff4
  have hb4 : Bo w4 w.heap.size v4 (padL q 54 ++ l) := Bo.of ho4 (by rw [padL_len]) rfl
  have hout4 : Bo w4 w.heap.size (.slice (some ⟨c7, 0, none⟩) 64 64) (padL q 92) := hout.upd u4 fun k hk hs => hs.elim (fun e => hne67 ((Option.some.inj e).trans (Option.some.inj hk).symm)) fun y => y trivial
  have hu4 : Upd (fun k => w.heap.size ≤ k) w w4 := hu3.comp u4 fun k hk hs => hs.elim id fun hs => hs.elim (fun e => by have := Option.some.inj e; simp only at this; omega) fun y => absurd trivial y
  have s34 := u4.size
  clear hin hout ht3 u4 ho4
  repeat' (first | (apply Wl.callQ (f := 16); exact rfl; (repeat (first | exact Evs.nil | apply Evs.cons rfl)); (intro wq hq; refine (refSum v4 (padL q 54 ++ l) wq (hb4.upd hq.upd fun k hk hs => hs trivial).bs (by rw [List.length_append, padL_len]; omega) (fun _ k hk => Nat.lt_of_lt_of_le (hb4.lt k hk).2 hq.upd.size)).mono ?_; rintro e wr ⟨rfl, hr⟩; exact ⟨rfl, hq.keep hr⟩)) | (apply Wl.allocC (t := 45); exact rfl; exact z32b; intro c hc ho) | (apply Wl.sliceAll; exact rfl; exact rfl; (decide); exact rfl) | (apply Wl.storeW; exact rfl; exact rfl; (repeat (first | apply HSet.here | apply HSet.there)); exact rfl; (first | exact cellsN_len _ _ _ | exact rfl)) | (apply Wl.move; exact rfl; exact rfl) | (apply Wl.nil) | (apply St.seq) | (apply St.region) | (apply Gt.next) | (apply Wl.splitP; exact rfl; exact rfl; all_goals (intros; try (exfalso; omega))) | (apply Wl.splitB; exact rfl; exact rfl; all_goals intros) | (apply St.condP; exact rfl; all_goals (intros; try (exfalso; omega))) | (apply St.condB; exact rfl; all_goals intros))
  generalize c = c9 at *
  have hc9 : w4.heap.size ≤ c9 := by assumption
  have g7 : c7 < w4.heap.size := (hout4.lt c7 rfl).2
  apply Wl.appendH (news := cellsN .u8 32 (Sha.of (padL q 54 ++ l))) (m := 32) (base := w.heap.size) (n := 64) (xs := byteCells (padL q 92)) (bt := 45) (b := c9)
  · exact rfl
  · exact rfl
  · exact rfl
  · exact .head _
  · rw [cellsN_len]; rfl
  · have := hout4; unfold Bo at this; rw [padL_len] at this; exact this
  · exact fun k hk => ⟨by have := Option.some.inj hk; simp only at this; show c9 ≠ k; omega, trivial⟩
  · exact cellsN_one _ _ _
  · exact rfl
  · decide
  · decide
  · decide
  · omega
  intro v5 w5 ho5 u5 _ hoff5
  have hb5 : Bo w5 w.heap.size v5 (padL q 92 ++ shaL (padL q 54 ++ l)) := Bo.of ho5 (by rw [padL_len, shaL_len]) (by rw [shaL_bytes])
  have hu5 : Upd (fun k => w.heap.size ≤ k) w w5 := hu4.comp u5 fun k hk hs => hs.elim id fun hs => hs.elim (fun e => by have := Option.some.inj e; simp only at this; omega) fun y => offAll (n := w.heap.size) (H := [⟨c9, cellsN .u8 32 (Sha.of (padL q 54 ++ l)), 45⟩]) (by simp; omega) y
  have s45 := u5.size
  clear hout4 u5 ho5
  repeat' (first | (apply Wl.callQ (f := 16); exact rfl; (repeat (first | exact Evs.nil | apply Evs.cons rfl)); (intro wq hq; refine (refSum v5 (padL q 92 ++ shaL (padL q 54 ++ l)) wq (hb5.upd hq.upd fun k hk hs => hs (hoff5 k hk).1).bs (by rw [List.length_append, padL_len, shaL_len]; decide) (fun _ k hk => Nat.lt_of_lt_of_le (hb5.lt k hk).2 hq.upd.size)).mono ?_; rintro e wr ⟨rfl, hr⟩; exact ⟨rfl, hq.keep hr⟩)) | (apply Wl.allocC (t := 45); exact rfl; exact z32b; intro c hc ho) | (apply Wl.sliceAll; exact rfl; exact rfl; (decide); exact rfl) | (apply Wl.storeW; exact rfl; exact rfl; (repeat (first | apply HSet.here | apply HSet.there)); exact rfl; (first | exact cellsN_len _ _ _ | exact rfl)) | (apply Wl.assign; exact rfl; exact rfl) | (apply Wl.nil) | (apply St.seq) | (apply St.region) | (apply St.ret) | (apply Gt.next) | (apply Gt.out1; exact rfl; exact rfl; intro w' hp) | (apply Wl.splitP; exact rfl; exact rfl; all_goals (intros; try (exfalso; omega))) | (apply Wl.splitB; exact rfl; exact rfl; all_goals intros) | (apply St.condP; exact rfl; all_goals (intros; try (exfalso; omega))) | (apply St.condB; exact rfl; all_goals intros))
  refine ⟨_, rfl, bsSha (hp.own.at (x := ⟨c, cellsN .u8 32 (Sha.of (padL q 92 ++ shaL (padL q 54 ++ l))), 45⟩) (.head _)), fun b hb => ?_, hpOn hp hu5 (by simp; omega)⟩
  cases hb
  have h5 := hu5.size
  have h6 := hp.own.lt (.head _)
  exact ⟨show w.heap.size ≤ c by omega, h6⟩
end Go.Proofs.YtfaobdakpbpkbaaDoor
end
section
/-
  A byte literal converted to its own type (the model marks it): its block is let go, it reads as it did. Conditions: none.
-/
namespace Go.Pt
open Go.RowKit
theorem run_conv_mk {P : Program} {w : World} {t e : TypeId} {c n m : Nat} {cs : Array Value} {fr : Nat × Nat} (ht : P.underlying t = some (.slice e)) (he : P.underlying e = some (.int .u8)) (h : w.heap[c]? = some (.cells cs e fr)) :
    ∃ w' fr', (convert t t (.slice (some ⟨c, 0, none⟩) n m)).run P w = .ok (.slice (some ⟨c, 0, none⟩) n m) w' ∧ w'.heap[c]? = some (.cells cs e fr') ∧ Upd (· = c) w w' := by
  have hsh : w.shape? c = some (e, cs.size) := by unfold World.shape?; rw [h]
  have hlt := lt_of_block h
  refine ⟨w.freeze ⟨c, cs.size, none⟩ 1, if fr.1 == fr.2 then (cs.size, cs.size + 1) else (min fr.1 cs.size, max fr.2 (cs.size + 1)), ?_, ?_, ?_⟩
  · simp [convert, run_underlying ht, run_underlying he, markStringish, hsh]
  · have h' : w.heap[c] = .cells cs e fr := by simpa [Array.getElem?_eq_getElem hlt] using h
    unfold World.freeze
    rw [if_neg (by decide)]
    show (w.heap.modify c _)[c]? = _
    rw [Array.getElem?_eq_getElem (by simpa using hlt), Array.getElem_modify_self, h']
  · refine ⟨rfl, rfl, rfl, by simp [World.freeze], fun k hk hs => ?_⟩
    unfold World.freeze
    rw [if_neg (by decide)]
    show (w.heap.modify c _)[k]? = _
    rw [Array.getElem?_modify, if_neg (fun e => hs e.symm)]
theorem Wl.convMk {P : Program} {N : Nat} {ops : Array Oper} {rest : List Oper} {Γ : Env} {Q : Exit → Act → World → Prop} {d T : Nat} {ty : TypeId} {pos : String} {af : Array Edge} {t : TypeId} {x : Operand} {w0 : World} {H : List Blk} {c n : Nat} {cs : List Value} (l : List UInt8) [ht : TyD P t (.slice T)] [he : TyD P T (.int .u8)] (hd : Nat.blt d N = true)
    (hx : ev Γ x = some (.slice (some ⟨c, 0, none⟩) n n)) (hn : n = l.length) (hcs : cs = byteCells l) (hl : l.length ≤ maxLen) (hc0 : w0.heap.size ≤ c)
    (h : ∀ w1, Bs w1 (.slice (some ⟨c, 0, none⟩) n n) l → Upd (fun k => ¬ Off H k) w0 w1 → Own w1 H → Apart H → Off H c → c < w1.heap.size → Wl rest P .seq ops N ((d, .slice (some ⟨c, 0, none⟩) n n) :: Γ) (Hp w1 H) Q) :
    Wl (⟨some d, .convert t t x, ty, pos, af, none⟩ :: rest) P .seq ops N Γ (Hp w0 (⟨c, cs, T⟩ :: H)) Q :=
  Wl.eff fun a w ha hw => by
    subst hcs hn
    obtain ⟨w', fr', hr, hc, hu⟩ := run_conv_mk (P := P) (w := w) (t := t) (n := l.length) (m := l.length) ht.out he.out hw.own.1
    have hown : Own w' H := hw.own.2.upd hu fun y hy e => (hw.apart.1).at hy (by simpa using e)
    refine ⟨_, w', .inl ?_, (h w' (Bs.ofBlk hc hl) ?_ hown hw.apart.2 hw.apart.1 (lt_of_block hc)).elim _ _ (ha.put hd _) ⟨Upd.refl _ _, hown, hw.apart.2⟩⟩
    · simp only [execOp, ha.ev hx]
      simp [hr]
    · exact hw.upd.comp hu fun k hk hs => hs.elim (fun y e => y ⟨fun e' => by simp only at e'; omega, e⟩) fun e => by have e' : k = c := e; exact absurd e' (by omega)
end Go.Pt
end
section
/-
  limbs.Bytes; seal.secret. Conditions: none.
-/
namespace Go.Proofs.YtfaobdakpbpkbaaDoor
open Go.RowKit Go.Pt
attribute [local irreducible] Prim.P256 Prim.N256
def bA (n i : Nat) : Nat := dg W32 n (7 - i / 4) / 2 ^ (24 - 8 * (i % 4)) % 256
theorem bA_lt (n i : Nat) : bA n i < 256 := Nat.mod_lt _ (by decide)
def bL (n : Nat) : List UInt8 := (List.range 32).map fun i => UInt8.ofNat (bA n i)
theorem bL_len (n : Nat) : (bL n).length = 32 := by simp [bL]
theorem bL_bytes (n : Nat) : byteCells (bL n) = cellsN .u8 32 (bA n) := by
  unfold bL byteCells cellsN
  rw [List.map_map]
  apply List.map_congr_left
  intro j _
  simp only [Function.comp_apply]
  rw [UInt8.toNat_ofNat', Nat.mod_eq_of_lt (show bA n j < 2 ^ 8 from bA_lt _ _)]
def bF (n k j : Nat) : Nat := if j < k then bA n j else 0
theorem bF_zero (n : Nat) : cellsN .u8 32 (fun _ => 0) = cellsN .u8 32 (bF n 0) := cellsN_congr fun j _ => by unfold bF; rw [if_neg (by omega)]
theorem bF_succ (n i : Nat) : cellsN .u8 32 (updN (bF n i) i (bA n i)) = cellsN .u8 32 (bF n (i + 1)) := cellsN_congr fun j _ => by
  unfold updN bF
  by_cases h2 : j = i
  · subst h2; rw [if_pos rfl, if_pos (by omega)]
  · rw [if_neg h2]
    by_cases h4 : j < i
    · rw [if_pos h4, if_pos (by omega)]
    · rw [if_neg h4, if_neg (by omega)]
theorem bF_all (n : Nat) : cellsN .u8 32 (bF n 32) = cellsN .u8 32 (bA n) := cellsN_congr fun j hj => by unfold bF; rw [if_pos hj]
set_option maxHeartbeats 4000000 in
theorem limbBytes (n : Nat) (w : World) : Calls Tryd.prog 81 #[numV n] w fun e w' => e = .returned (.agg (cellsN .u8 32 (bA n)).toArray) ∧ Hp w [] w' := by
  refine enter (args := [_]) (Γ := [(0, _)]) Tryd.func81 Tryd.ntmps81 rfl (of_decide_eq_true rfl) (.cons rfl .nil) ?_
  repeat' (first | (apply Wl.allocC (t := 45); exact rfl; exact z32b; intro c hc ho) | (apply Wl.boxN; exact rfl; exact rfl; intro c hc ho) | (apply Wl.move; exact rfl; exact rfl) | (apply Wl.nil) | (apply St.seq) | (apply St.block) | (apply St.region) | (apply Gt.next) | (apply Wl.splitP; exact rfl; exact rfl; all_goals (intros; try (exfalso; omega))) | (apply Wl.splitB; exact rfl; exact rfl; all_goals intros) | (apply St.condP; exact rfl; all_goals (intros; try (exfalso; omega))) | (apply St.condB; exact rfl; all_goals intros))
  rename_i cn hcn hon cr hcr hor
  generalize c = cb at *
  refine St.loop (σ := Nat) (fun i => i ≤ 32) (fun i => [(1, mp cn), (2, mp cr), (3, mp cb), (5, .int .i64 (i : Int))]) (fun i => Hp w [⟨cb, cellsN .u8 32 (bF n i), 45⟩, ⟨cr, cellsN .u8 32 fun _ => 0, 45⟩, ⟨cn, cellsN .u32 8 (dg W32 n), 30⟩]) (fun i => 32 - i) 0 (by omega) (by (repeat (first | exact Sub.nil | apply Sub.cons rfl))) (fun _ h => by rw [← bF_zero]; exact h) ?_
  intro i hi
  by_cases hlt : i < 32
  · have hd : decide ((i : Int) < 32) = true := decide_eq_true (by omega)
    have h8 : 24 - 8 * (i % 4) ≤ 32 := by omega
    repeat' (first | (apply Wl.indexA; exact rfl; exact rfl; exact rfl; (omega)) | (apply Wl.quoN (n := 4); exact rfl; exact rfl; exact rfl; (decide); exact IntWalk.i64_in _ (by omega)) | (apply Wl.remN (n := 4); exact rfl; exact rfl; exact rfl; (decide)) | (apply Wl.mulNI (m := 8); exact rfl; exact rfl; exact rfl; (omega)) | (apply Wl.subR 7; exact rfl; exact rfl; exact rfl; exact rfl; (omega); (omega)) | (apply Wl.subR 24; exact rfl; exact rfl; exact rfl; exact rfl; (omega); (omega)) | (apply Wl.shrV; exact rfl; exact rfl; exact rfl; exact h8) | (apply Wl.convN8; exact rfl; exact rfl) | (apply Wl.loadN; exact rfl; exact rfl; (repeat (first | exact List.Mem.head _ | apply List.Mem.tail)); (omega)) | (apply Wl.storeN; exact rfl; exact rfl; (repeat (first | apply HSet.here | apply HSet.there)); (omega)) | (apply Wl.move; exact rfl; exact rfl) | (apply Wl.assign; exact rfl; exact rfl) | (apply Wl.lss; exact rfl; exact rfl; exact rfl) | (apply Wl.addI; exact rfl; exact rfl; exact rfl; (constructor <;> omega)) | (apply Wl.nil) | (apply St.seq) | (apply St.block) | (apply St.region) | (apply St.condT; exact rfl; (first | with_reducible rfl | with_reducible assumption | decide)) | (apply St.skip) | (apply Gt.next) | (apply Gt.inNormal) | (apply Wl.splitP; exact rfl; exact rfl; all_goals (intros; try (exfalso; omega))) | (apply Wl.splitB; exact rfl; exact rfl; all_goals intros) | (apply St.condP; exact rfl; all_goals (intros; try (exfalso; omega))) | (apply St.condB; exact rfl; all_goals intros))
    apply Gt.round (i + 1)
    rotate_left
    · omega
    · (repeat (first | exact Sub.nil | apply Sub.cons rfl))
    · exact fun _ h => by rw [← bF_succ]; exact h
    · omega
  obtain rfl : i = 32 := by omega
  have hd : decide (((32 : Nat) : Int) < 32) = false := rfl
  rw [bF_all]
  repeat' (first | (apply Gt.outN; exact rfl; infer_instance; exact rfl; (repeat (first | exact List.Mem.head _ | apply List.Mem.tail)); exact rfl; intro w' hp) | (apply Wl.loadW; exact rfl; exact rfl; (repeat (first | exact List.Mem.head _ | apply List.Mem.tail)); exact rfl) | (apply Wl.storeW; exact rfl; exact rfl; (repeat (first | apply HSet.here | apply HSet.there)); exact rfl; (first | exact cellsN_len _ _ _ | exact rfl)) | (apply Wl.lss; exact rfl; exact rfl; exact rfl) | (apply Wl.nil) | (apply St.seq) | (apply St.region) | (apply St.condF; exact rfl; (first | with_reducible rfl | with_reducible assumption | decide)) | (apply St.ret) | (apply St.exit) | (apply Gt.next) | (apply Gt.thenExit) | (apply Gt.inExit) | (apply Wl.splitP; exact rfl; exact rfl; all_goals (intros; try (exfalso; omega))) | (apply Wl.splitB; exact rfl; exact rfl; all_goals intros) | (apply St.condP; exact rfl; all_goals (intros; try (exfalso; omega))) | (apply St.condB; exact rfl; all_goals intros))
  exact ⟨rfl, hp.drop (by simp; omega)⟩
set_option maxHeartbeats 8000000 in
theorem sealSecret (v : Value) (l : List UInt8) (w : World) (hv : Bs w v l) (hl : l.length = 32) (hok : okS (rdL l) = true) : Calls Tryd.prog 79 #[v] w fun e w' => e = .returned (.tuple #[numV (rdL l), .bool true]) ∧ Hp w [] w' := by
  have hW := rdL_lt l
  have hz := fun wq => limbZero (rdL l) wq hW
  unfold okS at hok
  rw [Bool.and_eq_true] at hok
  have h0 := of_decide_eq_true hok.1
  have h1 := of_decide_eq_true hok.2
  rw [decide_eq_false h0] at hz
  have hCmp : cmpN (rdL l) Prim.N256 = -1 := cmp_lt h1
  refine enter (args := [_]) (Γ := [(0, _)]) Tryd.func79 Tryd.ntmps79 rfl (of_decide_eq_true rfl) (.cons rfl .nil) ?_
  repeat' (first | (apply Wl.callQ (f := 19); exact rfl; (repeat (first | exact Evs.nil | apply Evs.cons rfl)); (intro wq hq; refine (limbRead v l wq (bsNew hv hq (by simp; omega)) hl).mono ?_; rintro e wr ⟨rfl, hr⟩; exact ⟨rfl, hq.keep hr⟩)) | (apply Wl.storeW; exact rfl; exact rfl; (repeat (first | apply HSet.here | apply HSet.there)); exact rfl; (first | exact cellsN_len _ _ _ | exact rfl)) | (apply Wl.allocN; exact rfl; (first | exact z8 | exact z16 | exact z17 | exact z33 | exact z10); intro c hc ho) | (apply Wl.move; exact rfl; exact rfl) | (apply Wl.assign; exact rfl; exact rfl) | (apply Wl.extract; exact rfl; exact rfl; exact rfl) | (apply Wl.nil) | (apply St.seq) | (apply St.region) | (apply Gt.next) | (apply Wl.splitP; exact rfl; exact rfl; all_goals (intros; try (exfalso; omega))) | (apply Wl.splitB; exact rfl; exact rfl; all_goals intros) | (apply St.condP; exact rfl; all_goals (intros; try (exfalso; omega))) | (apply St.condB; exact rfl; all_goals intros))
  rename_i cr hcr hor
  refine St.tree (Hp w [⟨c, cellsN .u32 8 (dg W32 (rdL l)), 30⟩]) mixed (fun _ h => ⟨Hp.drew h, Hp.drew (hpPop (hpSw h) hcr)⟩) ?_
  refine Mt.pure 0 (by decide +kernel) (by exact rfl) (by exact rfl) (by decide +kernel) (by decide +kernel) ?_
  repeat' (first | (apply Wl.loadW; exact rfl; exact rfl; (repeat (first | exact List.Mem.head _ | apply List.Mem.tail)); exact rfl) | (apply Wl.nilM) | (apply Wl.splitP; exact rfl; exact rfl; all_goals (intros; try (exfalso; omega))) | (apply Wl.splitB; exact rfl; exact rfl; all_goals intros) | (apply St.condP; exact rfl; all_goals (intros; try (exfalso; omega))) | (apply St.condB; exact rfl; all_goals intros))
  apply Mt.back
  refine Mt.pure 1 (by decide +kernel) (by exact rfl) (by exact rfl) (by decide +kernel) (by decide +kernel) ?_
  repeat' (first | (apply Wl.move; exact rfl; exact rfl) | (apply Wl.nilM) | (apply Wl.splitP; exact rfl; exact rfl; all_goals (intros; try (exfalso; omega))) | (apply Wl.splitB; exact rfl; exact rfl; all_goals intros) | (apply St.condP; exact rfl; all_goals (intros; try (exfalso; omega))) | (apply St.condB; exact rfl; all_goals intros))
  apply Mt.back
  refine Mt.pure 2 (by decide +kernel) (by exact rfl) (by exact rfl) (by decide +kernel) (by decide +kernel) ?_
  repeat' (first | (apply Wl.eqlIs; exact rfl; exact rfl; exact rfl; (first | with_reducible assumption | with_reducible rfl)) | (apply Wl.nilM) | (apply Wl.splitP; exact rfl; exact rfl; all_goals (intros; try (exfalso; omega))) | (apply Wl.splitB; exact rfl; exact rfl; all_goals intros) | (apply St.condP; exact rfl; all_goals (intros; try (exfalso; omega))) | (apply St.condB; exact rfl; all_goals intros))
  apply Mt.back
  refine Mt.pure 3 (by decide +kernel) (by exact rfl) (by exact rfl) (by decide +kernel) (by decide +kernel) ?_
  repeat' (first | (apply Wl.move; exact rfl; exact rfl) | (apply Wl.nilM) | (apply Wl.splitP; exact rfl; exact rfl; all_goals (intros; try (exfalso; omega))) | (apply Wl.splitB; exact rfl; exact rfl; all_goals intros) | (apply St.condP; exact rfl; all_goals (intros; try (exfalso; omega))) | (apply St.condB; exact rfl; all_goals intros))
  apply Mt.back
  refine Mt.pure 4 (by decide +kernel) (by exact rfl) (by exact rfl) (by decide +kernel) (by decide +kernel) ?_
  repeat' (first | (apply Wl.loadW; exact rfl; exact rfl; (repeat (first | exact List.Mem.head _ | apply List.Mem.tail)); exact rfl) | (apply Wl.on; exact rfl; exact rfl; (first | with_reducible rfl | with_reducible assumption | decide)) | (apply Wl.nilM) | (apply Wl.splitP; exact rfl; exact rfl; all_goals (intros; try (exfalso; omega))) | (apply Wl.splitB; exact rfl; exact rfl; all_goals intros) | (apply St.condP; exact rfl; all_goals (intros; try (exfalso; omega))) | (apply St.condB; exact rfl; all_goals intros))
  apply Mt.back
  refine Mt.eff1 (i := 5) (by decide +kernel) (by exact rfl) ?_
  repeat' (first | (apply Wl.callQ (f := 55); exact rfl; (repeat (first | exact Evs.nil | apply Evs.cons rfl)); (intro wq hq; refine (hz wq).mono ?_; rintro e wr ⟨rfl, hr⟩; exact ⟨rfl, hq.keep hr⟩)) | (apply Wl.on; exact rfl; exact rfl; (first | with_reducible rfl | with_reducible assumption | decide)) | (apply Wl.nil) | (apply Wl.splitP; exact rfl; exact rfl; all_goals (intros; try (exfalso; omega))) | (apply Wl.splitB; exact rfl; exact rfl; all_goals intros) | (apply St.condP; exact rfl; all_goals (intros; try (exfalso; omega))) | (apply St.condB; exact rfl; all_goals intros))
  refine Mt.backE (fun u h => hpPop (hpSw h) hcr) ?_
  refine Mt.pure 6 (by decide +kernel) (by exact rfl) (by exact rfl) (by decide +kernel) (by decide +kernel) ?_
  repeat' (first | (apply Wl.on; exact rfl; exact rfl; (first | with_reducible rfl | with_reducible assumption | decide)) | (apply Wl.not; exact rfl; exact rfl) | (apply Wl.nilM) | (apply Wl.splitP; exact rfl; exact rfl; all_goals (intros; try (exfalso; omega))) | (apply Wl.splitB; exact rfl; exact rfl; all_goals intros) | (apply St.condP; exact rfl; all_goals (intros; try (exfalso; omega))) | (apply St.condB; exact rfl; all_goals intros))
  apply Mt.back
  refine Mt.pure 7 (by decide +kernel) (by exact rfl) (by exact rfl) (by decide +kernel) (by decide +kernel) ?_
  repeat' (first | (apply Wl.pickT; exact rfl; exact rfl; (first | with_reducible rfl | with_reducible assumption | decide); exact rfl) | (apply Wl.nilM) | (apply Wl.splitP; exact rfl; exact rfl; all_goals (intros; try (exfalso; omega))) | (apply Wl.splitB; exact rfl; exact rfl; all_goals intros) | (apply St.condP; exact rfl; all_goals (intros; try (exfalso; omega))) | (apply St.condB; exact rfl; all_goals intros))
  apply Mt.back
  refine Mt.pure 8 (by decide +kernel) (by exact rfl) (by exact rfl) (by decide +kernel) (by decide +kernel) ?_
  repeat' (first | (apply Wl.move; exact rfl; exact rfl) | (apply Wl.nilM) | (apply Wl.splitP; exact rfl; exact rfl; all_goals (intros; try (exfalso; omega))) | (apply Wl.splitB; exact rfl; exact rfl; all_goals intros) | (apply St.condP; exact rfl; all_goals (intros; try (exfalso; omega))) | (apply St.condB; exact rfl; all_goals intros))
  apply Mt.back
  refine Mt.pure 9 (by decide +kernel) (by exact rfl) (by exact rfl) (by decide +kernel) (by decide +kernel) ?_
  repeat' (first | (apply Wl.loadW; exact rfl; exact rfl; (repeat (first | exact List.Mem.head _ | apply List.Mem.tail)); exact rfl) | (apply Wl.on; exact rfl; exact rfl; (first | with_reducible rfl | with_reducible assumption | decide)) | (apply Wl.nilM) | (apply Wl.splitP; exact rfl; exact rfl; all_goals (intros; try (exfalso; omega))) | (apply Wl.splitB; exact rfl; exact rfl; all_goals intros) | (apply St.condP; exact rfl; all_goals (intros; try (exfalso; omega))) | (apply St.condB; exact rfl; all_goals intros))
  apply Mt.back
  refine Mt.eff1 (i := 10) (by decide +kernel) (by exact rfl) ?_
  repeat' (first | (apply Wl.callQ (f := 22); exact rfl; (repeat (first | exact Evs.nil | apply Evs.cons rfl)); (intro wq hq; refine (curOrder wq).mono ?_; rintro e wr ⟨rfl, hr⟩; exact ⟨rfl, hq.keep hr⟩)) | (apply Wl.on; exact rfl; exact rfl; (first | with_reducible rfl | with_reducible assumption | decide)) | (apply Wl.nil) | (apply Wl.splitP; exact rfl; exact rfl; all_goals (intros; try (exfalso; omega))) | (apply Wl.splitB; exact rfl; exact rfl; all_goals intros) | (apply St.condP; exact rfl; all_goals (intros; try (exfalso; omega))) | (apply St.condB; exact rfl; all_goals intros))
  refine Mt.backE (fun u h => hpPop (hpSw h) hcr) ?_
  refine Mt.eff1 (i := 11) (by decide +kernel) (by exact rfl) ?_
  repeat' (first | (apply Wl.callQ (f := 56); exact rfl; (repeat (first | exact Evs.nil | apply Evs.cons rfl)); (intro wq hq; refine (gCmp hW nW hCmp wq).mono ?_; rintro e wr ⟨rfl, hr⟩; exact ⟨rfl, hq.keep hr⟩)) | (apply Wl.on; exact rfl; exact rfl; (first | with_reducible rfl | with_reducible assumption | decide)) | (apply Wl.nil) | (apply Wl.splitP; exact rfl; exact rfl; all_goals (intros; try (exfalso; omega))) | (apply Wl.splitB; exact rfl; exact rfl; all_goals intros) | (apply St.condP; exact rfl; all_goals (intros; try (exfalso; omega))) | (apply St.condB; exact rfl; all_goals intros))
  refine Mt.backE (fun u h => hpPop (hpSw h) hcr) ?_
  refine Mt.pure 12 (by decide +kernel) (by exact rfl) (by exact rfl) (by decide +kernel) (by decide +kernel) ?_
  repeat' (first | (apply Wl.on; exact rfl; exact rfl; (first | with_reducible rfl | with_reducible assumption | decide)) | (apply Wl.lss; exact rfl; exact rfl; exact rfl) | (apply Wl.nilM) | (apply Wl.splitP; exact rfl; exact rfl; all_goals (intros; try (exfalso; omega))) | (apply Wl.splitB; exact rfl; exact rfl; all_goals intros) | (apply St.condP; exact rfl; all_goals (intros; try (exfalso; omega))) | (apply St.condB; exact rfl; all_goals intros))
  apply Mt.back
  refine Mt.pure 13 (by decide +kernel) (by exact rfl) (by exact rfl) (by decide +kernel) (by decide +kernel) ?_
  repeat' (first | (apply Wl.pickT; exact rfl; exact rfl; (first | with_reducible rfl | with_reducible assumption | decide); exact rfl) | (apply Wl.nilM) | (apply Wl.splitP; exact rfl; exact rfl; all_goals (intros; try (exfalso; omega))) | (apply Wl.splitB; exact rfl; exact rfl; all_goals intros) | (apply St.condP; exact rfl; all_goals (intros; try (exfalso; omega))) | (apply St.condB; exact rfl; all_goals intros))
  apply Mt.back
  refine Mt.eff1 (i := 14) (by decide +kernel) (by exact rfl) ?_
  repeat' (first | (apply Wl.storeW; exact rfl; exact rfl; (repeat (first | apply HSet.here | apply HSet.there)); exact rfl; (first | exact cellsN_len _ _ _ | exact rfl)) | (apply Wl.nil) | (apply Wl.splitP; exact rfl; exact rfl; all_goals (intros; try (exfalso; omega))) | (apply Wl.splitB; exact rfl; exact rfl; all_goals intros) | (apply St.condP; exact rfl; all_goals (intros; try (exfalso; omega))) | (apply St.condB; exact rfl; all_goals intros))
  refine Mt.backE (fun u h => hpPop (hpSw h) hcr) ?_
  refine Mt.pure 15 (by decide +kernel) (by exact rfl) (by exact rfl) (by decide +kernel) (by decide +kernel) ?_
  repeat' (first | (apply Wl.assign; exact rfl; exact rfl) | (apply Wl.nilM) | (apply Wl.splitP; exact rfl; exact rfl; all_goals (intros; try (exfalso; omega))) | (apply Wl.splitB; exact rfl; exact rfl; all_goals intros) | (apply St.condP; exact rfl; all_goals (intros; try (exfalso; omega))) | (apply St.condB; exact rfl; all_goals intros))
  apply Mt.back
  refine Mt.toGt (by decide +kernel) ?_
  repeat' (first | (apply St.ret) | (apply Gt.next) | (apply Wl.splitP; exact rfl; exact rfl; all_goals (intros; try (exfalso; omega))) | (apply Wl.splitB; exact rfl; exact rfl; all_goals intros) | (apply St.condP; exact rfl; all_goals (intros; try (exfalso; omega))) | (apply St.condB; exact rfl; all_goals intros))
  apply Gt.outCT
  · exact rfl
  · infer_instance
  · exact rfl
  · exact rfl
  · (repeat (first | exact List.Mem.head _ | apply List.Mem.tail))
  · exact LSub.whole (cellsN_len _ _ _)
  intro w' hp
  exact ⟨rfl, hp.drop (by simp; omega)⟩
end Go.Proofs.YtfaobdakpbpkbaaDoor
end
section
/-
  seal.start, seal.draws.next (the first number will do). Conditions: the table of SHA-256 is laid.
-/
namespace Go.Pt
open Go.RowKit
theorem Pts.ofBlk {w : World} {c t : Nat} {fr : Nat × Nat} {vs : List Value} {ls : List (List UInt8)} (h : w.heap[c]? = some (.cells vs.toArray t fr)) (hl : vs.length = ls.length) (hm : vs.length ≤ maxLen) (hb : ∀ (i : Nat) (x : Value) (l : List UInt8), vs[i]? = some x → ls[i]? = some l → Bs w x l) :
    Pts w (.slice (some ⟨c, 0, none⟩) vs.length vs.length) ls :=
  ⟨vs, hl, ⟨by omega, some ⟨c, 0, none⟩, vs.length, rfl, Nat.le_refl _, hm, fun h => (by cases h), fun _ => ⟨c, 0, rfl, fun i hi => by rw [Nat.zero_add, cellAt h]; simp [hi]⟩⟩, hb⟩
theorem Pts.one {w : World} {c t : Nat} {fr : Nat × Nat} {x : Value} {l : List UInt8} (h : w.heap[c]? = some (.cells #[x] t fr)) (hb : Bs w x l) : Pts w (.slice (some ⟨c, 0, none⟩) 1 1) [l] :=
  Pts.ofBlk (vs := [x]) h rfl (by show 1 ≤ maxLen; decide) fun i y m hy hm => by
    cases i with
    | zero => cases hy; cases hm; exact hb
    | succ i => cases hy
theorem Pts.four {w : World} {c t : Nat} {fr : Nat × Nat} {x1 x2 x3 x4 : Value} {l1 l2 l3 l4 : List UInt8} (h : w.heap[c]? = some (.cells #[x1, x2, x3, x4] t fr)) (h1 : Bs w x1 l1) (h2 : Bs w x2 l2) (h3 : Bs w x3 l3) (h4 : Bs w x4 l4) : Pts w (.slice (some ⟨c, 0, none⟩) 4 4) [l1, l2, l3, l4] :=
  Pts.ofBlk (vs := [x1, x2, x3, x4]) h rfl (by show 4 ≤ maxLen; decide) fun i y m hy hm => by
    match i with
    | 0 => cases hy; cases hm; exact h1
    | 1 => cases hy; cases hm; exact h2
    | 2 => cases hy; cases hm; exact h3
    | 3 => cases hy; cases hm; exact h4
    | i + 4 => cases hy
theorem bsKV {w : World} {d t : Nat} {fr : Nat × Nat} {K V : List UInt8} (h : w.heap[d]? = some (.cells (byteCells K ++ byteCells V).toArray t fr)) (hK : K.length = 32) (hV : V.length = 32) :
    Bs w (.slice (some ⟨d, 0, none⟩) 32 32) K ∧ Bs w (.slice (some ⟨d, 32, none⟩) 32 32) V := by
  have hl : (K ++ V).length = 64 := by rw [List.length_append, hK, hV]
  have hb := Bs.ofBlk (l := K ++ V) (by rw [show byteCells (K ++ V) = byteCells K ++ byteCells V by unfold byteCells; rw [List.map_append]]; exact h) (by rw [hl]; decide)
  rw [hl] at hb
  refine ⟨?_, ?_⟩
  · have := hb.sub (lo := 0) (hi := 32) (mx := 32) (by omega) (by omega) (by omega) (by omega)
    rw [List.take_append_of_le_length (by omega), List.take_of_length_le (by omega)] at this
    simpa [Addr.add] using this
  · have := hb.sub (lo := 32) (hi := 64) (mx := 64) (by omega) (by omega) (by omega) (by omega)
    rw [List.take_of_length_le (by omega), show (32 : Nat) = K.length from hK.symm, List.drop_left, hK] at this
    simpa [Addr.add] using this
def oneF (i j : Nat) : Nat := if 32 ≤ j then (if j < 32 + i then 1 else 0) else 0
theorem oneF_succ (i : Nat) (hi : i < 32) : cellsN .u8 64 (updN (oneF i) (32 + i) 1) = cellsN .u8 64 (oneF (i + 1)) := cellsN_congr fun j _ => by
  unfold updN oneF
  by_cases h2 : j = 32 + i
  · subst h2; rw [if_pos rfl, if_pos (by omega), if_pos (by omega)]
  · rw [if_neg h2]
    split
    · by_cases h4 : j < 32 + i
      · rw [if_pos h4, if_pos (by omega)]
      · rw [if_neg h4, if_neg (by omega)]
    · rfl
end Go.Pt
namespace Go.Proofs.YtfaobdakpbpkbaaDoor
open Go.RowKit Go.Pt
attribute [local irreducible] Prim.P256 Prim.N256
section
variable {P : Program} {N : Nat} {ops : Array Oper} {rest : List Oper} {Γ : Env} {Q : Exit → Act → World → Prop} {ty : TypeId} {pos : String} {af : Array Edge} {t : TypeId} {x y : Operand}
theorem Wl.storeK {w0 : World} {H H' : List Blk} {bt : TypeId} [ht : TyA P t 32] {c : Nat} {K V K' : List UInt8} (hx : ev Γ x = some (.pointer (some ⟨c, 0, none⟩))) (hy : ev Γ y = some (.agg (byteCells K').toArray)) (hs : HSet c (byteCells K ++ byteCells V) (byteCells K' ++ byteCells V) bt H H') (hl : K.length = 32) (hl' : K'.length = 32)
    (h : Wl rest P .seq ops N Γ (Hp w0 H') Q) : Wl (⟨none, .store t x y, ty, pos, af, none⟩ :: rest) P .seq ops N Γ (Hp w0 H) Q :=
  Wl.storeA hx hy (by rw [byteCells_length, hl']) (byteCells_all _) hs (LPut.app (p := []) rfl (by rw [byteCells_length, byteCells_length, hl, hl'])) h
theorem Wl.storeKV {w0 : World} {H H' : List Blk} {bt : TypeId} [ht : TyA P t 32] {c : Nat} {K V V' : List UInt8} (hx : ev Γ x = some (.pointer (some ⟨c, 32, none⟩))) (hy : ev Γ y = some (.agg (byteCells V').toArray)) (hs : HSet c (byteCells K ++ byteCells V) (byteCells K ++ byteCells V') bt H H') (hl : K.length = 32) (hl2 : V.length = 32) (hl' : V'.length = 32)
    (h : Wl rest P .seq ops N Γ (Hp w0 H') Q) : Wl (⟨none, .store t x y, ty, pos, af, none⟩ :: rest) P .seq ops N Γ (Hp w0 H) Q :=
  Wl.storeA hx hy (by rw [byteCells_length, hl']) (byteCells_all _) hs (by
    have := LPut.app (p := byteCells K) (l := byteCells V) (xs := byteCells V') (r := []) (n := 32) (by rw [byteCells_length, hl]) (by rw [byteCells_length, byteCells_length, hl2, hl'])
    simpa using this) h
end
theorem macB_len (k t : List UInt8) : (macB k t).length = 32 := shaL_len _
theorem sealMacB (kv pv : Value) (k : List UInt8) (ls : List (List UInt8)) (w : World) (hK : ArrAt w 0 0 .u32 64 Sha.K) (hk : Bs w kv k) (hkn : k.length < 400000000000000) (hp : Pts w pv ls) (hln : ls.flatten.length < 100000000) :
    Calls Tryd.prog 14 #[kv, pv] w fun e w' => e = .returned (.agg (byteCells (macB k ls.flatten)).toArray) ∧ Hp w [] w' := by
  have := sealMac kv pv k ls w hK hk hkn hp hln
  rw [show cellsN .u8 32 (mac k ls.flatten) = byteCells (macB k ls.flatten) from (shaL_bytes _).symm] at this
  exact this
abbrev drB (d : Nat) (K V : List UInt8) : Blk := ⟨d, byteCells K ++ byteCells V, 134⟩
set_option maxHeartbeats 8000000 in
theorem drNext (d : Nat) (K V : List UInt8) (w : World) (hT : ArrAt w 0 0 .u32 64 Sha.K) (hD : w.heap[d]? = some (.cells (byteCells K ++ byteCells V).toArray 134 (0, 0))) (hKl : K.length = 32) (hVl : V.length = 32) (hd0 : d ≠ 0) (hok : okS (rdL (macB K V)) = true) :
    Calls Tryd.prog 84 #[mp d] w fun e w' => e = .returned (numV (rdL (macB K V))) ∧ Hp w [drB d K (macB K V)] w' := by
  have hdl : d < w.heap.size := (Array.getElem?_eq_some_iff.1 hD).1
  have hM : (macB K V).length = 32 := macB_len _ _
  refine enter (args := [_]) (Γ := [(0, _)]) Tryd.func84 Tryd.ntmps84 rfl (of_decide_eq_true rfl) (.cons rfl .nil) ?_
  refine St.cls (C' := Hp w [drB d K V]) (fun _ h' => Hp.open h' hD) ?_
  repeat' (first | (apply Wl.allocN; exact rfl; (first | exact z8 | exact z16 | exact z17 | exact z33 | exact z10); intro c hc ho) | (apply Wl.nil) | (apply St.seq) | (apply St.block) | (apply St.region) | (apply Gt.next) | (apply Wl.splitP; exact rfl; exact rfl; all_goals (intros; try (exfalso; omega))) | (apply Wl.splitB; exact rfl; exact rfl; all_goals intros) | (apply St.condP; exact rfl; all_goals (intros; try (exfalso; omega))) | (apply St.condB; exact rfl; all_goals intros))
  have hne : d ≠ c := by omega
  generalize c = cr at *
  refine St.loop (σ := Nat) (fun _ => True) (fun _ => [(0, mp d), (2, mp cr)]) (fun _ => Hp w [⟨cr, cellsN .u32 8 fun _ => 0, 30⟩, drB d K V]) (fun _ => 0) 0 trivial (by (repeat (first | exact Sub.nil | apply Sub.cons rfl))) (fun _ h => h) ?_
  intro _ _
  repeat' (first | (apply St.seq) | (apply St.block) | (apply Wl.splitP; exact rfl; exact rfl; all_goals (intros; try (exfalso; omega))) | (apply Wl.splitB; exact rfl; exact rfl; all_goals intros) | (apply St.condP; exact rfl; all_goals (intros; try (exfalso; omega))) | (apply St.condB; exact rfl; all_goals intros))
  refine St.tree (fun _ => True) mixed (fun _ h => ⟨Hp.drew h, trivial⟩) ?_
  have hcr : w.heap.size ≤ cr := by assumption
  refine Mt.pure 0 (by decide +kernel) (by exact rfl) (by exact rfl) (by decide +kernel) (by decide +kernel) ?_
  repeat' (first | (apply Wl.move; exact rfl; exact rfl) | (apply Wl.nilM) | (apply Wl.splitP; exact rfl; exact rfl; all_goals (intros; try (exfalso; omega))) | (apply Wl.splitB; exact rfl; exact rfl; all_goals intros) | (apply St.condP; exact rfl; all_goals (intros; try (exfalso; omega))) | (apply St.condB; exact rfl; all_goals intros))
  apply Mt.back
  refine Mt.pure 1 (by decide +kernel) (by exact rfl) (by exact rfl) (by decide +kernel) (by decide +kernel) ?_
  repeat' (first | (apply Wl.move; exact rfl; exact rfl) | (apply Wl.nilM) | (apply Wl.splitP; exact rfl; exact rfl; all_goals (intros; try (exfalso; omega))) | (apply Wl.splitB; exact rfl; exact rfl; all_goals intros) | (apply St.condP; exact rfl; all_goals (intros; try (exfalso; omega))) | (apply St.condB; exact rfl; all_goals intros))
  apply Mt.back
  refine Mt.pure 2 (by decide +kernel) (by exact rfl) (by exact rfl) (by decide +kernel) (by decide +kernel) ?_
  repeat' (first | (apply Wl.nilCheck; exact rfl; exact rfl) | (apply Wl.nilM) | (apply Wl.splitP; exact rfl; exact rfl; all_goals (intros; try (exfalso; omega))) | (apply Wl.splitB; exact rfl; exact rfl; all_goals intros) | (apply St.condP; exact rfl; all_goals (intros; try (exfalso; omega))) | (apply St.condB; exact rfl; all_goals intros))
  apply Mt.back
  refine Mt.pure 3 (by decide +kernel) (by exact rfl) (by exact rfl) (by decide +kernel) (by decide +kernel) ?_
  repeat' (first | (apply Wl.fieldAddr0; exact rfl; exact rfl) | (apply Wl.nilM) | (apply Wl.splitP; exact rfl; exact rfl; all_goals (intros; try (exfalso; omega))) | (apply Wl.splitB; exact rfl; exact rfl; all_goals intros) | (apply St.condP; exact rfl; all_goals (intros; try (exfalso; omega))) | (apply St.condB; exact rfl; all_goals intros))
  apply Mt.back
  refine Mt.pure 4 (by decide +kernel) (by exact rfl) (by exact rfl) (by decide +kernel) (by decide +kernel) ?_
  repeat' (first | (apply Wl.sliceAll; exact rfl; exact rfl; (decide); exact rfl) | (apply Wl.nilM) | (apply Wl.splitP; exact rfl; exact rfl; all_goals (intros; try (exfalso; omega))) | (apply Wl.splitB; exact rfl; exact rfl; all_goals intros) | (apply St.condP; exact rfl; all_goals (intros; try (exfalso; omega))) | (apply St.condB; exact rfl; all_goals intros))
  apply Mt.back
  refine Mt.pure 5 (by decide +kernel) (by exact rfl) (by exact rfl) (by decide +kernel) (by decide +kernel) ?_
  repeat' (first | (apply Wl.move; exact rfl; exact rfl) | (apply Wl.nilM) | (apply Wl.splitP; exact rfl; exact rfl; all_goals (intros; try (exfalso; omega))) | (apply Wl.splitB; exact rfl; exact rfl; all_goals intros) | (apply St.condP; exact rfl; all_goals (intros; try (exfalso; omega))) | (apply St.condB; exact rfl; all_goals intros))
  apply Mt.back
  refine Mt.pure 6 (by decide +kernel) (by exact rfl) (by exact rfl) (by decide +kernel) (by decide +kernel) ?_
  repeat' (first | (apply Wl.nilCheck; exact rfl; exact rfl) | (apply Wl.nilM) | (apply Wl.splitP; exact rfl; exact rfl; all_goals (intros; try (exfalso; omega))) | (apply Wl.splitB; exact rfl; exact rfl; all_goals intros) | (apply St.condP; exact rfl; all_goals (intros; try (exfalso; omega))) | (apply St.condB; exact rfl; all_goals intros))
  apply Mt.back
  refine Mt.pure 7 (by decide +kernel) (by exact rfl) (by exact rfl) (by decide +kernel) (by decide +kernel) ?_
  repeat' (first | (apply Wl.fieldAddrZ; exact rfl; exact rfl) | (apply Wl.nilM) | (apply Wl.splitP; exact rfl; exact rfl; all_goals (intros; try (exfalso; omega))) | (apply Wl.splitB; exact rfl; exact rfl; all_goals intros) | (apply St.condP; exact rfl; all_goals (intros; try (exfalso; omega))) | (apply St.condB; exact rfl; all_goals intros))
  apply Mt.back
  refine Mt.pure 8 (by decide +kernel) (by exact rfl) (by exact rfl) (by decide +kernel) (by decide +kernel) ?_
  repeat' (first | (apply Wl.sliceAll; exact rfl; exact rfl; (decide); exact rfl) | (apply Wl.nilM) | (apply Wl.splitP; exact rfl; exact rfl; all_goals (intros; try (exfalso; omega))) | (apply Wl.splitB; exact rfl; exact rfl; all_goals intros) | (apply St.condP; exact rfl; all_goals (intros; try (exfalso; omega))) | (apply St.condB; exact rfl; all_goals intros))
  apply Mt.back
  refine Mt.eff1 (i := 9) (by decide +kernel) (by exact rfl) ?_
  repeat' (first | (apply Wl.lit; exact rfl; (repeat (first | exact Parts.nil | apply Parts.cons rfl)); exact rfl; exact rfl; (repeat (first | apply CatP.nil | (apply CatP.one; exact rfl; exact rfl) | (apply CatP.agg; exact rfl) | apply LApp.nil | apply LApp.cons)); intro c hc ho) | (apply Wl.nil) | (apply Wl.splitP; exact rfl; exact rfl; all_goals (intros; try (exfalso; omega))) | (apply Wl.splitB; exact rfl; exact rfl; all_goals intros) | (apply St.condP; exact rfl; all_goals (intros; try (exfalso; omega))) | (apply St.condB; exact rfl; all_goals intros))
  generalize c = cl at *
  have hcl : w.heap.size ≤ cl := by assumption
  refine Mt.backE (fun _ _ => trivial) ?_
  refine Mt.eff1 (i := 10) (by decide +kernel) (by exact rfl) ?_
  apply Wl.callQ
  · exact rfl
  · (repeat (first | exact Evs.nil | apply Evs.cons rfl))
  · intro wq hq
    have hDq := bsKV (hq.own.at (x := drB d K V) (.tail _ (.tail _ (.head _)))) hKl hVl
    refine (sealMacB _ _ K [V] wq (hT.hp hq (by (repeat (first | exact trivial | exact hX.off (by omega) | refine ⟨by first | assumption | omega | (simp only; omega), ?_⟩)))) hDq.1 (by omega) (Pts.one (hq.own.at (.head _)) hDq.2) (by simp; omega)).mono ?_
    rintro e wr ⟨rfl, hr⟩
    exact ⟨rfl, hq.keep hr⟩
  rw [show [V].flatten = V by simp]
  repeat' (first | (apply Wl.nil) | (apply Wl.splitP; exact rfl; exact rfl; all_goals (intros; try (exfalso; omega))) | (apply Wl.splitB; exact rfl; exact rfl; all_goals intros) | (apply St.condP; exact rfl; all_goals (intros; try (exfalso; omega))) | (apply St.condB; exact rfl; all_goals intros))
  refine Mt.backE (fun _ _ => trivial) ?_
  refine Mt.pure 11 (by decide +kernel) (by exact rfl) (by exact rfl) (by decide +kernel) (by decide +kernel) ?_
  repeat' (first | (apply Wl.nilCheck; exact rfl; exact rfl) | (apply Wl.nilM) | (apply Wl.splitP; exact rfl; exact rfl; all_goals (intros; try (exfalso; omega))) | (apply Wl.splitB; exact rfl; exact rfl; all_goals intros) | (apply St.condP; exact rfl; all_goals (intros; try (exfalso; omega))) | (apply St.condB; exact rfl; all_goals intros))
  apply Mt.back
  refine Mt.pure 12 (by decide +kernel) (by exact rfl) (by exact rfl) (by decide +kernel) (by decide +kernel) ?_
  repeat' (first | (apply Wl.fieldAddrZ; exact rfl; exact rfl) | (apply Wl.nilM) | (apply Wl.splitP; exact rfl; exact rfl; all_goals (intros; try (exfalso; omega))) | (apply Wl.splitB; exact rfl; exact rfl; all_goals intros) | (apply St.condP; exact rfl; all_goals (intros; try (exfalso; omega))) | (apply St.condB; exact rfl; all_goals intros))
  apply Mt.back
  refine Mt.eff1 (i := 13) (by decide +kernel) (by exact rfl) ?_
  repeat' (first | (apply Wl.storeKV; exact rfl; exact rfl; (repeat (first | apply HSet.here | apply HSet.there)); (assumption); (assumption); (assumption)) | (apply Wl.nil) | (apply Wl.splitP; exact rfl; exact rfl; all_goals (intros; try (exfalso; omega))) | (apply Wl.splitB; exact rfl; exact rfl; all_goals intros) | (apply St.condP; exact rfl; all_goals (intros; try (exfalso; omega))) | (apply St.condB; exact rfl; all_goals intros))
  refine Mt.backE (fun _ _ => trivial) ?_
  refine Mt.toGt (by decide +kernel) ?_
  repeat' (first | (apply Wl.sliceAll; exact rfl; exact rfl; (decide); exact rfl) | (apply Wl.move; exact rfl; exact rfl) | (apply Wl.nilCheck; exact rfl; exact rfl) | (apply Wl.fieldAddrZ; exact rfl; exact rfl) | (apply St.seq) | (apply St.region) | (apply Gt.next) | (apply Wl.splitP; exact rfl; exact rfl; all_goals (intros; try (exfalso; omega))) | (apply Wl.splitB; exact rfl; exact rfl; all_goals intros) | (apply St.condP; exact rfl; all_goals (intros; try (exfalso; omega))) | (apply St.condB; exact rfl; all_goals intros))
  apply Wl.callQ
  · exact rfl
  · (repeat (first | exact Evs.nil | apply Evs.cons rfl))
  · intro wq hq
    have hDq := bsKV (hq.own.at (x := drB d K (macB K V)) (.tail _ (.tail _ (.head _)))) hKl hM
    refine (sealSecret _ (macB K V) wq hDq.2 hM hok).mono ?_
    rintro e wr ⟨rfl, hr⟩
    exact ⟨rfl, hq.keep hr⟩
  repeat' (first | (apply Gt.outN; exact rfl; infer_instance; exact rfl; (repeat (first | exact List.Mem.head _ | apply List.Mem.tail)); exact rfl; intro w' hp) | (apply Wl.loadW; exact rfl; exact rfl; (repeat (first | exact List.Mem.head _ | apply List.Mem.tail)); exact rfl) | (apply Wl.storeW; exact rfl; exact rfl; (repeat (first | apply HSet.here | apply HSet.there)); exact rfl; (first | exact cellsN_len _ _ _ | exact rfl)) | (apply Wl.allocN; exact rfl; (first | exact z8 | exact z16 | exact z17 | exact z33 | exact z10); intro c hc ho) | (apply Wl.move; exact rfl; exact rfl) | (apply Wl.assign; exact rfl; exact rfl) | (apply Wl.extract; exact rfl; exact rfl; exact rfl) | (apply Wl.nil) | (apply St.seq) | (apply St.region) | (apply St.condT; exact rfl; (first | with_reducible rfl | with_reducible assumption | decide)) | (apply St.ret) | (apply Gt.next) | (apply Gt.thenRet) | (apply Gt.inRet) | (apply Wl.splitP; exact rfl; exact rfl; all_goals (intros; try (exfalso; omega))) | (apply Wl.splitB; exact rfl; exact rfl; all_goals intros) | (apply St.condP; exact rfl; all_goals (intros; try (exfalso; omega))) | (apply St.condB; exact rfl; all_goals intros))
  exact ⟨rfl, hpPop (hpPop (hpPop hp hc) hcl) hcr⟩
def Z32 : List UInt8 := List.replicate 32 0
def O32 : List UInt8 := List.replicate 32 1
/-- key and value behind i rounds -/
def stp (x h : Nat) : Nat → List UInt8 × List UInt8
  | 0 => (Z32, O32)
  | i + 1 => (macB (stp x h i).1 ((stp x h i).2 ++ ([UInt8.ofNat i] ++ (bL x ++ bL h))), macB (macB (stp x h i).1 ((stp x h i).2 ++ ([UInt8.ofNat i] ++ (bL x ++ bL h)))) (stp x h i).2)
theorem stp_len (x h : Nat) : ∀ i, (stp x h i).1.length = 32 ∧ (stp x h i).2.length = 32
  | 0 => ⟨rfl, rfl⟩
  | i + 1 => ⟨macB_len _ _, macB_len _ _⟩
theorem bsLen {w : World} {c t n : Nat} {fr : Nat × Nat} (h : w.heap[c]? = some (.cells (cellsN .u8 32 (bA n)).toArray t fr)) : Bs w (.slice (some ⟨c, 0, none⟩) 32 32) (bL n) := by
  have := Bs.ofBlk (l := bL n) (by rw [bL_bytes]; exact h) (by rw [bL_len]; decide)
  rw [bL_len] at this
  exact this
theorem zDr : ([.int .u8 0, .int .u8 0, .int .u8 0, .int .u8 0, .int .u8 0, .int .u8 0, .int .u8 0, .int .u8 0, .int .u8 0, .int .u8 0, .int .u8 0, .int .u8 0, .int .u8 0, .int .u8 0, .int .u8 0, .int .u8 0, .int .u8 0, .int .u8 0, .int .u8 0, .int .u8 0, .int .u8 0, .int .u8 0, .int .u8 0, .int .u8 0, .int .u8 0, .int .u8 0, .int .u8 0, .int .u8 0, .int .u8 0, .int .u8 0, .int .u8 0, .int .u8 0, .int .u8 0, .int .u8 0, .int .u8 0, .int .u8 0, .int .u8 0, .int .u8 0, .int .u8 0, .int .u8 0, .int .u8 0, .int .u8 0, .int .u8 0, .int .u8 0, .int .u8 0, .int .u8 0, .int .u8 0, .int .u8 0, .int .u8 0, .int .u8 0, .int .u8 0, .int .u8 0, .int .u8 0, .int .u8 0, .int .u8 0, .int .u8 0, .int .u8 0, .int .u8 0, .int .u8 0, .int .u8 0, .int .u8 0, .int .u8 0, .int .u8 0, .int .u8 0] : List Value) = cellsN .u8 64 (oneF 0) := by kernel_rfl
section
variable {md : Md} {N : Nat} {ops : Array Oper} {rest : List Oper} {Γ : Env} {C : World → Prop} {Q : Exit → Act → World → Prop} {d : Nat} {ty : TypeId} {pos : String} {af : Array Edge} {parts : Array (Nat × Operand)}
theorem Wl.buildDr (hd : Nat.blt d N = true) (hp : Parts Γ parts.toList []) (h : Wl rest Tryd.prog md ops N ((d, .agg (cellsN .u8 64 (oneF 0)).toArray) :: Γ) C Q) :
    Wl (⟨some d, .build 134 parts, ty, pos, af, none⟩ :: rest) Tryd.prog md ops N Γ C Q := by
  refine Wl.build hd hp (fun _ => run_build_struct ?_) h
  rw [← zDr]
  exact .nil
theorem Wl.addB {P : Program} {t u : TypeId} {x y : Operand} {m n : Nat} (hd : Nat.blt d N = true) (hx : ev Γ x = some (.int .u8 (m : Int))) (hy : ev Γ y = some (.int .u8 (n : Int))) (hb : m + n < 256) (h : Wl rest P md ops N ((d, .int .u8 ((m + n : Nat) : Int)) :: Γ) C Q) : Wl (⟨some d, .binOp .add t x y u, ty, pos, af, none⟩ :: rest) P md ops N Γ C Q :=
  Wl.add hd hx hy (by rw [IntWalk.u8_in _ ⟨by omega, by omega⟩, ← Int.natCast_add]; exact h)
end
theorem o64 : cellsN .u8 64 (oneF 32) = byteCells Z32 ++ byteCells O32 := by kernel_rfl
set_option maxHeartbeats 16000000 in
theorem drStart (x h : Nat) (w : World) (hT : ArrAt w 0 0 .u32 64 Sha.K) : Calls Tryd.prog 82 #[.agg (cellsN .u8 32 (bA x)).toArray, .agg (cellsN .u8 32 (bA h)).toArray] w fun e w' => ∃ d, e = .returned (mp d) ∧ w.heap.size ≤ d ∧ w'.heap[d]? = some (.cells (byteCells (stp x h 2).1 ++ byteCells (stp x h 2).2).toArray 134 (0, 0)) ∧ Hp w [] w' := by
  have h0T := hT.lt (by decide)
  refine enter (args := [_, _]) (Γ := [(0, _), (1, _)]) Tryd.func82 Tryd.ntmps82 rfl (of_decide_eq_true rfl) (.cons rfl (.cons rfl .nil)) ?_
  repeat' (first | (apply Wl.buildDr; exact rfl; (focus ((repeat (first | exact Parts.nil | apply Parts.cons rfl)); done))) | (apply Wl.boxN; exact rfl; exact rfl; intro c hc ho) | (apply Wl.move; exact rfl; exact rfl) | (apply Wl.assign; exact rfl; exact rfl) | (apply Wl.nil) | (apply St.seq) | (apply St.block) | (apply St.region) | (apply Gt.next) | (apply Wl.splitP; exact rfl; exact rfl; all_goals (intros; try (exfalso; omega))) | (apply Wl.splitB; exact rfl; exact rfl; all_goals intros) | (apply St.condP; exact rfl; all_goals (intros; try (exfalso; omega))) | (apply St.condB; exact rfl; all_goals intros))
  rename_i cx hcx hox ch hch hoh
  generalize c = d at *
  have hd : w.heap.size ≤ d := by assumption
  have hxd : cx ≠ d := ho.2.1
  have hhd : ch ≠ d := ho.1
  have hxh : cx ≠ ch := hoh.1
  refine St.loop (σ := Nat) (fun i => i ≤ 32) (fun i => [(2, mp cx), (3, mp ch), (5, mp d), (10, .int .i64 (i : Int))]) (fun i => Hp w [⟨d, cellsN .u8 64 (oneF i), 134⟩, ⟨ch, cellsN .u8 32 (bA h), 45⟩, ⟨cx, cellsN .u8 32 (bA x), 45⟩]) (fun i => 32 - i) 0 (by omega) (by (repeat (first | exact Sub.nil | apply Sub.cons rfl))) (fun _ h => h) ?_
  intro i hi
  by_cases hlt : i < 32
  · have hd2 : decide ((i : Int) < 32) = true := decide_eq_true (by omega)
    repeat' (first | (apply Wl.indexAt (32 + i); exact rfl; exact rfl; exact rfl; (constructor <;> omega); (omega)) | (apply Wl.storeN (v := 1); exact rfl; exact rfl; (repeat (first | apply HSet.here | apply HSet.there)); (omega)) | (apply Wl.move; exact rfl; exact rfl) | (apply Wl.assign; exact rfl; exact rfl) | (apply Wl.nilCheck; exact rfl; exact rfl) | (apply Wl.fieldAddrZ; exact rfl; exact rfl) | (apply Wl.lss; exact rfl; exact rfl; exact rfl) | (apply Wl.addI; exact rfl; exact rfl; exact rfl; (constructor <;> omega)) | (apply Wl.nil) | (apply St.seq) | (apply St.block) | (apply St.region) | (apply St.condT; exact rfl; (first | with_reducible rfl | with_reducible assumption | decide)) | (apply St.skip) | (apply Gt.next) | (apply Gt.inNormal) | (apply Wl.splitP; exact rfl; exact rfl; all_goals (intros; try (exfalso; omega))) | (apply Wl.splitB; exact rfl; exact rfl; all_goals intros) | (apply St.condP; exact rfl; all_goals (intros; try (exfalso; omega))) | (apply St.condB; exact rfl; all_goals intros))
    apply Gt.round (i + 1)
    rotate_left
    · omega
    · (repeat (first | exact Sub.nil | apply Sub.cons rfl))
    · exact fun _ h => by rw [← oneF_succ i hlt]; exact h
    · omega
  obtain rfl : i = 32 := by omega
  have hd2 : decide (((32 : Nat) : Int) < 32) = false := rfl
  rw [o64]
  repeat' (first | (apply Wl.move; exact rfl; exact rfl) | (apply Wl.lss; exact rfl; exact rfl; exact rfl) | (apply Wl.nil) | (apply St.seq) | (apply St.block) | (apply St.region) | (apply St.condF; exact rfl; (first | with_reducible rfl | with_reducible assumption | decide)) | (apply St.exit) | (apply Gt.next) | (apply Gt.thenExit) | (apply Gt.inExit) | (apply Wl.splitP; exact rfl; exact rfl; all_goals (intros; try (exfalso; omega))) | (apply Wl.splitB; exact rfl; exact rfl; all_goals intros) | (apply St.condP; exact rfl; all_goals (intros; try (exfalso; omega))) | (apply St.condB; exact rfl; all_goals intros))
  refine St.loop (σ := Nat) (fun i => i ≤ 2) (fun i => [(2, mp cx), (3, mp ch), (5, mp d), (19, .int .u8 (i : Int))]) (fun i => Hp w [drB d (stp x h i).1 (stp x h i).2, ⟨ch, cellsN .u8 32 (bA h), 45⟩, ⟨cx, cellsN .u8 32 (bA x), 45⟩]) (fun i => 2 - i) 0 (by omega) (by (repeat (first | exact Sub.nil | apply Sub.cons rfl))) (fun _ h => h) ?_
  intro i hi
  by_cases hlt : i < 2
  · have hd3 : decide ((i : Int) < 2) = true := decide_eq_true (by omega)
    obtain ⟨hKl, hVl⟩ := stp_len x h i
    have e1 : (stp x h (i + 1)).1 = macB (stp x h i).1 ((stp x h i).2 ++ ([UInt8.ofNat i] ++ (bL x ++ bL h))) := rfl
    have e2 : (stp x h (i + 1)).2 = macB (stp x h (i + 1)).1 (stp x h i).2 := rfl
    obtain ⟨hKl', _⟩ := stp_len x h (i + 1)
    generalize hK' : (stp x h (i + 1)).1 = K' at *
    generalize hV' : (stp x h (i + 1)).2 = V' at *
    generalize hKi : (stp x h i).1 = K at *
    generalize hVi : (stp x h i).2 = V at *
    have hVl' : V'.length = 32 := by rw [e2]; exact macB_len _ _
    repeat' (first | (apply Wl.move; exact rfl; exact rfl) | (apply Wl.assign; exact rfl; exact rfl) | (apply Wl.lss; exact rfl; exact rfl; exact rfl) | (apply Wl.nil) | (apply St.seq) | (apply St.block) | (apply St.region) | (apply St.condT; exact rfl; (first | with_reducible rfl | with_reducible assumption | decide)) | (apply St.skip) | (apply Gt.next) | (apply Wl.splitP; exact rfl; exact rfl; all_goals (intros; try (exfalso; omega))) | (apply Wl.splitB; exact rfl; exact rfl; all_goals intros) | (apply St.condP; exact rfl; all_goals (intros; try (exfalso; omega))) | (apply St.condB; exact rfl; all_goals intros))
    refine St.tree (fun _ => True) mixed (fun _ h => ⟨Hp.drew h, trivial⟩) ?_
    refine Mt.pure 0 (by decide +kernel) (by exact rfl) (by exact rfl) (by decide +kernel) (by decide +kernel) ?_
    repeat' (first | (apply Wl.move; exact rfl; exact rfl) | (apply Wl.nilM) | (apply Wl.splitP; exact rfl; exact rfl; all_goals (intros; try (exfalso; omega))) | (apply Wl.splitB; exact rfl; exact rfl; all_goals intros) | (apply St.condP; exact rfl; all_goals (intros; try (exfalso; omega))) | (apply St.condB; exact rfl; all_goals intros))
    apply Mt.back
    refine Mt.pure 1 (by decide +kernel) (by exact rfl) (by exact rfl) (by decide +kernel) (by decide +kernel) ?_
    repeat' (first | (apply Wl.move; exact rfl; exact rfl) | (apply Wl.nilM) | (apply Wl.splitP; exact rfl; exact rfl; all_goals (intros; try (exfalso; omega))) | (apply Wl.splitB; exact rfl; exact rfl; all_goals intros) | (apply St.condP; exact rfl; all_goals (intros; try (exfalso; omega))) | (apply St.condB; exact rfl; all_goals intros))
    apply Mt.back
    refine Mt.pure 2 (by decide +kernel) (by exact rfl) (by exact rfl) (by decide +kernel) (by decide +kernel) ?_
    repeat' (first | (apply Wl.nilCheck; exact rfl; exact rfl) | (apply Wl.nilM) | (apply Wl.splitP; exact rfl; exact rfl; all_goals (intros; try (exfalso; omega))) | (apply Wl.splitB; exact rfl; exact rfl; all_goals intros) | (apply St.condP; exact rfl; all_goals (intros; try (exfalso; omega))) | (apply St.condB; exact rfl; all_goals intros))
    apply Mt.back
    refine Mt.pure 3 (by decide +kernel) (by exact rfl) (by exact rfl) (by decide +kernel) (by decide +kernel) ?_
    repeat' (first | (apply Wl.fieldAddr0; exact rfl; exact rfl) | (apply Wl.nilM) | (apply Wl.splitP; exact rfl; exact rfl; all_goals (intros; try (exfalso; omega))) | (apply Wl.splitB; exact rfl; exact rfl; all_goals intros) | (apply St.condP; exact rfl; all_goals (intros; try (exfalso; omega))) | (apply St.condB; exact rfl; all_goals intros))
    apply Mt.back
    refine Mt.pure 4 (by decide +kernel) (by exact rfl) (by exact rfl) (by decide +kernel) (by decide +kernel) ?_
    repeat' (first | (apply Wl.sliceAll; exact rfl; exact rfl; (decide); exact rfl) | (apply Wl.nilM) | (apply Wl.splitP; exact rfl; exact rfl; all_goals (intros; try (exfalso; omega))) | (apply Wl.splitB; exact rfl; exact rfl; all_goals intros) | (apply St.condP; exact rfl; all_goals (intros; try (exfalso; omega))) | (apply St.condB; exact rfl; all_goals intros))
    apply Mt.back
    refine Mt.pure 5 (by decide +kernel) (by exact rfl) (by exact rfl) (by decide +kernel) (by decide +kernel) ?_
    repeat' (first | (apply Wl.move; exact rfl; exact rfl) | (apply Wl.nilM) | (apply Wl.splitP; exact rfl; exact rfl; all_goals (intros; try (exfalso; omega))) | (apply Wl.splitB; exact rfl; exact rfl; all_goals intros) | (apply St.condP; exact rfl; all_goals (intros; try (exfalso; omega))) | (apply St.condB; exact rfl; all_goals intros))
    apply Mt.back
    refine Mt.pure 6 (by decide +kernel) (by exact rfl) (by exact rfl) (by decide +kernel) (by decide +kernel) ?_
    repeat' (first | (apply Wl.nilCheck; exact rfl; exact rfl) | (apply Wl.nilM) | (apply Wl.splitP; exact rfl; exact rfl; all_goals (intros; try (exfalso; omega))) | (apply Wl.splitB; exact rfl; exact rfl; all_goals intros) | (apply St.condP; exact rfl; all_goals (intros; try (exfalso; omega))) | (apply St.condB; exact rfl; all_goals intros))
    apply Mt.back
    refine Mt.pure 7 (by decide +kernel) (by exact rfl) (by exact rfl) (by decide +kernel) (by decide +kernel) ?_
    repeat' (first | (apply Wl.fieldAddrZ; exact rfl; exact rfl) | (apply Wl.nilM) | (apply Wl.splitP; exact rfl; exact rfl; all_goals (intros; try (exfalso; omega))) | (apply Wl.splitB; exact rfl; exact rfl; all_goals intros) | (apply St.condP; exact rfl; all_goals (intros; try (exfalso; omega))) | (apply St.condB; exact rfl; all_goals intros))
    apply Mt.back
    refine Mt.pure 8 (by decide +kernel) (by exact rfl) (by exact rfl) (by decide +kernel) (by decide +kernel) ?_
    repeat' (first | (apply Wl.sliceAll; exact rfl; exact rfl; (decide); exact rfl) | (apply Wl.nilM) | (apply Wl.splitP; exact rfl; exact rfl; all_goals (intros; try (exfalso; omega))) | (apply Wl.splitB; exact rfl; exact rfl; all_goals intros) | (apply St.condP; exact rfl; all_goals (intros; try (exfalso; omega))) | (apply St.condB; exact rfl; all_goals intros))
    apply Mt.back
    refine Mt.pure 9 (by decide +kernel) (by exact rfl) (by exact rfl) (by decide +kernel) (by decide +kernel) ?_
    repeat' (first | (apply Wl.move; exact rfl; exact rfl) | (apply Wl.nilM) | (apply Wl.splitP; exact rfl; exact rfl; all_goals (intros; try (exfalso; omega))) | (apply Wl.splitB; exact rfl; exact rfl; all_goals intros) | (apply St.condP; exact rfl; all_goals (intros; try (exfalso; omega))) | (apply St.condB; exact rfl; all_goals intros))
    apply Mt.back
    refine Mt.pure 11 (by decide +kernel) (by exact rfl) (by exact rfl) (by decide +kernel) (by decide +kernel) ?_
    repeat' (first | (apply Wl.sliceAll; exact rfl; exact rfl; (decide); exact rfl) | (apply Wl.nilM) | (apply Wl.splitP; exact rfl; exact rfl; all_goals (intros; try (exfalso; omega))) | (apply Wl.splitB; exact rfl; exact rfl; all_goals intros) | (apply St.condP; exact rfl; all_goals (intros; try (exfalso; omega))) | (apply St.condB; exact rfl; all_goals intros))
    apply Mt.back
    refine Mt.pure 12 (by decide +kernel) (by exact rfl) (by exact rfl) (by decide +kernel) (by decide +kernel) ?_
    repeat' (first | (apply Wl.sliceAll; exact rfl; exact rfl; (decide); exact rfl) | (apply Wl.nilM) | (apply Wl.splitP; exact rfl; exact rfl; all_goals (intros; try (exfalso; omega))) | (apply Wl.splitB; exact rfl; exact rfl; all_goals intros) | (apply St.condP; exact rfl; all_goals (intros; try (exfalso; omega))) | (apply St.condB; exact rfl; all_goals intros))
    apply Mt.back
    refine Mt.eff1 (i := 10) (by decide +kernel) (by exact rfl) ?_
    repeat' (first | (apply Wl.lit; exact rfl; (repeat (first | exact Parts.nil | apply Parts.cons rfl)); exact rfl; exact rfl; (repeat (first | apply CatP.nil | (apply CatP.one; exact rfl; exact rfl) | (apply CatP.agg; exact rfl) | apply LApp.nil | apply LApp.cons)); intro c hc ho) | (apply Wl.nil) | (apply Wl.splitP; exact rfl; exact rfl; all_goals (intros; try (exfalso; omega))) | (apply Wl.splitB; exact rfl; exact rfl; all_goals intros) | (apply St.condP; exact rfl; all_goals (intros; try (exfalso; omega))) | (apply St.condB; exact rfl; all_goals intros))
    generalize c = c1 at *
    have hc1 : w.heap.size ≤ c1 := by assumption
    refine Mt.backE (fun _ _ => trivial) ?_
    refine Mt.eff1 (i := 13) (by decide +kernel) (by exact rfl) ?_
    repeat' (first | (apply Wl.lit; exact rfl; (repeat (first | exact Parts.nil | apply Parts.cons rfl)); exact rfl; exact rfl; (repeat (first | apply CatP.nil | (apply CatP.one; exact rfl; exact rfl) | (apply CatP.agg; exact rfl) | apply LApp.nil | apply LApp.cons)); intro c hc ho) | (apply Wl.nil) | (apply Wl.splitP; exact rfl; exact rfl; all_goals (intros; try (exfalso; omega))) | (apply Wl.splitB; exact rfl; exact rfl; all_goals intros) | (apply St.condP; exact rfl; all_goals (intros; try (exfalso; omega))) | (apply St.condB; exact rfl; all_goals intros))
    generalize c = c2 at *
    have hc2 : w.heap.size ≤ c2 := by assumption
    refine Mt.backE (fun _ _ => trivial) ?_
    refine Mt.eff1 (i := 14) (by decide +kernel) (by exact rfl) ?_
    apply Wl.callQ
    · exact rfl
    · (repeat (first | exact Evs.nil | apply Evs.cons rfl))
    · intro wq hq
      have hDq := bsKV (hq.own.at (x := drB d K V) (.tail _ (.tail _ (.head _)))) hKl hVl
      have hb1 := bsOne (x := i) (hq.own.at (x := ⟨c1, [.int .u8 (i : Int)], 5⟩) (.tail _ (.head _))) (by omega)
      have hbh := bsLen (hq.own.at (x := ⟨ch, cellsN .u8 32 (bA h), 45⟩) (.tail _ (.tail _ (.tail _ (.head _)))))
      have hbx := bsLen (hq.own.at (x := ⟨cx, cellsN .u8 32 (bA x), 45⟩) (.tail _ (.tail _ (.tail _ (.tail _ (.head _))))))
      refine (sealMacB _ _ K [V, [UInt8.ofNat i], bL x, bL h] wq (hT.hp hq (by (repeat (first | exact trivial | exact hX.off (by omega) | refine ⟨by first | assumption | omega | (simp only; omega), ?_⟩)))) hDq.1 (by omega) (Pts.four (hq.own.at (.head _)) hDq.2 hb1 hbx hbh) (by simp [bL_len]; omega)).mono ?_
      rintro e wr ⟨rfl, hr⟩
      exact ⟨rfl, hq.keep hr⟩
    rw [show [V, [UInt8.ofNat i], bL x, bL h].flatten = V ++ ([UInt8.ofNat i] ++ (bL x ++ bL h)) by simp, ← e1]
    repeat' (first | (apply Wl.nil) | (apply Wl.splitP; exact rfl; exact rfl; all_goals (intros; try (exfalso; omega))) | (apply Wl.splitB; exact rfl; exact rfl; all_goals intros) | (apply St.condP; exact rfl; all_goals (intros; try (exfalso; omega))) | (apply St.condB; exact rfl; all_goals intros))
    refine Mt.backE (fun _ _ => trivial) ?_
    refine Mt.pure 15 (by decide +kernel) (by exact rfl) (by exact rfl) (by decide +kernel) (by decide +kernel) ?_
    repeat' (first | (apply Wl.nilCheck; exact rfl; exact rfl) | (apply Wl.nilM) | (apply Wl.splitP; exact rfl; exact rfl; all_goals (intros; try (exfalso; omega))) | (apply Wl.splitB; exact rfl; exact rfl; all_goals intros) | (apply St.condP; exact rfl; all_goals (intros; try (exfalso; omega))) | (apply St.condB; exact rfl; all_goals intros))
    apply Mt.back
    refine Mt.pure 16 (by decide +kernel) (by exact rfl) (by exact rfl) (by decide +kernel) (by decide +kernel) ?_
    repeat' (first | (apply Wl.fieldAddr0; exact rfl; exact rfl) | (apply Wl.nilM) | (apply Wl.splitP; exact rfl; exact rfl; all_goals (intros; try (exfalso; omega))) | (apply Wl.splitB; exact rfl; exact rfl; all_goals intros) | (apply St.condP; exact rfl; all_goals (intros; try (exfalso; omega))) | (apply St.condB; exact rfl; all_goals intros))
    apply Mt.back
    refine Mt.eff1 (i := 17) (by decide +kernel) (by exact rfl) ?_
    repeat' (first | (apply Wl.storeK; exact rfl; exact rfl; (repeat (first | apply HSet.here | apply HSet.there)); (assumption); (assumption)) | (apply Wl.nil) | (apply Wl.splitP; exact rfl; exact rfl; all_goals (intros; try (exfalso; omega))) | (apply Wl.splitB; exact rfl; exact rfl; all_goals intros) | (apply St.condP; exact rfl; all_goals (intros; try (exfalso; omega))) | (apply St.condB; exact rfl; all_goals intros))
    refine Mt.backE (fun _ _ => trivial) ?_
    refine Mt.toGt (by decide +kernel) ?_
    repeat' (first | (apply Gt.next) | (apply Wl.splitP; exact rfl; exact rfl; all_goals (intros; try (exfalso; omega))) | (apply Wl.splitB; exact rfl; exact rfl; all_goals intros) | (apply St.condP; exact rfl; all_goals (intros; try (exfalso; omega))) | (apply St.condB; exact rfl; all_goals intros))
    refine St.tree (fun _ => True) mixed (fun _ h => ⟨Hp.drew h, trivial⟩) ?_
    refine Mt.pure 0 (by decide +kernel) (by exact rfl) (by exact rfl) (by decide +kernel) (by decide +kernel) ?_
    repeat' (first | (apply Wl.move; exact rfl; exact rfl) | (apply Wl.nilM) | (apply Wl.splitP; exact rfl; exact rfl; all_goals (intros; try (exfalso; omega))) | (apply Wl.splitB; exact rfl; exact rfl; all_goals intros) | (apply St.condP; exact rfl; all_goals (intros; try (exfalso; omega))) | (apply St.condB; exact rfl; all_goals intros))
    apply Mt.back
    refine Mt.pure 1 (by decide +kernel) (by exact rfl) (by exact rfl) (by decide +kernel) (by decide +kernel) ?_
    repeat' (first | (apply Wl.move; exact rfl; exact rfl) | (apply Wl.nilM) | (apply Wl.splitP; exact rfl; exact rfl; all_goals (intros; try (exfalso; omega))) | (apply Wl.splitB; exact rfl; exact rfl; all_goals intros) | (apply St.condP; exact rfl; all_goals (intros; try (exfalso; omega))) | (apply St.condB; exact rfl; all_goals intros))
    apply Mt.back
    refine Mt.pure 2 (by decide +kernel) (by exact rfl) (by exact rfl) (by decide +kernel) (by decide +kernel) ?_
    repeat' (first | (apply Wl.nilCheck; exact rfl; exact rfl) | (apply Wl.nilM) | (apply Wl.splitP; exact rfl; exact rfl; all_goals (intros; try (exfalso; omega))) | (apply Wl.splitB; exact rfl; exact rfl; all_goals intros) | (apply St.condP; exact rfl; all_goals (intros; try (exfalso; omega))) | (apply St.condB; exact rfl; all_goals intros))
    apply Mt.back
    refine Mt.pure 3 (by decide +kernel) (by exact rfl) (by exact rfl) (by decide +kernel) (by decide +kernel) ?_
    repeat' (first | (apply Wl.fieldAddr0; exact rfl; exact rfl) | (apply Wl.nilM) | (apply Wl.splitP; exact rfl; exact rfl; all_goals (intros; try (exfalso; omega))) | (apply Wl.splitB; exact rfl; exact rfl; all_goals intros) | (apply St.condP; exact rfl; all_goals (intros; try (exfalso; omega))) | (apply St.condB; exact rfl; all_goals intros))
    apply Mt.back
    refine Mt.pure 4 (by decide +kernel) (by exact rfl) (by exact rfl) (by decide +kernel) (by decide +kernel) ?_
    repeat' (first | (apply Wl.sliceAll; exact rfl; exact rfl; (decide); exact rfl) | (apply Wl.nilM) | (apply Wl.splitP; exact rfl; exact rfl; all_goals (intros; try (exfalso; omega))) | (apply Wl.splitB; exact rfl; exact rfl; all_goals intros) | (apply St.condP; exact rfl; all_goals (intros; try (exfalso; omega))) | (apply St.condB; exact rfl; all_goals intros))
    apply Mt.back
    refine Mt.pure 5 (by decide +kernel) (by exact rfl) (by exact rfl) (by decide +kernel) (by decide +kernel) ?_
    repeat' (first | (apply Wl.move; exact rfl; exact rfl) | (apply Wl.nilM) | (apply Wl.splitP; exact rfl; exact rfl; all_goals (intros; try (exfalso; omega))) | (apply Wl.splitB; exact rfl; exact rfl; all_goals intros) | (apply St.condP; exact rfl; all_goals (intros; try (exfalso; omega))) | (apply St.condB; exact rfl; all_goals intros))
    apply Mt.back
    refine Mt.pure 6 (by decide +kernel) (by exact rfl) (by exact rfl) (by decide +kernel) (by decide +kernel) ?_
    repeat' (first | (apply Wl.nilCheck; exact rfl; exact rfl) | (apply Wl.nilM) | (apply Wl.splitP; exact rfl; exact rfl; all_goals (intros; try (exfalso; omega))) | (apply Wl.splitB; exact rfl; exact rfl; all_goals intros) | (apply St.condP; exact rfl; all_goals (intros; try (exfalso; omega))) | (apply St.condB; exact rfl; all_goals intros))
    apply Mt.back
    refine Mt.pure 7 (by decide +kernel) (by exact rfl) (by exact rfl) (by decide +kernel) (by decide +kernel) ?_
    repeat' (first | (apply Wl.fieldAddrZ; exact rfl; exact rfl) | (apply Wl.nilM) | (apply Wl.splitP; exact rfl; exact rfl; all_goals (intros; try (exfalso; omega))) | (apply Wl.splitB; exact rfl; exact rfl; all_goals intros) | (apply St.condP; exact rfl; all_goals (intros; try (exfalso; omega))) | (apply St.condB; exact rfl; all_goals intros))
    apply Mt.back
    refine Mt.pure 8 (by decide +kernel) (by exact rfl) (by exact rfl) (by decide +kernel) (by decide +kernel) ?_
    repeat' (first | (apply Wl.sliceAll; exact rfl; exact rfl; (decide); exact rfl) | (apply Wl.nilM) | (apply Wl.splitP; exact rfl; exact rfl; all_goals (intros; try (exfalso; omega))) | (apply Wl.splitB; exact rfl; exact rfl; all_goals intros) | (apply St.condP; exact rfl; all_goals (intros; try (exfalso; omega))) | (apply St.condB; exact rfl; all_goals intros))
    apply Mt.back
    refine Mt.eff1 (i := 9) (by decide +kernel) (by exact rfl) ?_
    repeat' (first | (apply Wl.lit; exact rfl; (repeat (first | exact Parts.nil | apply Parts.cons rfl)); exact rfl; exact rfl; (repeat (first | apply CatP.nil | (apply CatP.one; exact rfl; exact rfl) | (apply CatP.agg; exact rfl) | apply LApp.nil | apply LApp.cons)); intro c hc ho) | (apply Wl.nil) | (apply Wl.splitP; exact rfl; exact rfl; all_goals (intros; try (exfalso; omega))) | (apply Wl.splitB; exact rfl; exact rfl; all_goals intros) | (apply St.condP; exact rfl; all_goals (intros; try (exfalso; omega))) | (apply St.condB; exact rfl; all_goals intros))
    generalize c = c3 at *
    have hc3 : w.heap.size ≤ c3 := by assumption
    refine Mt.backE (fun _ _ => trivial) ?_
    refine Mt.eff1 (i := 10) (by decide +kernel) (by exact rfl) ?_
    apply Wl.callQ
    · exact rfl
    · (repeat (first | exact Evs.nil | apply Evs.cons rfl))
    · intro wq hq
      have hDq := bsKV (hq.own.at (x := drB d K' V) (.tail _ (.tail _ (.tail _ (.head _))))) hKl' hVl
      refine (sealMacB _ _ K' [V] wq (hT.hp hq (by (repeat (first | exact trivial | exact hX.off (by omega) | refine ⟨by first | assumption | omega | (simp only; omega), ?_⟩)))) hDq.1 (by omega) (Pts.one (hq.own.at (.head _)) hDq.2) (by simp; omega)).mono ?_
      rintro e wr ⟨rfl, hr⟩
      exact ⟨rfl, hq.keep hr⟩
    rw [show [V].flatten = V by simp, ← e2]
    repeat' (first | (apply Wl.nil) | (apply Wl.splitP; exact rfl; exact rfl; all_goals (intros; try (exfalso; omega))) | (apply Wl.splitB; exact rfl; exact rfl; all_goals intros) | (apply St.condP; exact rfl; all_goals (intros; try (exfalso; omega))) | (apply St.condB; exact rfl; all_goals intros))
    refine Mt.backE (fun _ _ => trivial) ?_
    refine Mt.pure 11 (by decide +kernel) (by exact rfl) (by exact rfl) (by decide +kernel) (by decide +kernel) ?_
    repeat' (first | (apply Wl.nilCheck; exact rfl; exact rfl) | (apply Wl.nilM) | (apply Wl.splitP; exact rfl; exact rfl; all_goals (intros; try (exfalso; omega))) | (apply Wl.splitB; exact rfl; exact rfl; all_goals intros) | (apply St.condP; exact rfl; all_goals (intros; try (exfalso; omega))) | (apply St.condB; exact rfl; all_goals intros))
    apply Mt.back
    refine Mt.pure 12 (by decide +kernel) (by exact rfl) (by exact rfl) (by decide +kernel) (by decide +kernel) ?_
    repeat' (first | (apply Wl.fieldAddrZ; exact rfl; exact rfl) | (apply Wl.nilM) | (apply Wl.splitP; exact rfl; exact rfl; all_goals (intros; try (exfalso; omega))) | (apply Wl.splitB; exact rfl; exact rfl; all_goals intros) | (apply St.condP; exact rfl; all_goals (intros; try (exfalso; omega))) | (apply St.condB; exact rfl; all_goals intros))
    apply Mt.back
    refine Mt.eff1 (i := 13) (by decide +kernel) (by exact rfl) ?_
    repeat' (first | (apply Wl.storeKV; exact rfl; exact rfl; (repeat (first | apply HSet.here | apply HSet.there)); (assumption); (assumption); (assumption)) | (apply Wl.nil) | (apply Wl.splitP; exact rfl; exact rfl; all_goals (intros; try (exfalso; omega))) | (apply Wl.splitB; exact rfl; exact rfl; all_goals intros) | (apply St.condP; exact rfl; all_goals (intros; try (exfalso; omega))) | (apply St.condB; exact rfl; all_goals intros))
    refine Mt.backE (fun _ _ => trivial) ?_
    refine Mt.toGt (by decide +kernel) ?_
    repeat' (first | (apply Wl.addB (n := 1); exact rfl; exact rfl; exact rfl; (omega)) | (apply Wl.move; exact rfl; exact rfl) | (apply Wl.nil) | (apply St.region) | (apply Gt.next) | (apply Gt.inNormal) | (apply Wl.splitP; exact rfl; exact rfl; all_goals (intros; try (exfalso; omega))) | (apply Wl.splitB; exact rfl; exact rfl; all_goals intros) | (apply St.condP; exact rfl; all_goals (intros; try (exfalso; omega))) | (apply St.condB; exact rfl; all_goals intros))
    apply Gt.round (i + 1)
    rotate_left
    · omega
    · (repeat (first | exact Sub.nil | apply Sub.cons rfl))
    · exact fun _ hh => by rw [hK', hV']; exact hpPop (hpPop (hpPop hh hc3) hc2) hc1
    · omega
  obtain rfl : i = 2 := by omega
  have hd3 : decide (((2 : Nat) : Int) < 2) = false := rfl
  repeat' (first | (apply Wl.move; exact rfl; exact rfl) | (apply Wl.assign; exact rfl; exact rfl) | (apply Wl.lss; exact rfl; exact rfl; exact rfl) | (apply Wl.nil) | (apply St.seq) | (apply St.region) | (apply St.condF; exact rfl; (first | with_reducible rfl | with_reducible assumption | decide)) | (apply St.ret) | (apply St.exit) | (apply Gt.next) | (apply Gt.thenExit) | (apply Gt.inExit) | (apply Gt.out1; exact rfl; exact rfl; intro w' hp) | (apply Wl.splitP; exact rfl; exact rfl; all_goals (intros; try (exfalso; omega))) | (apply Wl.splitB; exact rfl; exact rfl; all_goals intros) | (apply St.condP; exact rfl; all_goals (intros; try (exfalso; omega))) | (apply St.condB; exact rfl; all_goals intros))
  refine ⟨d, rfl, hd, hp.own.at (x := drB d (stp x h 2).1 (stp x h 2).2) (.head _), hp.drop (by simp; omega)⟩
end Go.Proofs.YtfaobdakpbpkbaaDoor
end
section
/-
  append onto a slice that is full: a new block; a slice compared with nil. Conditions: what comes of it is no more than a machine holds.
-/
namespace Go.Pt
theorem Wl.appendG {P : Program} {N : Nat} {ops : Array Oper} {rest : List Oper} {Γ : Env} {Q : Exit → Act → World → Prop} {d : Nat} {ty : TypeId} {pos : String} {af : Array Edge} {w0 : World} {H : List Blk} {t e sz by_ n m cap c : Nat} {z : Value} {olds news : List Value} {b ad : Addr} {s x : Operand} [ht : TyD P t (.slice e)] [hs : TyS P e sz by_] [hz : TyZ P e z]
    (hd : Nat.blt d N = true) (hs' : ev Γ s = some (.slice (some b) n cap)) (hx : ev Γ x = some (.slice (some ad) m c)) (hlo : olds.length = n * sz) (holds : ∀ w, Hp w0 H w → ∀ j u, olds[j]? = some u → w.cell? (b.add j) = some u)
    (hl : news.length = m * sz) (hnews : ∀ w, Hp w0 H w → ∀ j u, news[j]? = some u → w.cell? (ad.add j) = some u) (hg : cap < n + m) (hzs : z.cells.size = sz) (hsz : 0 < sz) (h63 : n + m ≤ maxLen) (hb : (n + m) * by_ ≤ 140737488355328)
    (h : ∀ v' w1, w1.ownsRow w0.heap.size e sz v' (n + m) (olds ++ news) → Hp w0 H w1 → (∀ k, v'.ownBlock = some k → Off H k) → Wl rest P .seq ops N ((d, v') :: Γ) (Hp w1 H) Q) :
    Wl (⟨some d, .call { callee := .builtin .append, args := #[s, x], argTypes := #[t, t] }, ty, pos, af, none⟩ :: rest) P .seq ops N Γ (Hp w0 H) Q :=
  Wl.eff fun a w ha hw => by
    obtain ⟨i, hi, hsz'⟩ := Option.map_eq_some_iff.1 hs.out
    have hzi : i.zero = some z := by have := hz.out; rw [hi] at this; exact this
    simp only [Prod.mk.injEq] at hsz'
    obtain ⟨v', w', hrun, ho, hgr⟩ := run_append_arg_grows (P := P) w t ty e i z sz by_ ht.out hi hzi hsz'.1 hsz'.2 hzs hsz b n cap olds hlo (holds w hw) ad m c news hl (hnews w hw) hg h63 hb
    have u : Upd (fun _ => False) w w' := Upd.grown hgr fun k hk => by cases hk
    have hw' : Hp w0 H w' := hw.step u (fun _ _ x => x) fun _ _ x => x.elim
    have ho' : w'.ownsRow w0.heap.size e sz v' (n + m) (olds ++ news) := by
      obtain ⟨h1, h2⟩ := ho
      refine ⟨h1, ?_⟩
      rcases h2 with h2 | ⟨g, cap', cur, e1, hb', hx'⟩
      · exact .inl h2
      · exact .inr ⟨g, cap', cur, e1, Nat.le_trans hw.upd.size hb', hx'⟩
    refine ⟨v', w', .inl ?_, (h v' w' ho' hw' fun k hk => ?_).elim _ _ (ha.put hd _) hw'.rebase⟩
    · simp [execOp, resolve, invoke, builtin, ha.ev hs', ha.ev hx, hrun]
    · have := (ho.lt k hk).1
      exact Off.of fun y hy e => by have := hw.own.lt hy; omega
section
variable {P : Program} {md : Md} {N : Nat} {ops : Array Oper} {rest : List Oper} {Γ : Env} {C : World → Prop} {Q : Exit → Act → World → Prop} {d : Nat} {ty : TypeId} {pos : String} {af : Array Edge} {t e : TypeId} {x y : Operand} {u : TypeId}
end
end Go.Pt
end
