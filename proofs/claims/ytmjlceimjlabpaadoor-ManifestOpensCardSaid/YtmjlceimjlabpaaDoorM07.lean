/-
 7 texts,one behind the other;each says what it proves. Conditions: as each text says.
-/
import Derived.Test.YtmjlceimjlabpaaDoorM06
import Derived.Lib.ConvBytes
import Derived.Test.YtmjlceimjlabpaaDoorM03
import Derived.Test.YtmjlceimjlabpaaDoorM02
import Derived.Test.YtmjlceimjlabpaaDoorMOpenK
section
namespace Go.Proofs.YtmjlceimjlabpaaDoor
open Go.RowKit Go.Pt
attribute [local irreducible] Prim.P256 Prim.N256
theorem ne8 {a b : Nat} (ha : a < W256) (hb : b < W256) (h : a ≠ b) : false = true ↔ ∀ j,j < 8 → dg W32 a j = dg W32 b j :=
 (show false = decide (a = b) from (decide_eq_false h).symm) ▸ d8_inj ha hb
theorem eq8 {a b : Nat} (h : a = b) : true = true ↔ ∀ j,j < 8 → dg W32 a j = dg W32 b j := ⟨fun _ _ _ => by rw [h],fun _ => rfl⟩
theorem hpTrS {w0 w1 w2 : World} {H : List Blk} {c t t' : Nat} {cs cs' : List Value} (h1 : Hp w0 (⟨c,cs,t⟩ :: H) w1) (h2 : Hp w1 (⟨c,cs',t'⟩ :: H) w2) (hx : w0.heap.size ≤ c) : Hp w0 H w2 :=
 hpPopS (x := ⟨c,cs',t'⟩) ⟨(show Upd (fun k => ¬ Off (⟨c,cs',t'⟩ :: H) k) w0 w1 from h1.upd).trans h2.upd,h2.own,h2.apart⟩ hx
theorem newModN (w : World) : Calls Tryd.prog 32 #[numV Prim.N256] w fun e w' => ∃ b,e = .returned (.tuple #[mp b,.int .i64 0]) ∧ w.heap.size ≤ b ∧ ModV w' b Prim.N256 ∧ Hp w [] w' := by
 refine (modNew Prim.N256 nW w).mono ?_
 rintro e w' (⟨_,_,b,h⟩ | ⟨h,_⟩)
 ·exact ⟨b,h⟩
 ·exact absurd ⟨n_odd,by decide +kernel⟩ h
theorem uv_eq {m a s k : Nat} (ho : m % 2 = 1) : a * W256 % m * pw m (s * W256 % m) k * rinv m % m * rinv m % m = a * pwm m s k % m := by
 rw [pw_in ho,in_mul ho,outIn ho]
 unfold pwm
 rw [Nat.mul_mod_mod]
def okS (n : Nat) : Bool := decide (n ≠ 0) && decide (n < Prim.N256)
theorem sigScalar (n : Nat) (w : World) (hn : n < W256) : Calls Tryd.prog 31 #[numV n] w fun e w' => e = .returned (.bool (okS n)) ∧ Hp w [] w' := by
 have hz := fun wq => limbZero n wq hn
 refine enter (args := [_]) (Γ := [(0,_)]) Tryd.func31 Tryd.ntmps31 rfl (of_decide_eq_true rfl) (.cons rfl .nil) ?_
 unfold okS
 have hcs : n = 0 ∨ (n ≠ 0 ∧ n < Prim.N256) ∨ (n ≠ 0 ∧ ¬ n < Prim.N256) := by omega
 rcases hcs with h0 | ⟨h0,h1⟩ | ⟨h0,h1⟩
 ·rw [decide_eq_true h0] at hz
  rw [decide_eq_false (p := n ≠ 0) (fun h => h h0),Bool.false_and]
  repeat' first | (apply St.bagX 9 [8];exact mixed;(decide +kernel);kernel_rfl) | apply OpsX.nil | (apply OpsX.v;(intro X hX;change Wl [_] _ _ _ _ _ _ _;apply Wl.catX;(focus repeat constructor))) | (apply Gt.endX;exact rfl) | (apply EndX.on;exact rfl) | (apply EndX.off;exact rfl) | (apply EndX.nil';apply Wl.catE;(focus repeat constructor)) | (apply Wl.callQ (f := 64);exact rfl;(focus repeat constructor);(intro wq hq;exact hq.q (hz wq))) | (apply Wl.loadW;exact rfl;exact rfl;(focus repeat constructor);exact rfl) | (apply Wl.boxN;exact rfl;exact rfl;intro c hc ho) | refine Wl.move rfl rfl ?_ | refine Wl.assign rfl rfl ?_ | (apply Wl.off;exact rfl;exact rfl;exact rfl;(first | with_reducible rfl | (show _ = false;with_reducible assumption) | (show _ = true;with_reducible assumption) | decide)) | (apply Wl.pickF;exact rfl;exact rfl;(with_reducible first | rfl | assumption | decide);exact rfl) | refine Wl.not rfl rfl ?_ | apply Wl.nil | apply St.seq | apply St.region | apply St.ret | apply Gt.next | (apply Gt.out1;exact rfl;exact rfl;intro w' hp)
  exact ⟨rfl,hp.drop (by simp;omega)⟩
 ·rw [decide_eq_false h0] at hz
  rw [decide_eq_true (p := n ≠ 0) h0,decide_eq_true h1,Bool.true_and]
  have hCmp : cmpN n Prim.N256 = -1 := cmp_lt h1
  repeat' first | (apply St.bagX 9 [8];exact mixed;(decide +kernel);kernel_rfl) | apply OpsX.nil | (apply OpsX.v;(intro X hX;change Wl [_] _ _ _ _ _ _ _;apply Wl.catX;(focus repeat constructor))) | (apply Gt.endX;exact rfl) | (apply EndX.on;exact rfl) | (apply EndX.off;exact rfl) | (apply EndX.nil';apply Wl.catE;(focus repeat constructor)) | (apply Wl.callQ (f := 64);exact rfl;(focus repeat constructor);(intro wq hq;exact hq.q (hz wq))) | (apply Wl.callQ (f := 33);exact rfl;(focus repeat constructor);(intro wq hq;exact hq.q (curOrder wq))) | (apply Wl.callQ (f := 65);exact rfl;(focus repeat constructor);(intro wq hq;exact hq.q (gCmp hn nW hCmp wq))) | (apply Wl.loadW;exact rfl;exact rfl;(focus repeat constructor);exact rfl) | (apply Wl.boxN;exact rfl;exact rfl;intro c hc ho) | refine Wl.move rfl rfl ?_ | refine Wl.assign rfl rfl ?_ | (apply Wl.on;exact rfl;exact rfl;(with_reducible first | rfl | assumption | decide)) | (apply Wl.pickT;exact rfl;exact rfl;(with_reducible first | rfl | assumption | decide);exact rfl) | refine Wl.not rfl rfl ?_ | refine Wl.lss rfl rfl rfl ?_ | apply Wl.nil | apply St.seq | apply St.region | apply St.ret | apply Gt.next | (apply Gt.out1;exact rfl;exact rfl;intro w' hp)
  exact ⟨rfl,hp.drop (by simp;omega)⟩
 ·rw [decide_eq_false h0] at hz
  rw [decide_eq_true (p := n ≠ 0) h0,decide_eq_false h1,Bool.true_and]
  obtain ⟨q,hCmp⟩ : ∃ q,cmpN n Prim.N256 = q := ⟨_,rfl⟩
  have hq0 : 0 ≤ q := hCmp ▸ cmp_ge h1
  have hlt : decide (q < 0) = false := decide_eq_false (by omega)
  repeat' first | (apply St.bagX 9 [8];exact mixed;(decide +kernel);kernel_rfl) | apply OpsX.nil | (apply OpsX.v;(intro X hX;change Wl [_] _ _ _ _ _ _ _;apply Wl.catX;(focus repeat constructor))) | (apply Gt.endX;exact rfl) | (apply EndX.on;exact rfl) | (apply EndX.off;exact rfl) | (apply EndX.nil';apply Wl.catE;(focus repeat constructor)) | (apply Wl.callQ (f := 64);exact rfl;(focus repeat constructor);(intro wq hq;exact hq.q (hz wq))) | (apply Wl.callQ (f := 33);exact rfl;(focus repeat constructor);(intro wq hq;exact hq.q (curOrder wq))) | (apply Wl.callQ (f := 65);exact rfl;(focus repeat constructor);(intro wq hq;exact hq.q (gCmp hn nW hCmp wq))) | (apply Wl.loadW;exact rfl;exact rfl;(focus repeat constructor);exact rfl) | (apply Wl.boxN;exact rfl;exact rfl;intro c hc ho) | refine Wl.move rfl rfl ?_ | refine Wl.assign rfl rfl ?_ | (apply Wl.on;exact rfl;exact rfl;(with_reducible first | rfl | assumption | decide)) | (apply Wl.pickT;exact rfl;exact rfl;(with_reducible first | rfl | assumption | decide);exact rfl) | refine Wl.not rfl rfl ?_ | refine Wl.lss rfl rfl rfl ?_ | apply Wl.nil | apply St.seq | apply St.region | apply St.ret | apply Gt.next | (apply Gt.out1;exact rfl;exact rfl;intro w' hp)
  exact ⟨by rw [hlt],hp.drop (by simp;omega)⟩
theorem sKeyOk (v : Value) (l : List UInt8) (w : World) (hv : Bs w v l) (hvl : ∀ k,v.ownBlock = some k → k < w.heap.size) (hl : l.length = 64) (h : onB (rdL (l.take 32)) (rdL (l.drop 32)) = true) : Calls Tryd.prog 29 #[v] w fun e w' =>
  e = .returned (.tuple #[.agg (poC (rdL (l.take 32)) (rdL (l.drop 32)) false).toArray,.int .i64 0]) ∧ Hp w [] w' := by
 have := signKey v l w hv hvl hl
 rw [h] at this
 exact this
theorem sKeyNo (v : Value) (l : List UInt8) (w : World) (hv : Bs w v l) (hvl : l ≠ [] → ∀ k,v.ownBlock = some k → k < w.heap.size) (h : keyNo l) : ∃ k : Int,(decide (k ≠ 0) = true) ∧ Calls Tryd.prog 29 #[v] w fun e w' => e = .returned (.tuple #[.agg (poC 0 0 false).toArray,.int .i64 k]) ∧ Hp w [] w' := by
 by_cases hl : l.length = 64
 ·have e := h.resolve_left (fun h => h hl)
  have := signKey v l w hv (hvl (fun e => by subst e;cases hl)) hl
  rw [e] at this
  exact ⟨3,rfl,this⟩
 ·exact ⟨2,rfl,signKeyN v l w hv hl⟩
set_option maxHeartbeats 8000000 in
theorem signVer5 (kv mv gv : Value) (l : List UInt8) (w : World) (hv : Bs w kv l) (hvl : l ≠ [] → ∀ k,kv.ownBlock = some k → k < w.heap.size) (h : keyNo l) : Calls Tryd.prog 15 #[kv,mv,gv] w fun e w' => e = .returned (.int .i64 5) ∧ Hp w [] w' := by
 obtain ⟨k,hk,_⟩ := sKeyNo kv l w hv hvl h
 have hK : ∀ wq,Bs wq kv l → w.heap.size ≤ wq.heap.size → Calls Tryd.prog 29 #[kv] wq fun e w' => e = .returned (.tuple #[.agg (poC 0 0 false).toArray,.int .i64 (if l.length = 64 then 3 else 2)]) ∧ Hp wq [] w' := fun wq hb hs => by
  by_cases hl : l.length = 64
  ·have e := h.resolve_left (fun h => h hl)
   have := signKey kv l wq hb (fun k hk => Nat.lt_of_lt_of_le (hvl (fun e => by subst e;cases hl) k hk) hs) hl
   rw [e] at this
   rw [if_pos hl]
   exact this
  ·rw [if_neg hl]
   exact signKeyN kv l wq hb hl
 obtain ⟨q,hq⟩ : ∃ q : Int,q = if l.length = 64 then 3 else 2 := ⟨_,rfl⟩
 rw [← hq] at hK
 have hd : decide (q ≠ 0) = true := decide_eq_true (by rw [hq];split <;> decide)
 clear hq
 refine enter (args := [_,_,_]) (Γ := [(0,_),(1,_),(2,_)]) Tryd.func15 Tryd.ntmps15 rfl (of_decide_eq_true rfl) (.cons rfl (.cons rfl (.cons rfl .nil))) ?_
 repeat' first | (apply Wl.callQ (f := 29);exact rfl;(focus repeat constructor);(intro wq hq;exact hq.q (hK wq (bsNew hv hq (by simp)) hq.upd.size))) | (apply Wl.allocC (t := 71);exact rfl;exact zPo;intro c hc ho) | (apply Wl.storeAll;exact rfl;exact rfl;(focus repeat constructor);(first | exact ptC_len _ _ _ | exact poC_len _ _ _ | exact poD_len _);(first | exact rfl | exact ptC_len _ _ _ | exact poC_len _ _ _ | exact poD_len _);(first | exact ptC_one _ _ _ | exact poC_one _ _ _ | exact poD_one _)) | refine Wl.move rfl rfl ?_ | refine Wl.assign rfl rfl ?_ | refine Wl.extract rfl rfl rfl ?_ | refine Wl.neq rfl rfl rfl ?_ | apply Wl.nil | apply St.seq | apply St.region | (apply St.condT;exact rfl;(with_reducible first | rfl | assumption | decide)) | apply St.ret | apply Gt.next | apply Gt.thenRet | (apply Gt.out1;exact rfl;exact rfl;intro w' hp)
 exact ⟨rfl,hp.drop (by simp;omega)⟩
set_option maxHeartbeats 8000000 in
theorem signVer4 (kv mv gv : Value) (l g : List UInt8) (w : World) (hv : Bs w kv l) (hvl : ∀ k,kv.ownBlock = some k → k < w.heap.size) (hl : l.length = 64) (h : onB (rdL (l.take 32)) (rdL (l.drop 32)) = true) (hg : Bs w gv g) (hgl : g.length ≠ 64) : Calls Tryd.prog 15 #[kv,mv,gv] w fun e w' => e = .returned (.int .i64 4) ∧ Hp w [] w' := by
 obtain ⟨ga,gc,rfl,hglc,hgm⟩ := hg.shape
 have hdg : decide ((g.length : Int) ≠ 64) = true := decide_eq_true (by omega)
 refine enter (args := [_,_,_]) (Γ := [(0,_),(1,_),(2,_)]) Tryd.func15 Tryd.ntmps15 rfl (of_decide_eq_true rfl) (.cons rfl (.cons rfl (.cons rfl .nil))) ?_
 repeat' first | (apply Wl.callQ (f := 29);exact rfl;(focus repeat constructor);(intro wq hq;exact hq.q (sKeyOk kv l wq (bsNew hv hq (by simp)) (fun k hk => Nat.lt_of_lt_of_le (hvl k hk) hq.upd.size) hl h))) | (apply Wl.allocC (t := 71);exact rfl;exact zPo;intro c hc ho) | (apply Wl.storeAll;exact rfl;exact rfl;(focus repeat constructor);(first | exact ptC_len _ _ _ | exact poC_len _ _ _ | exact poD_len _);(first | exact rfl | exact ptC_len _ _ _ | exact poC_len _ _ _ | exact poD_len _);(first | exact ptC_one _ _ _ | exact poC_one _ _ _ | exact poD_one _)) | refine Wl.move rfl rfl ?_ | refine Wl.assign rfl rfl ?_ | refine Wl.extract rfl rfl rfl ?_ | (apply Wl.neqIs;exact rfl;exact rfl;exact rfl;(first | with_reducible assumption | with_reducible rfl)) | refine Wl.neq rfl rfl rfl ?_ | refine Wl.len rfl rfl ?_ | apply Wl.nil | apply St.seq | apply St.region | (apply St.condT;exact rfl;(with_reducible first | rfl | assumption | decide)) | (apply St.condF;exact rfl;(with_reducible first | rfl | assumption | decide)) | apply St.ret | apply St.skip | apply Gt.next | apply Gt.thenRet | (apply Gt.out1;exact rfl;exact rfl;intro w' hp)
 exact ⟨rfl,hp.drop (by simp;omega)⟩
theorem curTwoQ (k bm : Nat) (n m X Y : Nat) (w : World) (hV : CurV w k bm) (hX : X < Prim.P256) (hY : Y < Prim.P256) (hB : OnP (some (nF X,nF Y))) (hn : n < W256) (hm : m < W256) : Calls Tryd.prog 39 #[mp k,numV n,poV (some curG),numV m,.agg (poC X Y false).toArray] w fun e w' => e = .returned (poV (add3 (sm3 n (some curG)) (sm3 m (some (nF X,nF Y))))) ∧ Hp w [] w' := by
 have := curTwo k bm (some curG) (some (nF X,nF Y)) n m w hV onG hB hn hm
 rw [show poV (some (nF X,nF Y)) = .agg (poC X Y false).toArray by unfold poV;rw [poD_some,nF_val,nF_val,Nat.mod_eq_of_lt hX,Nat.mod_eq_of_lt hY]] at this
 exact this
set_option maxHeartbeats 16000000 in
theorem signVerM (kv mv gv : Value) (l m g : List UInt8) (w : World) (hK : ArrAt w 0 0 .u32 64 Sha.K) (hv : Bs w kv l) (hvl : ∀ k,kv.ownBlock = some k → k < w.heap.size) (hl : l.length = 64) (h : onB (rdL (l.take 32)) (rdL (l.drop 32)) = true) (hm : Bs w mv m) (hmn : m.length < 100000000) (hmv : m ≠ [] → ∀ k,mv.ownBlock = some k → k < w.heap.size) (hg : Bs w gv g) (hgl : g.length = 64)
  (U1 V1 : Nat) (A : Ec.Pt) (hu1 : eN m * pwm Prim.N256 (rdL (g.drop 32)) (Prim.N256 - 2) % Prim.N256 = U1) (hv1 : rdL (g.take 32) * pwm Prim.N256 (rdL (g.drop 32)) (Prim.N256 - 2) % Prim.N256 = V1) (hA : A = add3 (sm3 U1 (some curG)) (sm3 V1 (some (nF (rdL (l.take 32)),nF (rdL (l.drop 32)))))) :
  Calls Tryd.prog 15 #[kv,mv,gv] w fun e w' => e = .returned (.int .i64 (verA (rdL (g.take 32)) (rdL (g.drop 32)) A)) ∧ Hp w [] w' := by
 have h0K := hK.lt (by decide)
 obtain ⟨ga,gc,rfl,hglc,hgm⟩ := hg.shape
 unfold maxLen at hgm
 obtain ⟨ab,off,rfl,hcell⟩ := hg.cells (fun e => by subst e;simp at hgl)
 rw [hgl] at hg ⊢
 obtain ⟨hs1,hs2⟩ := bsHalves hg hgl
 obtain ⟨S1,hS1⟩ : ∃ S1,S1 = Value.slice (some ⟨ab,off,none⟩) 32 gc := ⟨_,rfl⟩
 obtain ⟨S2,hS2⟩ : ∃ S2,S2 = Value.slice (some ⟨ab,off + 32,none⟩) (64 - 32) (gc - 32) := ⟨_,rfl⟩
 rw [← hS1] at hs1
 rw [show (32 : Nat) = 64 - 32 from rfl,← hS2] at hs2
 have hc64 := hg.len.2.1
 have hl1 : (g.take 32).length = 32 := by rw [List.length_take];omega
 have hl2 : (g.drop 32).length = 32 := by rw [List.length_drop];omega
 refine enter (args := [_,_,_]) (Γ := [(0,_),(1,_),(2,_)]) Tryd.func15 Tryd.ntmps15 rfl (of_decide_eq_true rfl) (.cons rfl (.cons rfl (.cons rfl .nil))) ?_
 repeat' first | (apply Wl.callQ (f := 29);exact rfl;(focus repeat constructor);(intro wq hq;exact hq.q (sKeyOk kv l wq (bsNew hv hq (by simp)) (fun k hk => Nat.lt_of_lt_of_le (hvl k hk) hq.upd.size) hl h))) | (apply Wl.allocC (t := 71);exact rfl;exact zPo;intro c hc ho) | (apply Wl.storeAll;exact rfl;exact rfl;(focus repeat constructor);(first | exact ptC_len _ _ _ | exact poC_len _ _ _ | exact poD_len _);(first | exact rfl | exact ptC_len _ _ _ | exact poC_len _ _ _ | exact poD_len _);(first | exact ptC_one _ _ _ | exact poC_one _ _ _ | exact poD_one _)) | (apply Wl.sliceTo 32;exact rfl;exact rfl;exact rfl;exact rfl;omega;exact hS1) | (apply Wl.sliceFrom 32;exact rfl;exact rfl;exact rfl;exact rfl;(decide);exact hc64;exact hS2) | (apply Wl.callQ (f := 30);exact rfl;(focus repeat constructor);(intro wq hq;have hb1 := bsNew hs1 hq (by simp;omega);have hb2 := bsNew hs2 hq (by simp;omega);with_reducible first | refine (limbRead _ (g.take 32) wq hb1 hl1).mono ?_ | refine (limbRead _ (g.drop 32) wq hb2 hl2).mono ?_);(rintro e wr ⟨rfl,hr⟩;exact ⟨rfl,hq.keep hr⟩)) | (apply Wl.loadW;exact rfl;exact rfl;(focus repeat constructor);exact rfl) | (apply Wl.storeW;exact rfl;exact rfl;(focus repeat constructor);exact rfl;(first | exact cellsN_len _ _ _ | exact rfl)) | (apply Wl.allocN;exact rfl;(first | exact z8 | exact z16 | exact z17 | exact z33 | exact z10);intro c hc ho) | refine Wl.move rfl rfl ?_ | refine Wl.assign rfl rfl ?_ | refine Wl.extract rfl rfl rfl ?_ | (apply Wl.neqIs;exact rfl;exact rfl;exact rfl;(first | with_reducible assumption | with_reducible rfl)) | refine Wl.neq rfl rfl rfl ?_ | refine Wl.len rfl rfl ?_ | apply Wl.nil | apply St.seq | apply St.region | (apply St.condF;exact rfl;(with_reducible first | rfl | assumption | decide)) | apply St.skip | apply Gt.next
 generalize hR : rdL (g.take 32) = R at *
 generalize hS : rdL (g.drop 32) = S at *
 have hRW : R < W256 := hR ▸ rdL_lt _
 have hSW : S < W256 := hS ▸ rdL_lt _
 generalize c = cs at *
 rename_i cK hcK hoK cr hcr hor
 obtain ⟨XA,hXA⟩ : ∃ XA,XA = rdL (l.take 32) := ⟨_,rfl⟩
 obtain ⟨YA,hYA⟩ : ∃ YA,YA = rdL (l.drop 32) := ⟨_,rfl⟩
 rw [← hXA,← hYA] at h hA ⊢
 obtain ⟨hXP,hYP,hOn⟩ := onP_of h
 have hB1 := fun wq => sigScalar R wq hRW
 have hB2 := fun wq => sigScalar S wq hSW
 have hcs : okS R = false ∨ (okS R = true ∧ okS S = false) ∨ (okS R = true ∧ okS S = true) := by cases okS R <;> cases okS S <;> simp
 rcases hcs with hb1 | ⟨hb1,hb2⟩ | ⟨hb1,hb2⟩
 ·rw [hb1] at hB1
  repeat' first | (apply Wl.callQ (f := 31);exact rfl;(focus repeat constructor);(intro wq hq;exact hq.q (hB1 wq))) | refine Wl.move rfl rfl ?_ | refine Wl.assign rfl rfl ?_ | (apply Wl.off;exact rfl;exact rfl;exact rfl;(first | with_reducible rfl | (show _ = false;with_reducible assumption) | (show _ = true;with_reducible assumption) | decide)) | (apply Wl.pickT;exact rfl;exact rfl;(with_reducible first | rfl | assumption | decide);exact rfl) | refine Wl.not rfl rfl ?_ | apply Wl.nil | apply St.seq | apply St.region | (apply St.condT;exact rfl;(with_reducible first | rfl | assumption | decide)) | apply St.ret | apply Gt.next | apply Gt.thenRet | (apply Gt.out1;exact rfl;exact rfl;intro w' hp)
  refine ⟨?_,hp.drop (by simp;omega)⟩
  unfold okS at hb1
  unfold verA
  rw [if_pos]
  by_cases h0 : R = 0
  ·exact .inl h0
  ·rw [decide_eq_true h0,Bool.true_and] at hb1
   exact .inr (.inr (.inl (of_decide_eq_false hb1)))
 ·rw [hb1] at hB1
  rw [hb2] at hB2
  repeat' first | (apply Wl.callQ (f := 31);exact rfl;(focus repeat constructor);(intro wq hq;with_reducible first | refine (hB1 wq).mono ?_ | refine (hB2 wq).mono ?_);(rintro e wr ⟨rfl,hr⟩;exact ⟨rfl,hq.keep hr⟩)) | (apply Wl.loadW;exact rfl;exact rfl;(focus repeat constructor);exact rfl) | refine Wl.move rfl rfl ?_ | refine Wl.assign rfl rfl ?_ | (apply Wl.on;exact rfl;exact rfl;(with_reducible first | rfl | assumption | decide)) | (apply Wl.pickF;exact rfl;exact rfl;(with_reducible first | rfl | assumption | decide);exact rfl) | refine Wl.not rfl rfl ?_ | apply Wl.nil | apply St.seq | apply St.region | (apply St.condT;exact rfl;(with_reducible first | rfl | assumption | decide)) | apply St.ret | apply Gt.next | apply Gt.thenRet | (apply Gt.out1;exact rfl;exact rfl;intro w' hp)
  refine ⟨?_,hp.drop (by simp;omega)⟩
  unfold okS at hb2
  unfold verA
  rw [if_pos]
  by_cases h0 : S = 0
  ·exact .inr (.inl h0)
  ·rw [decide_eq_true h0,Bool.true_and] at hb2
   exact .inr (.inr (.inr (of_decide_eq_false hb2)))
 rw [hb1] at hB1
 rw [hb2] at hB2
 have hRN' : R ≠ 0 ∧ R < Prim.N256 := by
  unfold okS at hb1
  rw [Bool.and_eq_true] at hb1
  exact ⟨of_decide_eq_true hb1.1,of_decide_eq_true hb1.2⟩
 have hSN' : S ≠ 0 ∧ S < Prim.N256 := by
  unfold okS at hb2
  rw [Bool.and_eq_true] at hb2
  exact ⟨of_decide_eq_true hb2.1,of_decide_eq_true hb2.2⟩
 have hAns : verA R S A = if A = none ∨ poX A % Prim.N256 ≠ R then 4 else 0 := by
  unfold verA
  rw [if_neg (by rintro (h | h | h | h);exact hRN'.1 h;exact hSN'.1 h;exact h hRN'.2;exact h hSN'.2)]
 rw [hAns]
 clear hAns hb1 hb2
 repeat' first | (apply Wl.callQ (f := 31);exact rfl;(focus repeat constructor);(intro wq hq;with_reducible first | refine (hB1 wq).mono ?_ | refine (hB2 wq).mono ?_);(rintro e wr ⟨rfl,hr⟩;exact ⟨rfl,hq.keep hr⟩)) | (apply Wl.callQ (f := 33);exact rfl;(focus repeat constructor);(intro wq hq;exact hq.q (curOrder wq))) | (apply Wl.loadW;exact rfl;exact rfl;(focus repeat constructor);exact rfl) | refine Wl.move rfl rfl ?_ | (apply Wl.on;exact rfl;exact rfl;(with_reducible first | rfl | assumption | decide)) | (apply Wl.pickF;exact rfl;exact rfl;(with_reducible first | rfl | assumption | decide);exact rfl) | refine Wl.not rfl rfl ?_ | apply Wl.nil | apply St.seq | apply St.region | (apply St.condF;exact rfl;(with_reducible first | rfl | assumption | decide)) | apply St.skip | apply Gt.next
 apply Wl.callC
 ·exact rfl
 ·repeat constructor
 intro wq hq
 refine (newModN wq).mono ?_
 rintro e w1 ⟨bn,rfl,hbn,hMn,hr1⟩
 have hqr := hq.keep hr1
 have hszq := hq.upd.size
 have l0 := hq.own.lt (.head _)
 have l1 := hq.own.lt (.tail _ (.head _))
 have l2 := hq.own.lt (.tail _ (.tail _ (.head _)))
 simp only at l0 l1 l2
 refine ⟨_,_,rfl,hpRb hqr,?_⟩
 have hu : Upd (fun k => w.heap.size ≤ k) w w1 := hpOn hqr (Upd.refl _ _) (by simp;omega)
 have hnl := hMn.blk
 clear hq hr1 hqr hB1 hB2
 have h0N : 0 < Prim.N256 := by omega
 have h2N : 2 < Prim.N256 := by decide +kernel
 have hK1 : ArrAt w1 0 0 .u32 64 Sha.K := hK.upd hu (by omega)
 have hmW : ∀ {H : List Blk} {wx : World},Hp w1 H wx → (∀ x ∈ H,w.heap.size ≤ x.b) → Bs wx mv m := fun hx hH => hm.upd (hpOn hx hu hH) fun k hk hlt hne hs => by omega
 repeat' first | (apply Wl.callQ (f := 16);exact rfl;(focus repeat constructor);(intro wq hq;refine (shaOf mv m wq (hmW hq (by simp;omega)) (by omega) (fun a k hk => by have := hmv a k hk;have := hq.upd.size;omega) (hK1.upd hq.upd (fun y => y (by (repeat (first | exact trivial | exact hX.off (by omega) | refine ⟨by first | assumption | omega | (simp only;omega),?_⟩)))))).mono ?_;rintro e wr ⟨rfl,hr⟩;exact ⟨rfl,hq.keep hr⟩)) | (apply Wl.allocC (t := 48);exact rfl;exact z32b;intro c hc ho) | (apply Wl.storeW;exact rfl;exact rfl;(focus repeat constructor);exact rfl;(first | exact cellsN_len _ _ _ | exact rfl)) | refine Wl.move rfl rfl ?_ | refine Wl.assign rfl rfl ?_ | refine Wl.extract rfl rfl rfl ?_ | apply Wl.nil | apply St.seq | apply St.region | apply Gt.next
 generalize c = cH at *
 have hcH : w1.heap.size ≤ cH := by assumption
 repeat' first | (apply Wl.sliceAll;exact rfl;exact rfl;(decide);exact rfl) | (apply Wl.callQ (f := 30);exact rfl;(focus repeat constructor);(intro wq hq;have hb : wq.heap[cH]? = _ := hq.own.at (x := ⟨cH,cellsN .u8 32 (Sha.of m),48⟩) (by repeat constructor);exact hq.q (limbRead _ (shaL m) wq (bsSha hb) (shaL_len m)))) | (apply Wl.loadW;exact rfl;exact rfl;(focus repeat constructor);exact rfl) | (apply Wl.storeW;exact rfl;exact rfl;(focus repeat constructor);exact rfl;(first | exact cellsN_len _ _ _ | exact rfl)) | (apply Wl.allocN;exact rfl;(first | exact z8 | exact z16 | exact z17 | exact z33 | exact z10);intro c hc ho) | refine Wl.move rfl rfl ?_ | refine Wl.assign rfl rfl ?_ | refine Wl.extract rfl rfl rfl ?_ | apply Wl.nil | apply St.seq | apply St.region | apply Gt.next
 generalize c = cE at *
 have hcE : w1.heap.size ≤ cE := by assumption
 obtain ⟨E,hE⟩ : ∃ E,E = rdL (shaL m) := ⟨_,rfl⟩
 have hEW : E < W256 := hE ▸ rdL_lt _
 rw [show eN m = E % Prim.N256 by rw [hE];rfl,Nat.mod_mul_mod] at hu1
 rw [← hE]
 have hU1W : U1 < W256 := by rw [← hu1];exact Nat.lt_trans (Nat.mod_lt _ h0N) nW
 have hV1W : V1 < W256 := by rw [← hv1];exact Nat.lt_trans (Nat.mod_lt _ h0N) nW
 obtain ⟨Is,hIs⟩ : ∃ x,x = S * W256 % Prim.N256 := ⟨_,rfl⟩
 obtain ⟨Wv,hWv⟩ : ∃ x,x = pw Prim.N256 Is (Prim.N256 - 2) := ⟨_,rfl⟩
 obtain ⟨Ih,hIh⟩ : ∃ x,x = E * W256 % Prim.N256 := ⟨_,rfl⟩
 obtain ⟨Ir,hIr⟩ : ∃ x,x = R * W256 % Prim.N256 := ⟨_,rfl⟩
 obtain ⟨Th,hTh⟩ : ∃ x,x = Ih * Wv * rinv Prim.N256 % Prim.N256 := ⟨_,rfl⟩
 obtain ⟨Tr,hTr⟩ : ∃ x,x = Ir * Wv * rinv Prim.N256 % Prim.N256 := ⟨_,rfl⟩
 have hIsN : Is < Prim.N256 := hIs ▸ Nat.mod_lt _ h0N
 have hWvN : Wv < Prim.N256 := hWv ▸ pw_lt h0N
 have hIhW : Ih < W256 := hIh ▸ Nat.lt_trans (Nat.mod_lt _ h0N) nW
 have hIrW : Ir < W256 := hIr ▸ Nat.lt_trans (Nat.mod_lt _ h0N) nW
 have hThW : Th < W256 := hTh ▸ Nat.lt_trans (Nat.mod_lt _ h0N) nW
 have hTrW : Tr < W256 := hTr ▸ Nat.lt_trans (Nat.mod_lt _ h0N) nW
 have hOu : Th * rinv Prim.N256 % Prim.N256 = U1 := by rw [hTh,hIh,hWv,hIs,uv_eq n_odd];exact hu1
 have hOv : Tr * rinv Prim.N256 % Prim.N256 = V1 := by rw [hTr,hIr,hWv,hIs,uv_eq n_odd];exact hv1
 have cIs := fun wq h => modIn bn Prim.N256 S wq h hSW
 rw [← hIs] at cIs
 have cWv := fun wq (h : ModV wq bn Prim.N256) => modInv h hIsN nW h2N
 rw [← hWv] at cWv
 have cIh := fun wq h => modIn bn Prim.N256 E wq h hEW
 rw [← hIh] at cIh
 have cIr := fun wq h => modIn bn Prim.N256 R wq h hRW
 rw [← hIr] at cIr
 have cTh := fun wq (h : ModV wq bn Prim.N256) => modTimes' h hIhW hWvN
 rw [← hTh] at cTh
 have cTr := fun wq (h : ModV wq bn Prim.N256) => modTimes' h hIrW hWvN
 rw [← hTr] at cTr
 have cOu := fun wq h => modOut bn Prim.N256 Th wq h hThW
 rw [hOu] at cOu
 have cOv := fun wq h => modOut bn Prim.N256 Tr wq h hTrW
 rw [hOv] at cOv
 clear hIs hWv hIh hIr hTh hTr hOu hOv hu1 hv1
 repeat' first | (apply Wl.callQ (f := 35);exact rfl;(focus repeat constructor);(intro wq hq;refine (cIs wq (hMn.hp hq (by (repeat (first | exact trivial | exact hX.off (by omega) | refine ⟨by first | assumption | omega | (simp only;omega),?_⟩))))).mono ?_;rintro e wr ⟨rfl,hr⟩;exact ⟨rfl,hq.keep hr⟩)) | (apply Wl.callQ (f := 34);exact rfl;(focus repeat constructor);(intro wq hq;refine (cWv wq (hMn.hp hq (by (repeat (first | exact trivial | exact hX.off (by omega) | refine ⟨by first | assumption | omega | (simp only;omega),?_⟩))))).mono ?_;rintro e wr ⟨rfl,hr⟩;exact ⟨rfl,hq.keep hr⟩)) | (apply Wl.storeW;exact rfl;exact rfl;(focus repeat constructor);exact rfl;(first | exact cellsN_len _ _ _ | exact rfl)) | (apply Wl.allocN;exact rfl;(first | exact z8 | exact z16 | exact z17 | exact z33 | exact z10);intro c hc ho) | apply Wl.nil | apply St.seq | apply Gt.next
 generalize c = cW at *
 have hcW : w1.heap.size ≤ cW := by assumption
 repeat' first | (apply St.bagSn 20 [];exact rfl;exact mixed;kernel_rfl) | apply OpsS.nil | (apply OpsS.b;rotate_left;exact rfl;exact rfl) | (apply OpsS.s (j := 16);exact rfl;exact rfl;exact rfl;(intro X f hX hfj;change Wl [_] _ _ _ _ _ _ _;apply Wl.catS;(focus repeat constructor))) | (apply OpsS.s (j := 17);exact rfl;exact rfl;exact rfl;(intro X f hX hfj;change Wl [_] _ _ _ _ _ _ _;apply Wl.catS;(focus repeat constructor))) | (apply OpsS.v;exact rfl;(intro X f hX;change Wl [_] _ _ _ _ _ _ _;apply Wl.catX;(focus repeat constructor))) | (apply Gt.endS;exact fun _ h => h) | (apply Gt.endX;exact rfl) | apply ConS.nil | apply ConS.v | apply ConS.s | (apply ConS.b1;exact rfl) | (apply EndS.new;intro c hc ho) | (apply EndS.off;exact rfl) | apply EndS.st | (apply EndS.nil';apply Gt.catS;(focus repeat constructor)) | (apply Wl.storeAll;exact rfl;exact rfl;(focus repeat constructor);exact cellsN_len _ _ _;exact rfl;exact cellsN_one _ _ _) | (apply Wl.callQ (f := 35);exact rfl;(focus repeat constructor);(intro wq hq;have hMq := hMn.hp hq (by (repeat (first | exact trivial | exact hX.off (by omega) | refine ⟨by first | assumption | omega | (simp only;omega),?_⟩)));with_reducible first | refine (cIh wq hMq).mono ?_ | refine (cIr wq hMq).mono ?_);(rintro e wr ⟨rfl,hr⟩;exact ⟨rfl,hq.keep hr⟩)) | (apply Wl.callQ (f := 37);exact rfl;(focus repeat constructor);(intro wq hq;have hMq := hMn.hp hq (by (repeat (first | exact trivial | exact hX.off (by omega) | refine ⟨by first | assumption | omega | (simp only;omega),?_⟩)));with_reducible first | refine (cTh wq hMq).mono ?_ | refine (cTr wq hMq).mono ?_);(rintro e wr ⟨rfl,hr⟩;exact ⟨rfl,hq.keep hr⟩)) | (apply Wl.callQ (f := 36);exact rfl;(focus repeat constructor);(intro wq hq;have hMq := hMn.hp hq (by (repeat (first | exact trivial | exact hX.off (by omega) | refine ⟨by first | assumption | omega | (simp only;omega),?_⟩)));with_reducible first | refine (cOu wq hMq).mono ?_ | refine (cOv wq hMq).mono ?_);(rintro e wr ⟨rfl,hr⟩;exact ⟨rfl,hq.keep hr⟩)) | (apply Wl.loadW;exact rfl;exact rfl;(focus repeat constructor);exact rfl) | refine Wl.move rfl rfl ?_ | apply Wl.nil | apply St.seq | apply Gt.next
 have hXW := poX_W A
 obtain ⟨T,hT⟩ : ∃ T,T = poX A % Prim.N256 := ⟨_,rfl⟩
 have hTW : T < W256 := by rw [hT];exact Nat.lt_trans (Nat.mod_lt _ h0N) nW
 have hRd := fun wq h => modReduce bn Prim.N256 (poX A) wq h hXW
 rw [← hT] at hRd ⊢
 have hcs2 : (A.isNone = true ∧ A = none) ∨ (A.isNone = false ∧ A ≠ none ∧ T = R) ∨ (A.isNone = false ∧ A ≠ none ∧ T ≠ R) := by
  cases A with
  | none => exact .inl ⟨rfl,rfl⟩
  | some x => exact (Classical.em (T = R)).elim (fun e => .inr (.inl ⟨rfl,by simp,e⟩)) fun e => .inr (.inr ⟨rfl,by simp,e⟩)
 generalize c = cV1 at *
 rename_i cU hcU hoU
 have hcV1 : w1.heap.size ≤ cV1 := by assumption
 clear cIs cWv cIh cIr cTh cTr cOu cOv
 refine St.tree (Hp w1 [⟨cV1,cellsN .u32 8 (dg W32 V1),69⟩,⟨cU,cellsN .u32 8 (dg W32 U1),69⟩,⟨cW,cellsN .u32 8 (dg W32 Wv),69⟩,⟨cE,cellsN .u32 8 (dg W32 E),69⟩,⟨cH,cellsN .u8 32 (Sha.of m),48⟩,⟨cs,cellsN .u32 8 (dg W32 S),69⟩,⟨cr,cellsN .u32 8 (dg W32 R),69⟩,⟨cK,poC XA YA false,71⟩]) mixed (fun _ h => ⟨Hp.drew h,Hp.drew h⟩) ?_
 refine Mt.pure 1 (by decide +kernel) (by exact rfl) (by exact rfl) (by decide +kernel) (by decide +kernel) ?_
 repeat' first | (apply Wl.loadW;exact rfl;exact rfl;(focus repeat constructor);exact rfl) | apply Wl.nilM
 apply Mt.back
 refine Mt.pure 3 (by decide +kernel) (by exact rfl) (by exact rfl) (by decide +kernel) (by decide +kernel) ?_
 repeat' first | (apply Wl.loadW;exact rfl;exact rfl;(focus repeat constructor);exact rfl) | apply Wl.nilM
 apply Mt.back
 refine Mt.pure 4 (by decide +kernel) (by exact rfl) (by exact rfl) (by decide +kernel) (by decide +kernel) ?_
 repeat' first | (apply Wl.loadAH;exact rfl;exact rfl;(focus repeat constructor);(first | exact ptC_x _ _ _ | exact ptC_y _ _ _ | exact ptC_z _ _ _ | exact poC_x _ _ _ | exact poC_y _ _ _ | exact poD_x _ | exact poD_y _ | exact LSub.whole (ptC_len _ _ _) | exact LSub.whole (poC_len _ _ _) | exact LSub.whole (poD_len _))) | apply Wl.nilM
 apply Mt.back
 refine Mt.eff2 (i := 0) (j := 6) (by decide +kernel) (by exact rfl) (by exact rfl) ?_ ?_
 ·apply Wl.callC
  ·exact rfl
  ·repeat constructor
  intro wq hq
  refine (curNew wq).mono ?_
  rintro e wr ⟨k,bm,rfl,hk,hbm,hV,hr⟩
  have hqr := hq.keep hr
  refine ⟨_,_,rfl,hpRb hqr,?_⟩
  have hszq := hq.upd.size
  have hszr := hr.upd.size
  have hall := fun x hx => hq.own.lt (x := x) hx
  simp only [List.mem_cons,List.not_mem_nil,or_false,forall_eq_or_imp,forall_eq] at hall
  have hu2 : Upd (fun k => w.heap.size ≤ k) w wr := hpOn hqr hu (by simp;omega)
  obtain ⟨hkl,hbl⟩ := hV.lt
  have hMr : ModV wr bn Prim.N256 := (hMn.hp hq (by (repeat (first | exact trivial | exact hX.off (by omega) | refine ⟨by first | assumption | omega | (simp only;omega),?_⟩)))).hp hr trivial
  have cTwo := fun wq (hV : CurV wq k bm) => curTwoQ k bm U1 V1 XA YA wq hV hXP hYP hOn hU1W hV1W
  rw [← hA] at cTwo
  clear hq hr
  repeat' first | apply Wl.nil
  refine Mt.backE (fun u h => hpTr hqr h) ?_
  refine Mt.eff2 (i := 2) (j := 6) (by decide +kernel) (by exact rfl) (by exact rfl) ?_ ?_
  ·repeat' first | (apply Wl.callQ (f := 40);exact rfl;(focus repeat constructor);(intro wq hq;exact hq.q (curBase wq))) | apply Wl.nil
   refine Mt.backE (fun u h => hpTr hqr h) ?_
   refine Mt.eff2 (i := 5) (j := 6) (by decide +kernel) (by exact rfl) (by exact rfl) ?_ ?_
   ·repeat' first | (apply Wl.callQ (f := 39);exact rfl;(focus repeat constructor);(intro wq hq;refine (cTwo wq (hV.hp hq (by (repeat (first | exact trivial | exact hX.off (by omega) | refine ⟨by first | assumption | omega | (simp only;omega),?_⟩))) (by (repeat (first | exact trivial | exact hX.off (by omega) | refine ⟨by first | assumption | omega | (simp only;omega),?_⟩))))).mono ?_;rintro e wr ⟨rfl,hr⟩;exact ⟨rfl,hq.keep hr⟩)) | apply Wl.nil
    refine Mt.backE (fun u h => hpTr hqr h) ?_
    refine Mt.eff1 (i := 6) (by decide +kernel) (by exact rfl) ?_
    repeat' first | (apply Wl.allocC (t := 71);exact rfl;exact zPo;intro c hc ho) | apply Wl.nil
    generalize c = cP at *
    have hcc : wr.heap.size ≤ cP := by assumption
    refine Mt.backE (fun u h => hpTr hqr (hpPopS h hcc)) ?_
    refine Mt.eff1 (i := 7) (by decide +kernel) (by exact rfl) ?_
    repeat' first | (apply Wl.storeAll;exact rfl;exact rfl;(focus repeat constructor);(first | exact ptC_len _ _ _ | exact poC_len _ _ _ | exact poD_len _);(first | exact rfl | exact ptC_len _ _ _ | exact poC_len _ _ _ | exact poD_len _);(first | exact ptC_one _ _ _ | exact poC_one _ _ _ | exact poD_one _)) | apply Wl.nil
    refine Mt.backE (fun u h => hpTr hqr (hpPopS h hcc)) ?_
    refine Mt.toGt (by decide +kernel) ?_
    rcases hcs2 with ⟨hA1,hA0⟩ | ⟨hA1,hA0,hTR⟩ | ⟨hA1,hA0,hTR⟩
    all_goals
     repeat' first | (apply St.bagX 10 [9];exact mixed;(decide +kernel);kernel_rfl) | apply OpsX.nil | (apply OpsX.v;(intro X hX;change Wl [_] _ _ _ _ _ _ _;apply Wl.catX;(focus repeat constructor))) | (apply Gt.endX;exact rfl) | (apply EndX.on;exact rfl) | (apply EndX.off;exact rfl) | (apply EndX.nil';apply Wl.catE;(focus repeat constructor)) | (apply Wl.loadAH;exact rfl;exact rfl;(focus repeat constructor);(first | exact ptC_x _ _ _ | exact ptC_y _ _ _ | exact ptC_z _ _ _ | exact poC_x _ _ _ | exact poC_y _ _ _ | exact poD_x _ | exact poD_y _ | exact LSub.whole (ptC_len _ _ _) | exact LSub.whole (poC_len _ _ _) | exact LSub.whole (poD_len _))) | (apply Wl.loadH;exact rfl;exact rfl;(focus repeat constructor);(first | exact poC_n _ _ _ | exact poD_n _)) | (apply Wl.callQ (f := 41);exact rfl;(focus repeat constructor);(intro wq hq;refine (hRd wq (hMr.hp hq (by (repeat (first | exact trivial | exact hX.off (by omega) | refine ⟨by first | assumption | omega | (simp only;omega),?_⟩))))).mono ?_;rintro e wr ⟨rfl,hr⟩;exact ⟨rfl,hq.keep hr⟩)) | (apply Wl.neqA (t := 69);exact rfl;exact rfl;exact rfl;kernel_rfl;kernel_rfl;kernel_rfl;kernel_rfl;exact cell32 _ (dlt _);exact cell32 _ (dlt _);(first | with_reducible exact ne8 hTW hRW hTR | with_reducible exact eq8 hTR)) | (apply Wl.loadW;exact rfl;exact rfl;(focus repeat constructor);exact rfl) | refine Wl.move rfl rfl ?_ | refine Wl.assign rfl rfl ?_ | (apply Wl.on;exact rfl;exact rfl;(with_reducible first | rfl | assumption | decide)) | (apply Wl.off;exact rfl;exact rfl;exact rfl;(first | with_reducible rfl | (show _ = false;with_reducible assumption) | (show _ = true;with_reducible assumption) | decide)) | (apply Wl.pickT;exact rfl;exact rfl;(with_reducible first | rfl | assumption | decide);exact rfl) | (apply Wl.pickF;exact rfl;exact rfl;(with_reducible first | rfl | assumption | decide);exact rfl) | refine Wl.fieldAddr0 rfl rfl ?_ | refine Wl.fieldAddrZ rfl rfl ?_ | apply Wl.nil | apply St.seq | apply St.region | (apply St.condT;exact rfl;(with_reducible first | rfl | assumption | decide)) | (apply St.condF;exact rfl;(with_reducible first | rfl | assumption | decide)) | apply St.ret | apply St.skip | apply Gt.next | apply Gt.thenRet | (apply Gt.out1;exact rfl;exact rfl;intro w' hp)
    ·exact ⟨by rw [if_pos (.inl hA0)],hpFin hp hu2 (by simp;omega)⟩
    ·exact ⟨by rw [if_neg (by rintro (h | h);exact hA0 h;exact h hTR)],hpFin hp hu2 (by simp;omega)⟩
    ·exact ⟨by rw [if_pos (.inr hTR)],hpFin hp hu2 (by simp;omega)⟩
   ·repeat' first | (apply Wl.allocC (t := 71);exact rfl;exact zPo;intro c hc ho) | apply Wl.nil
    generalize c = cP at *
    have hcc : wr.heap.size ≤ cP := by assumption
    refine Mt.backE (fun u h => hpTr hqr (hpPopS h hcc)) ?_
    refine Mt.eff1 (i := 5) (by decide +kernel) (by exact rfl) ?_
    repeat' first | (apply Wl.callQ (f := 39);exact rfl;(focus repeat constructor);(intro wq hq;refine (cTwo wq (hV.hp hq (by (repeat (first | exact trivial | exact hX.off (by omega) | refine ⟨by first | assumption | omega | (simp only;omega),?_⟩))) (by (repeat (first | exact trivial | exact hX.off (by omega) | refine ⟨by first | assumption | omega | (simp only;omega),?_⟩))))).mono ?_;rintro e wr ⟨rfl,hr⟩;exact ⟨rfl,hq.keep hr⟩)) | apply Wl.nil
    refine Mt.backE (fun u h => hpTr hqr (hpPopS h hcc)) ?_
    refine Mt.eff1 (i := 7) (by decide +kernel) (by exact rfl) ?_
    repeat' first | (apply Wl.storeAll;exact rfl;exact rfl;(focus repeat constructor);(first | exact ptC_len _ _ _ | exact poC_len _ _ _ | exact poD_len _);(first | exact rfl | exact ptC_len _ _ _ | exact poC_len _ _ _ | exact poD_len _);(first | exact ptC_one _ _ _ | exact poC_one _ _ _ | exact poD_one _)) | apply Wl.nil
    refine Mt.backE (fun u h => hpTr hqr (hpPopS h hcc)) ?_
    refine Mt.toGt (by decide +kernel) ?_
    rcases hcs2 with ⟨hA1,hA0⟩ | ⟨hA1,hA0,hTR⟩ | ⟨hA1,hA0,hTR⟩
    all_goals
     repeat' first | (apply St.bagX 10 [9];exact mixed;(decide +kernel);kernel_rfl) | apply OpsX.nil | (apply OpsX.v;(intro X hX;change Wl [_] _ _ _ _ _ _ _;apply Wl.catX;(focus repeat constructor))) | (apply Gt.endX;exact rfl) | (apply EndX.on;exact rfl) | (apply EndX.off;exact rfl) | (apply EndX.nil';apply Wl.catE;(focus repeat constructor)) | (apply Wl.loadAH;exact rfl;exact rfl;(focus repeat constructor);(first | exact ptC_x _ _ _ | exact ptC_y _ _ _ | exact ptC_z _ _ _ | exact poC_x _ _ _ | exact poC_y _ _ _ | exact poD_x _ | exact poD_y _ | exact LSub.whole (ptC_len _ _ _) | exact LSub.whole (poC_len _ _ _) | exact LSub.whole (poD_len _))) | (apply Wl.loadH;exact rfl;exact rfl;(focus repeat constructor);(first | exact poC_n _ _ _ | exact poD_n _)) | (apply Wl.callQ (f := 41);exact rfl;(focus repeat constructor);(intro wq hq;refine (hRd wq (hMr.hp hq (by (repeat (first | exact trivial | exact hX.off (by omega) | refine ⟨by first | assumption | omega | (simp only;omega),?_⟩))))).mono ?_;rintro e wr ⟨rfl,hr⟩;exact ⟨rfl,hq.keep hr⟩)) | (apply Wl.neqA (t := 69);exact rfl;exact rfl;exact rfl;kernel_rfl;kernel_rfl;kernel_rfl;kernel_rfl;exact cell32 _ (dlt _);exact cell32 _ (dlt _);(first | with_reducible exact ne8 hTW hRW hTR | with_reducible exact eq8 hTR)) | (apply Wl.loadW;exact rfl;exact rfl;(focus repeat constructor);exact rfl) | refine Wl.move rfl rfl ?_ | refine Wl.assign rfl rfl ?_ | (apply Wl.on;exact rfl;exact rfl;(with_reducible first | rfl | assumption | decide)) | (apply Wl.off;exact rfl;exact rfl;exact rfl;(first | with_reducible rfl | (show _ = false;with_reducible assumption) | (show _ = true;with_reducible assumption) | decide)) | (apply Wl.pickT;exact rfl;exact rfl;(with_reducible first | rfl | assumption | decide);exact rfl) | (apply Wl.pickF;exact rfl;exact rfl;(with_reducible first | rfl | assumption | decide);exact rfl) | refine Wl.fieldAddr0 rfl rfl ?_ | refine Wl.fieldAddrZ rfl rfl ?_ | apply Wl.nil | apply St.seq | apply St.region | (apply St.condT;exact rfl;(with_reducible first | rfl | assumption | decide)) | (apply St.condF;exact rfl;(with_reducible first | rfl | assumption | decide)) | apply St.ret | apply St.skip | apply Gt.next | apply Gt.thenRet | (apply Gt.out1;exact rfl;exact rfl;intro w' hp)
    ·exact ⟨by rw [if_pos (.inl hA0)],hpFin hp hu2 (by simp;omega)⟩
    ·exact ⟨by rw [if_neg (by rintro (h | h);exact hA0 h;exact h hTR)],hpFin hp hu2 (by simp;omega)⟩
    ·exact ⟨by rw [if_pos (.inr hTR)],hpFin hp hu2 (by simp;omega)⟩
  ·repeat' first | (apply Wl.allocC (t := 71);exact rfl;exact zPo;intro c hc ho) | apply Wl.nil
   generalize c = cP at *
   have hcc : wr.heap.size ≤ cP := by assumption
   refine Mt.backE (fun u h => hpTr hqr (hpPopS h hcc)) ?_
   refine Mt.eff1 (i := 2) (by decide +kernel) (by exact rfl) ?_
   repeat' first | (apply Wl.callQ (f := 40);exact rfl;(focus repeat constructor);(intro wq hq;exact hq.q (curBase wq))) | apply Wl.nil
   refine Mt.backE (fun u h => hpTr hqr (hpPopS h hcc)) ?_
   refine Mt.eff1 (i := 5) (by decide +kernel) (by exact rfl) ?_
   repeat' first | (apply Wl.callQ (f := 39);exact rfl;(focus repeat constructor);(intro wq hq;refine (cTwo wq (hV.hp hq (by (repeat (first | exact trivial | exact hX.off (by omega) | refine ⟨by first | assumption | omega | (simp only;omega),?_⟩))) (by (repeat (first | exact trivial | exact hX.off (by omega) | refine ⟨by first | assumption | omega | (simp only;omega),?_⟩))))).mono ?_;rintro e wr ⟨rfl,hr⟩;exact ⟨rfl,hq.keep hr⟩)) | apply Wl.nil
   refine Mt.backE (fun u h => hpTr hqr (hpPopS h hcc)) ?_
   refine Mt.eff1 (i := 7) (by decide +kernel) (by exact rfl) ?_
   repeat' first | (apply Wl.storeAll;exact rfl;exact rfl;(focus repeat constructor);(first | exact ptC_len _ _ _ | exact poC_len _ _ _ | exact poD_len _);(first | exact rfl | exact ptC_len _ _ _ | exact poC_len _ _ _ | exact poD_len _);(first | exact ptC_one _ _ _ | exact poC_one _ _ _ | exact poD_one _)) | apply Wl.nil
   refine Mt.backE (fun u h => hpTr hqr (hpPopS h hcc)) ?_
   refine Mt.toGt (by decide +kernel) ?_
   rcases hcs2 with ⟨hA1,hA0⟩ | ⟨hA1,hA0,hTR⟩ | ⟨hA1,hA0,hTR⟩
   all_goals
    repeat' first | (apply St.bagX 10 [9];exact mixed;(decide +kernel);kernel_rfl) | apply OpsX.nil | (apply OpsX.v;(intro X hX;change Wl [_] _ _ _ _ _ _ _;apply Wl.catX;(focus repeat constructor))) | (apply Gt.endX;exact rfl) | (apply EndX.on;exact rfl) | (apply EndX.off;exact rfl) | (apply EndX.nil';apply Wl.catE;(focus repeat constructor)) | (apply Wl.loadAH;exact rfl;exact rfl;(focus repeat constructor);(first | exact ptC_x _ _ _ | exact ptC_y _ _ _ | exact ptC_z _ _ _ | exact poC_x _ _ _ | exact poC_y _ _ _ | exact poD_x _ | exact poD_y _ | exact LSub.whole (ptC_len _ _ _) | exact LSub.whole (poC_len _ _ _) | exact LSub.whole (poD_len _))) | (apply Wl.loadH;exact rfl;exact rfl;(focus repeat constructor);(first | exact poC_n _ _ _ | exact poD_n _)) | (apply Wl.callQ (f := 41);exact rfl;(focus repeat constructor);(intro wq hq;refine (hRd wq (hMr.hp hq (by (repeat (first | exact trivial | exact hX.off (by omega) | refine ⟨by first | assumption | omega | (simp only;omega),?_⟩))))).mono ?_;rintro e wr ⟨rfl,hr⟩;exact ⟨rfl,hq.keep hr⟩)) | (apply Wl.neqA (t := 69);exact rfl;exact rfl;exact rfl;kernel_rfl;kernel_rfl;kernel_rfl;kernel_rfl;exact cell32 _ (dlt _);exact cell32 _ (dlt _);(first | with_reducible exact ne8 hTW hRW hTR | with_reducible exact eq8 hTR)) | (apply Wl.loadW;exact rfl;exact rfl;(focus repeat constructor);exact rfl) | refine Wl.move rfl rfl ?_ | refine Wl.assign rfl rfl ?_ | (apply Wl.on;exact rfl;exact rfl;(with_reducible first | rfl | assumption | decide)) | (apply Wl.off;exact rfl;exact rfl;exact rfl;(first | with_reducible rfl | (show _ = false;with_reducible assumption) | (show _ = true;with_reducible assumption) | decide)) | (apply Wl.pickT;exact rfl;exact rfl;(with_reducible first | rfl | assumption | decide);exact rfl) | (apply Wl.pickF;exact rfl;exact rfl;(with_reducible first | rfl | assumption | decide);exact rfl) | refine Wl.fieldAddr0 rfl rfl ?_ | refine Wl.fieldAddrZ rfl rfl ?_ | apply Wl.nil | apply St.seq | apply St.region | (apply St.condT;exact rfl;(with_reducible first | rfl | assumption | decide)) | (apply St.condF;exact rfl;(with_reducible first | rfl | assumption | decide)) | apply St.ret | apply St.skip | apply Gt.next | apply Gt.thenRet | (apply Gt.out1;exact rfl;exact rfl;intro w' hp)
   ·exact ⟨by rw [if_pos (.inl hA0)],hpFin hp hu2 (by simp;omega)⟩
   ·exact ⟨by rw [if_neg (by rintro (h | h);exact hA0 h;exact h hTR)],hpFin hp hu2 (by simp;omega)⟩
   ·exact ⟨by rw [if_pos (.inr hTR)],hpFin hp hu2 (by simp;omega)⟩
 ·repeat' first | (apply Wl.allocC (t := 71);exact rfl;exact zPo;intro c hc ho) | apply Wl.nil
  generalize c = cP at *
  have hcc : w1.heap.size ≤ cP := by assumption
  refine Mt.backE (fun u h => hpPopS h hcc) ?_
  refine Mt.eff1 (i := 0) (by decide +kernel) (by exact rfl) ?_
  apply Wl.callC
  ·exact rfl
  ·repeat constructor
  intro wq hq
  refine (curNew wq).mono ?_
  rintro e wr ⟨k,bm,rfl,hk,hbm,hV,hr⟩
  have hqr := hq.keep hr
  refine ⟨_,_,rfl,hpRb hqr,?_⟩
  have hszq := hq.upd.size
  have hszr := hr.upd.size
  have hall := fun x hx => hq.own.lt (x := x) hx
  simp only [List.mem_cons,List.not_mem_nil,or_false,forall_eq_or_imp,forall_eq] at hall
  have hu2 : Upd (fun k => w.heap.size ≤ k) w wr := hpOn hqr hu (by simp;omega)
  obtain ⟨hkl,hbl⟩ := hV.lt
  have hMr : ModV wr bn Prim.N256 := (hMn.hp hq (by (repeat (first | exact trivial | exact hX.off (by omega) | refine ⟨by first | assumption | omega | (simp only;omega),?_⟩)))).hp hr trivial
  have cTwo := fun wq (hV : CurV wq k bm) => curTwoQ k bm U1 V1 XA YA wq hV hXP hYP hOn hU1W hV1W
  rw [← hA] at cTwo
  clear hq hr
  repeat' first | apply Wl.nil
  refine Mt.backE (fun u h => hpPopS (hpTr hqr h) hcc) ?_
  refine Mt.eff1 (i := 2) (by decide +kernel) (by exact rfl) ?_
  repeat' first | (apply Wl.callQ (f := 40);exact rfl;(focus repeat constructor);(intro wq hq;exact hq.q (curBase wq))) | apply Wl.nil
  refine Mt.backE (fun u h => hpPopS (hpTr hqr h) hcc) ?_
  refine Mt.eff1 (i := 5) (by decide +kernel) (by exact rfl) ?_
  repeat' first | (apply Wl.callQ (f := 39);exact rfl;(focus repeat constructor);(intro wq hq;refine (cTwo wq (hV.hp hq (by (repeat (first | exact trivial | exact hX.off (by omega) | refine ⟨by first | assumption | omega | (simp only;omega),?_⟩))) (by (repeat (first | exact trivial | exact hX.off (by omega) | refine ⟨by first | assumption | omega | (simp only;omega),?_⟩))))).mono ?_;rintro e wr ⟨rfl,hr⟩;exact ⟨rfl,hq.keep hr⟩)) | apply Wl.nil
  refine Mt.backE (fun u h => hpPopS (hpTr hqr h) hcc) ?_
  refine Mt.eff1 (i := 7) (by decide +kernel) (by exact rfl) ?_
  repeat' first | (apply Wl.storeAll;exact rfl;exact rfl;(focus repeat constructor);(first | exact ptC_len _ _ _ | exact poC_len _ _ _ | exact poD_len _);(first | exact rfl | exact ptC_len _ _ _ | exact poC_len _ _ _ | exact poD_len _);(first | exact ptC_one _ _ _ | exact poC_one _ _ _ | exact poD_one _)) | apply Wl.nil
  refine Mt.backE (fun u h => hpTrS (c := cP) hqr h hcc) ?_
  refine Mt.toGt (by decide +kernel) ?_
  rcases hcs2 with ⟨hA1,hA0⟩ | ⟨hA1,hA0,hTR⟩ | ⟨hA1,hA0,hTR⟩
  all_goals
   repeat' first | (apply St.bagX 10 [9];exact mixed;(decide +kernel);kernel_rfl) | apply OpsX.nil | (apply OpsX.v;(intro X hX;change Wl [_] _ _ _ _ _ _ _;apply Wl.catX;(focus repeat constructor))) | (apply Gt.endX;exact rfl) | (apply EndX.on;exact rfl) | (apply EndX.off;exact rfl) | (apply EndX.nil';apply Wl.catE;(focus repeat constructor)) | (apply Wl.loadAH;exact rfl;exact rfl;(focus repeat constructor);(first | exact ptC_x _ _ _ | exact ptC_y _ _ _ | exact ptC_z _ _ _ | exact poC_x _ _ _ | exact poC_y _ _ _ | exact poD_x _ | exact poD_y _ | exact LSub.whole (ptC_len _ _ _) | exact LSub.whole (poC_len _ _ _) | exact LSub.whole (poD_len _))) | (apply Wl.loadH;exact rfl;exact rfl;(focus repeat constructor);(first | exact poC_n _ _ _ | exact poD_n _)) | (apply Wl.callQ (f := 41);exact rfl;(focus repeat constructor);(intro wq hq;refine (hRd wq (hMr.hp hq (by (repeat (first | exact trivial | exact hX.off (by omega) | refine ⟨by first | assumption | omega | (simp only;omega),?_⟩))))).mono ?_;rintro e wr ⟨rfl,hr⟩;exact ⟨rfl,hq.keep hr⟩)) | (apply Wl.neqA (t := 69);exact rfl;exact rfl;exact rfl;kernel_rfl;kernel_rfl;kernel_rfl;kernel_rfl;exact cell32 _ (dlt _);exact cell32 _ (dlt _);(first | with_reducible exact ne8 hTW hRW hTR | with_reducible exact eq8 hTR)) | (apply Wl.loadW;exact rfl;exact rfl;(focus repeat constructor);exact rfl) | refine Wl.move rfl rfl ?_ | refine Wl.assign rfl rfl ?_ | (apply Wl.on;exact rfl;exact rfl;(with_reducible first | rfl | assumption | decide)) | (apply Wl.off;exact rfl;exact rfl;exact rfl;(first | with_reducible rfl | (show _ = false;with_reducible assumption) | (show _ = true;with_reducible assumption) | decide)) | (apply Wl.pickT;exact rfl;exact rfl;(with_reducible first | rfl | assumption | decide);exact rfl) | (apply Wl.pickF;exact rfl;exact rfl;(with_reducible first | rfl | assumption | decide);exact rfl) | refine Wl.fieldAddr0 rfl rfl ?_ | refine Wl.fieldAddrZ rfl rfl ?_ | apply Wl.nil | apply St.seq | apply St.region | (apply St.condT;exact rfl;(with_reducible first | rfl | assumption | decide)) | (apply St.condF;exact rfl;(with_reducible first | rfl | assumption | decide)) | apply St.ret | apply St.skip | apply Gt.next | apply Gt.thenRet | (apply Gt.out1;exact rfl;exact rfl;intro w' hp)
  ·exact ⟨by rw [if_pos (.inl hA0)],hpFin hp hu2 (by simp;omega)⟩
  ·exact ⟨by rw [if_neg (by rintro (h | h);exact hA0 h;exact h hTR)],hpFin hp hu2 (by simp;omega)⟩
  ·exact ⟨by rw [if_pos (.inr hTR)],hpFin hp hu2 (by simp;omega)⟩
end Go.Proofs.YtmjlceimjlabpaaDoor
end
section
namespace Go.Pt
theorem Bs.oldB {w : World} {v : Value} {l : List UInt8} (h : Bs w v l) (hne : l ≠ []) : ∀ k,v.ownBlock = some k → k < w.heap.size := by
 obtain ⟨a,cap,rfl,_,_⟩ := h.shape
 obtain ⟨ab,off,rfl,hcell⟩ := h.cells hne
 intro k hk
 cases hk
 exact World.block_lt_of_cell? w _ (hcell 0 (List.length_pos_iff.2 hne))
end Go.Pt
namespace Go.Proofs.YtmjlceimjlabpaaDoor
open Go.RowKit Go.Pt
attribute [local irreducible] Prim.P256 Prim.N256
theorem verBoth (l m g : List UInt8) (hmn : m.length < 100000000) : ∃ a : Int,
  (∀ kv mv gv w,ArrAt w 0 0 .u32 64 Sha.K → Bs w kv l → Bs w mv m → Bs w gv g → Calls Tryd.prog 15 #[kv,mv,gv] w fun e w' => e = .returned (.int .i64 a) ∧ Hp w [] w') ∧
  (∀ kv mv gv w,Bs w kv l → Bs w mv m → Bs w gv g → Calls Tryd.prog 21 #[kv,mv,gv] w fun e w' => e = .returned (.int .i64 a) ∧ Hp w [] w') ∧ (a = 0 ∨ a = 4 ∨ a = 5) := by
 by_cases hk : keyNo l
 ·exact ⟨5,fun kv mv gv w _ hv _ _ => signVer5 kv mv gv l w hv (fun hne k hk => hv.oldB hne k hk) hk,fun kv mv gv w hv _ _ => refVer5 kv mv gv l w hv hk,.inr (.inr rfl)⟩
 have hl : l.length = 64 := Classical.byContradiction fun h => hk (.inl h)
 have hne : l ≠ [] := fun e => by subst e;cases hl
 have hon : onB (rdL (l.take 32)) (rdL (l.drop 32)) = true := by
  cases h : onB (rdL (l.take 32)) (rdL (l.drop 32))
  ·exact absurd (.inr h) hk
  ·rfl
 by_cases hgl : g.length = 64
 ·obtain ⟨U1,hu1⟩ : ∃ U1,eN m * pwm Prim.N256 (rdL (g.drop 32)) (Prim.N256 - 2) % Prim.N256 = U1 := ⟨_,rfl⟩
  obtain ⟨V1,hv1⟩ : ∃ V1,rdL (g.take 32) * pwm Prim.N256 (rdL (g.drop 32)) (Prim.N256 - 2) % Prim.N256 = V1 := ⟨_,rfl⟩
  obtain ⟨A,hA⟩ : ∃ A,A = add3 (sm3 U1 (some curG)) (sm3 V1 (some (nF (rdL (l.take 32)),nF (rdL (l.drop 32))))) := ⟨_,rfl⟩
  have hP := fun kv mv gv w hK hv hm hg => signVerM kv mv gv l m g w hK hv (hv.oldB hne) hl hon hm hmn (fun h => hm.oldB h) hg hgl U1 V1 A hu1 hv1 hA
  have hR := fun kv mv gv w hv hm hg => refVerM kv mv gv l m g w hv hl hon hm hmn (fun h => hm.oldB h) hg hgl U1 V1 A hu1 hv1 hA
  have h3 : verA (rdL (g.take 32)) (rdL (g.drop 32)) A = 0 ∨ verA (rdL (g.take 32)) (rdL (g.drop 32)) A = 4 := by
   unfold verA
   split
   ·exact .inr rfl
   ·split
    ·exact .inr rfl
    ·exact .inl rfl
  clear hu1 hv1 hA
  generalize verA (rdL (g.take 32)) (rdL (g.drop 32)) A = a at *
  exact ⟨a,hP,hR,h3.elim .inl fun h => .inr (.inl h)⟩
 ·exact ⟨4,fun kv mv gv w _ hv _ hg => signVer4 kv mv gv l g w hv (hv.oldB hne) hl hon hg hgl,fun kv mv gv w hv _ hg => refVer4 kv mv gv l g w hv hl hon hg hgl,.inr (.inl rfl)⟩
end Go.Proofs.YtmjlceimjlabpaaDoor
end
section
namespace Go.Pt
open Go.RowKit
theorem fzF {β : Type} (w : World) (a : Addr) (n : Nat) (g : World → β) (hg : ∀ (w : World) (h : Array Obj),g { w with heap := h } = g w) : g (w.freeze a n) = g w := by
 unfold World.freeze
 split
 ·rfl
 ·exact hg _ _
theorem bytesWorld_upd (w : World) (e : TypeId) (s : ByteArray) : Upd (fun _ => False) w (Go.Lib.bytesWorld w e s) :=
 ⟨fzF _ _ _ (·.os) fun _ _ => rfl,fzF _ _ _ (·.tape) fun _ _ => rfl,fzF _ _ _ (·.output) fun _ _ => rfl,by rw [Go.Lib.bytesWorld_size];omega,fun k hk _ => Go.Lib.bytesWorld_at_old w e s k hk⟩
theorem Wl.convSB {P : Program} {N : Nat} {ops : Array Oper} {rest : List Oper} {Γ : Env} {Q : Exit → Act → World → Prop} {d e : Nat} {ty : TypeId} {pos : String} {af : Array Edge} {s t : TypeId} {x : Operand} {b : ByteArray} {w0 : World} {H : List Blk} [hs : TyD P s .string] [ht : TyD P t (.slice e)] [he : TyD P e (.int .u8)] (hd : Nat.blt d N = true)
  (hx : ev Γ x = some (.string b)) (hm : b.size ≤ 140737488355328)
  (h : ∀ v w1,Bs w1 v b.data.toList → Upd (fun k => ¬ Off H k) w0 w1 → (∀ k,v.ownBlock = some k → w0.heap.size ≤ k ∧ Off H k ∧ k < w1.heap.size) → Wl rest P .seq ops N ((d,v) :: Γ) (Hp w1 H) Q) :
  Wl (⟨some d,.convert s t x,ty,pos,af,none⟩ :: rest) P .seq ops N Γ (Hp w0 H) Q :=
 Wl.eff fun a w ha hw => by
  have u := bytesWorld_upd w e b
  have hown : Own (Go.Lib.bytesWorld w e b) H := hw.own.upd u fun y hy hk => hk
  have hlen : b.data.toList.length = b.size := Array.length_toList
  have hge := grownCap_ge w b.size 0 e
  have hcm : grownCap w b.size 0 e ≤ maxLen := grownCap_le_maxLen w b.size 0 e (by unfold maxLen;omega)
  have hbs : Bs (Go.Lib.bytesWorld w e b) (.slice (some ⟨w.heap.size,0,none⟩) b.size (grownCap w b.size 0 e)) b.data.toList := by
   refine ⟨by rw [byteCells_length,Nat.mul_one],some ⟨w.heap.size,0,none⟩,grownCap w b.size 0 e,by rw [hlen],by rw [hlen];exact hge,hcm,fun h => (by cases h),fun _ => ⟨w.heap.size,0,rfl,fun i hi => ?_⟩⟩
   rw [byteCells_length,hlen] at hi
   rw [Nat.zero_add,Go.Lib.bytesWorld_cell w e b i hi]
   simp [byteCells,List.getD,hlen,hi]
  refine ⟨_,_,.inl ?_,(h _ _ hbs ((hw.upd).trans (u.mono fun _ _ y => y.elim)) fun k hk => ?_).elim _ _ (ha.put hd _) ⟨Upd.refl _ _,hown,hw.apart⟩⟩
  ·simp only [execOp,ha.ev hx]
   simp [Go.Lib.run_convert_string_bytes (P := P) w s t e b hs.out ht.out he.out]
  ·have hk' : w.heap.size = k := Option.some.inj hk
   exact ⟨by have := hw.upd.size;omega,Off.of fun y hy e' => by have := hw.own.lt hy;omega,by rw [Go.Lib.bytesWorld_size];omega⟩
end Go.Pt
end
section
namespace Go.Proofs.YtmjlceimjlabpaaDoor
open Go.RowKit Go.Pt
set_option maxHeartbeats 4000000 in
theorem rdecode_any (v : Value) (f : List UInt8) (w : World) (hv : Bs w v f) (h3 : f.length ≤ 40000) :
  Calls Tryd.prog 20 #[v] w (DecPost f w) := by
 obtain ⟨a,cap,rfl,hlc,hm⟩ := hv.shape
 unfold maxLen at hm
 refine enter (args := [_]) (Γ := [(0,_)]) Tryd.func20 Tryd.ntmps20 rfl (of_decide_eq_true rfl) (.cons rfl .nil) ?_
 repeat' first | refine Wl.move rfl rfl ?_ | refine Wl.assign rfl rfl ?_ | (apply Wl.buildS;exact rfl;(repeat (first | exact Parts.nil | apply Parts.cons rfl));(repeat (first | apply Fills.nil | (apply Fills.one;exact rfl;exact rfl;(repeat (first | apply LSet.z | apply LSet.s))) | (apply Fills.agg;exact rfl;exact rfl;(repeat (first | apply LPut.s | apply LPut.z | apply LOver.nil | apply LOver.cons)))))) | (apply Wl.boxA;exact rfl;exact rfl;intro c hc ho) | (apply Wl.alloc;exact rfl;intro c hc ho) | apply Wl.nil | apply St.seq | apply St.region | apply Gt.next
 rename_i c2 hc2 ho2
 generalize c = c5 at *
 have hc5 : w.heap.size ≤ c5 := hc
 have hbw (wq : World) (H : List Blk) (hq : Hp w H wq) (hH : ∀ x ∈ H,w.heap.size ≤ x.b) : Bs wq (.slice a f.length cap) f := hv.upd hq.upd fun j _ hj _ hno => hno (Off.of fun x hx e => by have := hH x hx;omega)
 have hr0 : RefAt f 0 0 := ⟨Nat.zero_le _,fun _ => rfl⟩
 apply Wl.callC
 exact rfl
 (focus repeat constructor)
 intro wq hq
 refine (rtake_pos c5 (.slice a f.length cap) f 0 0 8 wq (hq.own.at (.head _)) (hbw _ _ hq (by simp;omega)) hr0).mono ?_
 rintro e wr ⟨x1,p1,rfl,hp,hp1,hx1⟩
 refine ⟨_,_,rfl,hq.callSet (by repeat constructor) hp,?_⟩
 clear hp hq wq wr
 apply Wl.convBS
 ·exact rfl
 ·exact rfl
 ·exact fun u hu => hx1 u (hbw u _ hu (by simp;omega))
 repeat' first | refine Wl.move rfl rfl ?_ | refine Wl.assign rfl rfl ?_ | apply Wl.nil | apply St.seq | apply St.region | apply Gt.next
 have m13 := num1 f 13
 have m12 := num1 f 12
 have m8 := num4 f 8
 have m14 := num2 f 14
 apply Wl.callC
 exact rfl
 (focus repeat constructor)
 intro wq hq
 refine (rnum_pos c5 (.slice a f.length cap) f 8 p1 4 (by decide) wq (hq.own.at (.head _)) (hbw _ _ hq (by simp;omega)) hp1).mono ?_
 rintro e wr ⟨p2,rfl,hp,hp2⟩
 refine ⟨_,_,rfl,hq.callSet (by repeat constructor) hp,?_⟩
 clear hp hq wq wr
 repeat' first | refine Wl.move rfl rfl ?_ | (refine Wl.convU32 rfl rfl ?_ ?_;constructor <;> omega) | (apply Wl.storeA;exact rfl;exact rfl;exact rfl;exact rfl;(focus repeat constructor);(repeat (first | apply LPut.s | apply LPut.z | apply LOver.nil | apply LOver.cons))) | (apply Wl.buildS;exact rfl;(repeat (first | exact Parts.nil | apply Parts.cons rfl));(repeat (first | apply Fills.nil | (apply Fills.one;exact rfl;exact rfl;(repeat (first | apply LSet.z | apply LSet.s))) | (apply Fills.agg;exact rfl;exact rfl;(repeat (first | apply LPut.s | apply LPut.z | apply LOver.nil | apply LOver.cons)))))) | (apply Wl.alloc;exact rfl;intro c hc ho) | apply Wl.nil | apply St.seq | apply St.region | apply Gt.next
 generalize c = c4 at *
 have hc4 : w.heap.size ≤ c4 := hc
 apply Wl.callC
 exact rfl
 (focus repeat constructor)
 intro wq hq
 refine (rnum_pos c5 (.slice a f.length cap) f 12 p2 1 (by decide) wq (hq.own.at (.tail _ (.head _))) (hbw _ _ hq (by simp;omega)) hp2).mono ?_
 rintro e wr ⟨p3,rfl,hp,hp3⟩
 refine ⟨_,_,rfl,hq.callSet (by repeat constructor) hp,?_⟩
 clear hp hq wq wr
 repeat' first | refine Wl.move rfl rfl ?_ | refine Wl.fieldAddrZ rfl rfl ?_ | (apply Wl.store;exact rfl;exact rfl;exact rfl;(focus repeat constructor);(repeat (first | apply LSet.z | apply LSet.s))) | apply Wl.nil | apply St.seq | apply St.region | apply Gt.next
 apply Wl.callC
 exact rfl
 (focus repeat constructor)
 intro wq hq
 refine (rnum_pos c5 (.slice a f.length cap) f 13 p3 1 (by decide) wq (hq.own.at (.tail _ (.head _))) (hbw _ _ hq (by simp;omega)) hp3).mono ?_
 rintro e wr ⟨p4,rfl,hp,hp4⟩
 refine ⟨_,_,rfl,hq.callSet (by repeat constructor) hp,?_⟩
 clear hp hq wq wr
 repeat' first | refine Wl.assign rfl rfl ?_ | apply Wl.nil | apply Gt.next
 refine St.cut (σ := Bool × Nat × Nat) (fun τ => (τ.1 = true → RefAt f 16 τ.2.1 ∧ τ.2.2 = 16 ∧ part f 0 8 = manMark ∧ num f 14 2 = 0 ∧ num f 13 1 ≤ 4) ∧ (τ.1 = false → decM f = none))
  (fun τ => [(2,.pointer (some ⟨c2,0,none⟩)),(4,.pointer (some ⟨c5,0,none⟩)),(6,.pointer (some ⟨c4,0,none⟩)),(7,.int .i64 (num f 13 1)),(8,.bool τ.1)])
  (fun τ => Hp w [⟨c4,[.int .u32 (num f 8 4),.int .i64 (num f 12 1),.slice none 0 0],28⟩,⟨c5,[.slice a f.length cap,.int .i64 τ.2.1,.bool (decide (f.length < τ.2.2))],55⟩,⟨c2,[.int .u32 0,.int .i64 0,.slice none 0 0],28⟩]) ?_ ?_
 ·repeat' first | refine Wl.move rfl rfl ?_ | refine Wl.assign rfl rfl ?_ | (apply Wl.on;exact rfl;exact rfl;(with_reducible first | rfl | assumption | decide)) | (apply Wl.off;exact rfl;exact rfl;exact rfl;(first | with_reducible rfl | (show _ = false;with_reducible assumption) | (show _ = true;with_reducible assumption) | decide)) | (apply Wl.pickF;exact rfl;exact rfl;(with_reducible first | rfl | assumption | decide);exact rfl) | refine Wl.eqlSB rfl rfl rfl ?_ | apply Wl.nil | apply St.region | (apply Wl.splitP;exact rfl;exact rfl;all_goals (intros;try (exfalso;omega)))
  ·skip
   apply Wl.callC
   exact rfl
   (focus repeat constructor)
   intro wq hq
   refine (rnum_pos c5 (.slice a f.length cap) f 14 p4 2 (by decide) wq (hq.own.at (.tail _ (.head _))) (hbw _ _ hq (by simp;omega)) hp4).mono ?_
   rintro e wr ⟨p5,rfl,hp,hp5⟩
   refine ⟨_,_,rfl,hq.callSet (by repeat constructor) hp,?_⟩
   clear hp hq wq wr
   repeat' first | refine Wl.move rfl rfl ?_ | refine Wl.assign rfl rfl ?_ | (apply Wl.on;exact rfl;exact rfl;(with_reducible first | rfl | assumption | decide)) | (apply Wl.off;exact rfl;exact rfl;exact rfl;(first | with_reducible rfl | (show _ = false;with_reducible assumption) | (show _ = true;with_reducible assumption) | decide)) | (apply Wl.pickT;exact rfl;exact rfl;(with_reducible first | rfl | assumption | decide);exact rfl) | (apply Wl.pickF;exact rfl;exact rfl;(with_reducible first | rfl | assumption | decide);exact rfl) | refine Wl.eql rfl rfl rfl ?_ | refine Wl.leq rfl rfl rfl ?_ | apply Wl.nil | (apply Wl.splitP;exact rfl;exact rfl;all_goals (intros;try (exfalso;omega)))
   ·apply Gt.meet (decide ((num f 13 1 : Int) ≤ 4),p5,16)
    ·have h14 : num f 14 2 = 0 := by have := ‹((num f 14 2 : Nat) : Int) = 0›;omega
     refine ⟨fun h => ⟨hp5,rfl,of_decide_eq_true ‹decide (part f 0 8 = [80,79,82,84,73,67,79,49]) = true›,h14,by have := of_decide_eq_true h;omega⟩,fun h => ?_⟩
     unfold decM
     rw [if_neg fun h' => by have := of_decide_eq_false h;omega]
    ·repeat constructor
    ·exact fun _ h => h
   ·apply Gt.meet (false,p5,16)
    ·refine ⟨fun h => (by cases h),fun _ => ?_⟩
     unfold decM
     rw [if_neg fun h' => by have := ‹¬((num f 14 2 : Nat) : Int) = 0›;omega]
    ·repeat constructor
    ·exact fun _ h => h
  ·apply Gt.meet (false,p4,14)
   ·exact ⟨fun h => (by cases h),fun _ => by unfold decM;rw [if_neg fun h => of_decide_eq_false ‹decide (part f 0 8 = [80,79,82,84,73,67,79,49]) = false› h.1]⟩
   ·repeat constructor
   ·exact fun _ h => h
 rintro ⟨ok,p,k0⟩ ⟨hok,hno⟩
 simp only at hok hno ⊢
 have hdm : ok = true → decM f = match decP f (num f 13 1) 16 with | none => none | some r => if r.2 = f.length then some ⟨num f 8 4,num f 12 1,r.1⟩ else none := fun e => by
  obtain ⟨_,_,h1,h2,h3⟩ := hok e
  unfold decM
  rw [if_pos ⟨h1,h2,h3⟩]
  rfl
 generalize hN : num f 13 1 = N at *
 refine St.reb (H' := [⟨c4,[.int .u32 (num f 8 4),.int .i64 (num f 12 1),.slice none 0 0],28⟩,⟨c5,[.slice a f.length cap,.int .i64 p,.bool (decide (f.length < k0))],55⟩,⟨c2,[.int .u32 0,.int .i64 0,.slice none 0 0],28⟩]) ?_
 intro wa hwa
 refine ⟨hwa.own,hwa.apart,?_⟩
 have hua : Upd (fun k => w.heap.size ≤ k) w wa := (hwa.drop (by simp;omega)).upd.mono fun _ _ y => (y trivial).elim
 have howa := hwa.own
 clear hwa hbw hp1 hp2 hp3 hp4 hx1 hr0
 repeat' first | refine Wl.assign rfl rfl ?_ | apply Wl.nil | apply St.seq | apply St.block | apply St.region | apply Gt.next
 refine St.loop (σ := Nat × World × Value × List (Py × Value) × Nat × Nat × Bool)
  (fun τ => τ.1 ≤ N ∧ Upd (fun k => w.heap.size ≤ k) w τ.2.1 ∧ (τ.2.2.2.2.2.2 = false → decM f = none) ∧
   (τ.2.2.2.2.2.2 = true → τ.2.1.ownsRow w.heap.size 51 36 τ.2.2.1 τ.1 (τ.2.2.2.1.flatMap pyCells) ∧ τ.2.2.2.1.length = τ.1 ∧ (∀ x ∈ τ.2.2.2.1,PyD w.heap.size τ.2.1 x) ∧
    decM f = (match decP f N 16 with | none => none | some r => if r.2 = f.length then some ⟨num f 8 4,num f 12 1,r.1⟩ else none) ∧
    decP f N 16 = (decP f (N - τ.1) τ.2.2.2.2.2.1).map (fun r => (τ.2.2.2.1.map (·.1) ++ r.1,r.2)) ∧ RefAt f τ.2.2.2.2.2.1 τ.2.2.2.2.1) ∧
   Own τ.2.1 [⟨c4,[.int .u32 (num f 8 4),.int .i64 (num f 12 1),τ.2.2.1],28⟩,⟨c5,[.slice a f.length cap,.int .i64 τ.2.2.2.2.1,.bool (decide (f.length < τ.2.2.2.2.2.1))],55⟩,⟨c2,[.int .u32 0,.int .i64 0,.slice none 0 0],28⟩])
  (fun τ => [(2,.pointer (some ⟨c2,0,none⟩)),(4,.pointer (some ⟨c5,0,none⟩)),(6,.pointer (some ⟨c4,0,none⟩)),(7,.int .i64 N),(8,.bool τ.2.2.2.2.2.2),(9,.int .i64 τ.1)])
  (fun τ => Hp τ.2.1 [⟨c4,[.int .u32 (num f 8 4),.int .i64 (num f 12 1),τ.2.2.1],28⟩,⟨c5,[.slice a f.length cap,.int .i64 τ.2.2.2.2.1,.bool (decide (f.length < τ.2.2.2.2.2.1))],55⟩,⟨c2,[.int .u32 0,.int .i64 0,.slice none 0 0],28⟩])
  (fun τ => N - τ.1) (0,wa,.slice none 0 0,[],p,k0,ok) ⟨Nat.zero_le _,hua,hno,fun e => ⟨World.ownsRow_nil _ _ _ _,rfl,fun x hx => (by cases hx),hdm e,by rw [(hok e).2.1];cases decP f N 16 <;> simp,by rw [(hok e).2.1];exact (hok e).1⟩,howa⟩ (by repeat constructor) (fun _ h => h) ?_
 clear hua howa hok hno hdm wa ok p k0
 rintro ⟨i,w0,pv,xs,p,k,ok⟩ ⟨hin,hu,hno,hok,hob⟩
 simp only at hin hu hno hok hob ⊢
 have hus := hu.size
 have hbw (wq : World) (H : List Blk) (hq : Hp w0 H wq) (hH : ∀ x ∈ H,w.heap.size ≤ x.b) : Bs wq (.slice a f.length cap) f := hv.upd (hu.comp hq.upd fun j _ hs => hs.elim id fun y => Classical.byContradiction fun hlt => y (Off.of fun x hx e => by have := hH x hx;omega)) fun j _ hj _ hno => by omega
 have l4 : c4 < w0.heap.size := hob.lt (.head _)
 have l5 : c5 < w0.heap.size := hob.lt (.tail _ (.head _))
 have l2 : c2 < w0.heap.size := hob.lt (.tail _ (.tail _ (.head _)))
 cases ok
 ·have hdn := hno rfl
  repeat' first | (apply Gt.outCT;exact rfl;infer_instance;exact rfl;exact rfl;(focus repeat constructor);(focus repeat constructor);intro w' hp) | refine Wl.move rfl rfl ?_ | refine Wl.assign rfl rfl ?_ | (apply Wl.on;exact rfl;exact rfl;(with_reducible first | rfl | assumption | decide)) | (apply Wl.off;exact rfl;exact rfl;exact rfl;(first | with_reducible rfl | (show _ = false;with_reducible assumption) | (show _ = true;with_reducible assumption) | decide)) | (apply Wl.pickT;exact rfl;exact rfl;(with_reducible first | rfl | assumption | decide);exact rfl) | (apply Wl.pickF;exact rfl;exact rfl;(with_reducible first | rfl | assumption | decide);exact rfl) | refine Wl.not rfl rfl ?_ | refine Wl.lss rfl rfl rfl ?_ | (apply Wl.storeA;exact rfl;exact rfl;exact rfl;exact rfl;(focus repeat constructor);(repeat (first | apply LPut.s | apply LPut.z | apply LOver.nil | apply LOver.cons))) | (apply Wl.buildS;exact rfl;(repeat (first | exact Parts.nil | apply Parts.cons rfl));(repeat (first | apply Fills.nil | (apply Fills.one;exact rfl;exact rfl;(repeat (first | apply LSet.z | apply LSet.s))) | (apply Fills.agg;exact rfl;exact rfl;(repeat (first | apply LPut.s | apply LPut.z | apply LOver.nil | apply LOver.cons)))))) | apply Wl.nil | apply St.seq | apply St.region | (apply St.condT;exact rfl;(with_reducible first | rfl | assumption | decide)) | (apply St.condF;exact rfl;(with_reducible first | rfl | assumption | decide)) | apply St.ret | apply St.exit | apply Gt.next | apply Gt.thenRet | apply Gt.thenExit | apply Gt.inExit | (apply Wl.splitP;exact rfl;exact rfl;all_goals (intros;try (exfalso;omega)))
  all_goals exact decPost_none hdn (hu.comp hp.upd fun j _ hs => hs.elim id fun y => Classical.byContradiction fun hlt => y (Off.of fun x hx e => by have : w.heap.size ≤ x.b := (by revert x;simp;omega);omega))
 obtain ⟨hown,hxl,hpd,hdm,hdp,hpr⟩ := hok rfl
 clear hok hno
 by_cases hlt : i < N
 ·obtain ⟨d0,d1,d2,d3,d4,d5,d6,d7,d8,d9,d10,d11,d12,d13,d14,d15,d16,d17,d18,d19,d20,d21,d22,d23,d24,d25,d26,d27,d28,d29,d30,d31,hdig⟩ := list32 (digAt f k) (digAt_len f k)
  repeat' first | refine Wl.move rfl rfl ?_ | (apply Wl.on;exact rfl;exact rfl;(with_reducible first | rfl | assumption | decide)) | (apply Wl.pickT;exact rfl;exact rfl;(with_reducible first | rfl | assumption | decide);exact rfl) | refine Wl.lss rfl rfl rfl ?_ | apply Wl.nil | apply St.region | (apply St.condT;exact rfl;(with_reducible first | rfl | assumption | decide)) | apply St.skip | apply Gt.next | (apply St.seqK (k := 11);exact rfl) | (apply St.seqKS (k := 11);exact rfl) | (apply Wl.splitP;exact rfl;exact rfl;all_goals (intros;try (exfalso;omega)))
  apply St.seq
  apply St.block
  repeat' first | (apply Wl.alloc;exact rfl;intro c hc ho) | apply Wl.nil | apply St.region | apply Gt.next | (apply St.seqK (k := 11);exact rfl)
  generalize c = c7 at *
  have hc7 : w0.heap.size ≤ c7 := hc
  apply St.seq
  refine St.tree (fun _ => True) mixed (fun _ h => ⟨Hp.drew h,trivial⟩) ?_
  refine Mt.pure 0 (by kernel_rfl) (by exact rfl) (by exact rfl) (by kernel_rfl) (by kernel_rfl) ?_
  repeat' first | refine Wl.fieldAddr0 rfl rfl ?_ | apply Wl.nilM
  apply Mt.back
  refine Mt.pure 1 (by kernel_rfl) (by exact rfl) (by exact rfl) (by kernel_rfl) (by kernel_rfl) ?_
  repeat' first | (apply Wl.sliceArr;exact rfl;exact rfl;decide) | apply Wl.nilM
  apply Mt.back
  refine Mt.pure 2 (by kernel_rfl) (by exact rfl) (by exact rfl) (by kernel_rfl) (by kernel_rfl) ?_
  repeat' first | refine Wl.move rfl rfl ?_ | apply Wl.nilM
  apply Mt.back
  refine Mt.eff1 (i := 3) (by decide +kernel) (by exact rfl) ?_
  apply Wl.callC
  exact rfl
  (focus repeat constructor)
  intro wq hq
  refine (rtake_pos c5 (.slice a f.length cap) f k p 32 wq (hq.own.at (.tail _ (.tail _ (.head _)))) (hbw _ _ hq (by simp;omega)) hpr).mono ?_
  rintro e wr ⟨x2,p1,rfl,hp,hp1,hx2⟩
  refine ⟨_,_,rfl,hq.callSet (by repeat constructor) hp,?_⟩
  clear hp hq wq wr
  repeat' first | apply Wl.nil
  refine Mt.backE (fun _ _ => trivial) ?_
  refine Mt.eff1 (i := 4) (by decide +kernel) (by exact rfl) ?_
  apply Wl.copyB (l := part f k 32) (cs' := Value.int .u8 (d0.toNat : Int) :: Value.int .u8 (d1.toNat : Int) :: Value.int .u8 (d2.toNat : Int) :: Value.int .u8 (d3.toNat : Int) :: Value.int .u8 (d4.toNat : Int) :: Value.int .u8 (d5.toNat : Int) :: Value.int .u8 (d6.toNat : Int) :: Value.int .u8 (d7.toNat : Int) :: Value.int .u8 (d8.toNat : Int) :: Value.int .u8 (d9.toNat : Int) :: Value.int .u8 (d10.toNat : Int) :: Value.int .u8 (d11.toNat : Int) :: Value.int .u8 (d12.toNat : Int) :: Value.int .u8 (d13.toNat : Int) :: Value.int .u8 (d14.toNat : Int) :: Value.int .u8 (d15.toNat : Int) :: Value.int .u8 (d16.toNat : Int) :: Value.int .u8 (d17.toNat : Int) :: Value.int .u8 (d18.toNat : Int) :: Value.int .u8 (d19.toNat : Int) :: Value.int .u8 (d20.toNat : Int) :: Value.int .u8 (d21.toNat : Int) :: Value.int .u8 (d22.toNat : Int) :: Value.int .u8 (d23.toNat : Int) :: Value.int .u8 (d24.toNat : Int) :: Value.int .u8 (d25.toNat : Int) :: Value.int .u8 (d26.toNat : Int) :: Value.int .u8 (d27.toNat : Int) :: Value.int .u8 (d28.toNat : Int) :: Value.int .u8 (d29.toNat : Int) :: Value.int .u8 (d30.toNat : Int) :: Value.int .u8 (d31.toNat : Int) :: [.int .u32 0,.int .u32 0,.slice none 0 0,.int .i64 0])
  ·exact rfl
  ·exact rfl
  ·exact rfl
  ·repeat constructor
  ·exact (digcopy f k _).trans (by rw [hdig];rfl)
  ·exact part_len f k 32
  ·exact Nat.le_of_ble_eq_true rfl
  ·exact fun u hq => hx2 u (hbw u _ hq (by simp;omega))
  repeat' first | apply Wl.nil
  refine Mt.backE (fun _ _ => trivial) ?_
  refine Mt.toGt (by decide +kernel) ?_
  have m32 := num4 f (k + 32)
  have m36 := num4 f (k + 32 + 4)
  have m40 := num1 f (k + 32 + 4 + 4)
  have m41 := num1 f (k + 32 + 4 + 4 + 1)
  have m42 := num2 f (k + 32 + 4 + 4 + 1 + 1)
  repeat' first | refine Wl.move rfl rfl ?_ | apply St.seq | apply St.region | apply Gt.next
  apply Wl.callC
  exact rfl
  (focus repeat constructor)
  intro wq hq
  refine (rnum_pos c5 (.slice a f.length cap) f (k + 32) p1 4 (by decide) wq (hq.own.at (.tail _ (.tail _ (.head _)))) (hbw _ _ hq (by simp;omega)) hp1).mono ?_
  rintro e wr ⟨p2,rfl,hp,hp2⟩
  refine ⟨_,_,rfl,hq.callSet (by repeat constructor) hp,?_⟩
  clear hp hq wq wr
  repeat' first | refine Wl.move rfl rfl ?_ | refine Wl.fieldAddrZ rfl rfl ?_ | (refine Wl.convU32 rfl rfl ?_ ?_;constructor <;> omega) | (apply Wl.store;exact rfl;exact rfl;exact rfl;(focus repeat constructor);(repeat (first | apply LSet.z | apply LSet.s))) | apply Wl.nil | apply St.seq | apply St.region | apply Gt.next
  apply Wl.callC
  exact rfl
  (focus repeat constructor)
  intro wq hq
  refine (rnum_pos c5 (.slice a f.length cap) f (k + 32 + 4) p2 4 (by decide) wq (hq.own.at (.tail _ (.tail _ (.head _)))) (hbw _ _ hq (by simp;omega)) hp2).mono ?_
  rintro e wr ⟨p3,rfl,hp,hp3⟩
  refine ⟨_,_,rfl,hq.callSet (by repeat constructor) hp,?_⟩
  clear hp hq wq wr
  repeat' first | refine Wl.move rfl rfl ?_ | refine Wl.fieldAddrZ rfl rfl ?_ | (refine Wl.convU32 rfl rfl ?_ ?_;constructor <;> omega) | (apply Wl.store;exact rfl;exact rfl;exact rfl;(focus repeat constructor);(repeat (first | apply LSet.z | apply LSet.s))) | apply Wl.nil | apply St.seq | apply St.region | apply Gt.next
  apply Wl.callC
  exact rfl
  (focus repeat constructor)
  intro wq hq
  refine (rnum_pos c5 (.slice a f.length cap) f (k + 32 + 4 + 4) p3 1 (by decide) wq (hq.own.at (.tail _ (.tail _ (.head _)))) (hbw _ _ hq (by simp;omega)) hp3).mono ?_
  rintro e wr ⟨p4,rfl,hp,hp4⟩
  refine ⟨_,_,rfl,hq.callSet (by repeat constructor) hp,?_⟩
  clear hp hq wq wr
  repeat' first | refine Wl.move rfl rfl ?_ | refine Wl.fieldAddrZ rfl rfl ?_ | (apply Wl.store;exact rfl;exact rfl;exact rfl;(focus repeat constructor);(repeat (first | apply LSet.z | apply LSet.s))) | apply Wl.nil | apply St.seq | apply St.region | apply Gt.next
  apply Wl.callC
  exact rfl
  (focus repeat constructor)
  intro wq hq
  refine (rnum_pos c5 (.slice a f.length cap) f (k + 32 + 4 + 4 + 1) p4 1 (by decide) wq (hq.own.at (.tail _ (.tail _ (.head _)))) (hbw _ _ hq (by simp;omega)) hp4).mono ?_
  rintro e wr ⟨p5,rfl,hp,hp5⟩
  refine ⟨_,_,rfl,hq.callSet (by repeat constructor) hp,?_⟩
  clear hp hq wq wr
  repeat' first | refine Wl.assign rfl rfl ?_ | apply Wl.nil | apply Gt.next
  have hdP0 : num f (k + 32 + 4 + 4 + 1 + 1) 2 = 0 ∧ num f (k + 32 + 4 + 4 + 1) 1 ≤ 4 → decP f (N - i) k = match decG f (num f (k + 32 + 4 + 4 + 1) 1) (k + 44) with
    | none => none
    | some gs => (decP f (N - (i + 1)) (k + 44 + 12 * num f (k + 32 + 4 + 4 + 1) 1)).map fun r => (⟨digAt f k,num f (k + 32) 4,num f (k + 32 + 4) 4,gs,num f (k + 32 + 4 + 4) 1⟩ :: r.1,r.2) := fun h => by
   rw [show N - i = (N - (i + 1)) + 1 by omega]
   simp only [decP]
   rw [if_pos h]
   rfl
  have hdP1 : ¬(num f (k + 32 + 4 + 4 + 1 + 1) 2 = 0 ∧ num f (k + 32 + 4 + 4 + 1) 1 ≤ 4) → decM f = none := fun h => by
   rw [hdm,hdp,show N - i = (N - (i + 1)) + 1 by omega]
   simp only [decP]
   rw [if_neg h]
   rfl
  generalize hKe : num f (k + 32 + 4 + 4 + 1) 1 = K at *
  generalize num f (k + 32) 4 = psz at *
  generalize num f (k + 32 + 4) 4 = pbi at *
  generalize num f (k + 32 + 4 + 4) 1 = pca at *
  generalize hZe : num f (k + 32 + 4 + 4 + 1 + 1) 2 = Z at *
  refine St.cut (σ := Bool × Nat) (fun τ => RefAt f (k + 44) τ.2 ∧ (τ.1 = true → Z = 0 ∧ K ≤ 4) ∧ (τ.1 = false → decM f = none))
   (fun τ => [(2,.pointer (some ⟨c2,0,none⟩)),(4,.pointer (some ⟨c5,0,none⟩)),(6,.pointer (some ⟨c4,0,none⟩)),(7,.int .i64 N),(8,.bool τ.1),(9,.int .i64 i),(10,.pointer (some ⟨c7,0,none⟩)),(11,.int .i64 K)])
   (fun τ => Hp w0 [⟨c7,Value.int .u8 (d0.toNat : Int) :: Value.int .u8 (d1.toNat : Int) :: Value.int .u8 (d2.toNat : Int) :: Value.int .u8 (d3.toNat : Int) :: Value.int .u8 (d4.toNat : Int) :: Value.int .u8 (d5.toNat : Int) :: Value.int .u8 (d6.toNat : Int) :: Value.int .u8 (d7.toNat : Int) :: Value.int .u8 (d8.toNat : Int) :: Value.int .u8 (d9.toNat : Int) :: Value.int .u8 (d10.toNat : Int) :: Value.int .u8 (d11.toNat : Int) :: Value.int .u8 (d12.toNat : Int) :: Value.int .u8 (d13.toNat : Int) :: Value.int .u8 (d14.toNat : Int) :: Value.int .u8 (d15.toNat : Int) :: Value.int .u8 (d16.toNat : Int) :: Value.int .u8 (d17.toNat : Int) :: Value.int .u8 (d18.toNat : Int) :: Value.int .u8 (d19.toNat : Int) :: Value.int .u8 (d20.toNat : Int) :: Value.int .u8 (d21.toNat : Int) :: Value.int .u8 (d22.toNat : Int) :: Value.int .u8 (d23.toNat : Int) :: Value.int .u8 (d24.toNat : Int) :: Value.int .u8 (d25.toNat : Int) :: Value.int .u8 (d26.toNat : Int) :: Value.int .u8 (d27.toNat : Int) :: Value.int .u8 (d28.toNat : Int) :: Value.int .u8 (d29.toNat : Int) :: Value.int .u8 (d30.toNat : Int) :: Value.int .u8 (d31.toNat : Int) :: [.int .u32 psz,.int .u32 pbi,.slice none 0 0,.int .i64 pca],51⟩,⟨c4,[.int .u32 (num f 8 4),.int .i64 (num f 12 1),pv],28⟩,⟨c5,[.slice a f.length cap,.int .i64 τ.2,.bool (decide (f.length < k + 44))],55⟩,⟨c2,[.int .u32 0,.int .i64 0,.slice none 0 0],28⟩]) ?_ ?_
  ·repeat' first | refine Wl.move rfl rfl ?_ | apply St.region
   apply Wl.callC
   exact rfl
   (focus repeat constructor)
   intro wq hq
   refine (rnum_pos c5 (.slice a f.length cap) f (k + 32 + 4 + 4 + 1 + 1) p5 2 (by decide) wq (hq.own.at (.tail _ (.tail _ (.head _)))) (hbw _ _ hq (by simp;omega)) hp5).mono ?_
   rintro e wr ⟨p6,rfl,hp,hp6⟩
   refine ⟨_,_,rfl,hq.callSet (by repeat constructor) hp,?_⟩
   clear hp hq wq wr
   rw [hZe]
   repeat' first | refine Wl.move rfl rfl ?_ | refine Wl.assign rfl rfl ?_ | (apply Wl.on;exact rfl;exact rfl;(with_reducible first | rfl | assumption | decide)) | (apply Wl.off;exact rfl;exact rfl;exact rfl;(first | with_reducible rfl | (show _ = false;with_reducible assumption) | (show _ = true;with_reducible assumption) | decide)) | (apply Wl.pickT;exact rfl;exact rfl;(with_reducible first | rfl | assumption | decide);exact rfl) | (apply Wl.pickF;exact rfl;exact rfl;(with_reducible first | rfl | assumption | decide);exact rfl) | refine Wl.eql rfl rfl rfl ?_ | refine Wl.leq rfl rfl rfl ?_ | apply Wl.nil | (apply Wl.splitP;exact rfl;exact rfl;all_goals (intros;try (exfalso;omega)))
   ·apply Gt.meet (decide ((K : Int) ≤ 4),p6)
    ·exact ⟨hp6,fun h => ⟨by omega,by have := of_decide_eq_true h;omega⟩,fun h => hdP1 fun h' => by have := of_decide_eq_false h;omega⟩
    ·repeat constructor
    ·exact fun _ h => h
   ·apply Gt.meet (false,p6)
    ·exact ⟨hp6,fun h => (by cases h),fun _ => hdP1 fun h' => by omega⟩
    ·repeat constructor
    ·exact fun _ h => h
  clear hp1 hp2 hp3 hp4 hp5 hx2 hdP1 hZe
  rintro ⟨ok,p0⟩ ⟨hp0,hok,hno⟩
  simp only at hp0 hok hno ⊢
  refine St.reb (H' := [⟨c7,Value.int .u8 (d0.toNat : Int) :: Value.int .u8 (d1.toNat : Int) :: Value.int .u8 (d2.toNat : Int) :: Value.int .u8 (d3.toNat : Int) :: Value.int .u8 (d4.toNat : Int) :: Value.int .u8 (d5.toNat : Int) :: Value.int .u8 (d6.toNat : Int) :: Value.int .u8 (d7.toNat : Int) :: Value.int .u8 (d8.toNat : Int) :: Value.int .u8 (d9.toNat : Int) :: Value.int .u8 (d10.toNat : Int) :: Value.int .u8 (d11.toNat : Int) :: Value.int .u8 (d12.toNat : Int) :: Value.int .u8 (d13.toNat : Int) :: Value.int .u8 (d14.toNat : Int) :: Value.int .u8 (d15.toNat : Int) :: Value.int .u8 (d16.toNat : Int) :: Value.int .u8 (d17.toNat : Int) :: Value.int .u8 (d18.toNat : Int) :: Value.int .u8 (d19.toNat : Int) :: Value.int .u8 (d20.toNat : Int) :: Value.int .u8 (d21.toNat : Int) :: Value.int .u8 (d22.toNat : Int) :: Value.int .u8 (d23.toNat : Int) :: Value.int .u8 (d24.toNat : Int) :: Value.int .u8 (d25.toNat : Int) :: Value.int .u8 (d26.toNat : Int) :: Value.int .u8 (d27.toNat : Int) :: Value.int .u8 (d28.toNat : Int) :: Value.int .u8 (d29.toNat : Int) :: Value.int .u8 (d30.toNat : Int) :: Value.int .u8 (d31.toNat : Int) :: [.int .u32 psz,.int .u32 pbi,.slice none 0 0,.int .i64 pca],51⟩,⟨c4,[.int .u32 (num f 8 4),.int .i64 (num f 12 1),pv],28⟩,⟨c5,[.slice a f.length cap,.int .i64 p0,.bool (decide (f.length < k + 44))],55⟩,⟨c2,[.int .u32 0,.int .i64 0,.slice none 0 0],28⟩]) ?_
  intro wb hwb
  refine ⟨hwb.own,hwb.apart,?_⟩
  have hS {H : List Blk} {b : Nat} (hH : ∀ x ∈ H,w0.heap.size ≤ x.b ∨ x.b = c5 ∨ x.b = c4 ∨ x.b = c2) (y : ¬ Off H b) : w0.heap.size ≤ b ∨ b = c5 ∨ b = c4 ∨ b = c2 :=
   Classical.byContradiction fun hn => y (Off.of fun x hx e => hn (e ▸ hH x hx))
  have hub : Upd (fun b => w0.heap.size ≤ b ∨ b = c5 ∨ b = c4 ∨ b = c2) w0 wb := hwb.upd.mono fun b _ y => hS (by simp;omega) y
  have hob1 := hwb.own
  clear hwb hc
  repeat' first | refine Wl.assign rfl rfl ?_ | apply Wl.nil | apply St.seq | apply St.block | apply St.region | apply Gt.next
  refine St.loop (σ := Nat × World × Value × List Gr × Nat × Bool)
   (fun τ => τ.1 ≤ K ∧ Upd (fun b => w0.heap.size ≤ b ∨ b = c5 ∨ b = c4 ∨ b = c2) w0 τ.2.1 ∧ τ.2.1.ownsRow w0.heap.size 61 3 τ.2.2.1 τ.1 (τ.2.2.2.1.flatMap grCells) ∧ τ.2.2.2.1.length = τ.1 ∧ RefAt f (k + 44 + 12 * τ.1) τ.2.2.2.2.1 ∧
    (τ.2.2.2.2.2 = true → Z = 0 ∧ K ≤ 4 ∧ (∀ g ∈ τ.2.2.2.1,GrOk g) ∧ decG f K (k + 44) = (decG f (K - τ.1) (k + 44 + 12 * τ.1)).map (τ.2.2.2.1 ++ ·)) ∧ (τ.2.2.2.2.2 = false → decM f = none) ∧
    Own τ.2.1 [⟨c7,Value.int .u8 (d0.toNat : Int) :: Value.int .u8 (d1.toNat : Int) :: Value.int .u8 (d2.toNat : Int) :: Value.int .u8 (d3.toNat : Int) :: Value.int .u8 (d4.toNat : Int) :: Value.int .u8 (d5.toNat : Int) :: Value.int .u8 (d6.toNat : Int) :: Value.int .u8 (d7.toNat : Int) :: Value.int .u8 (d8.toNat : Int) :: Value.int .u8 (d9.toNat : Int) :: Value.int .u8 (d10.toNat : Int) :: Value.int .u8 (d11.toNat : Int) :: Value.int .u8 (d12.toNat : Int) :: Value.int .u8 (d13.toNat : Int) :: Value.int .u8 (d14.toNat : Int) :: Value.int .u8 (d15.toNat : Int) :: Value.int .u8 (d16.toNat : Int) :: Value.int .u8 (d17.toNat : Int) :: Value.int .u8 (d18.toNat : Int) :: Value.int .u8 (d19.toNat : Int) :: Value.int .u8 (d20.toNat : Int) :: Value.int .u8 (d21.toNat : Int) :: Value.int .u8 (d22.toNat : Int) :: Value.int .u8 (d23.toNat : Int) :: Value.int .u8 (d24.toNat : Int) :: Value.int .u8 (d25.toNat : Int) :: Value.int .u8 (d26.toNat : Int) :: Value.int .u8 (d27.toNat : Int) :: Value.int .u8 (d28.toNat : Int) :: Value.int .u8 (d29.toNat : Int) :: Value.int .u8 (d30.toNat : Int) :: Value.int .u8 (d31.toNat : Int) :: [.int .u32 psz,.int .u32 pbi,τ.2.2.1,.int .i64 pca],51⟩,⟨c4,[.int .u32 (num f 8 4),.int .i64 (num f 12 1),pv],28⟩,⟨c5,[.slice a f.length cap,.int .i64 τ.2.2.2.2.1,.bool (decide (f.length < k + 44 + 12 * τ.1))],55⟩,⟨c2,[.int .u32 0,.int .i64 0,.slice none 0 0],28⟩])
   (fun τ => [(2,.pointer (some ⟨c2,0,none⟩)),(4,.pointer (some ⟨c5,0,none⟩)),(6,.pointer (some ⟨c4,0,none⟩)),(7,.int .i64 N),(8,.bool τ.2.2.2.2.2),(9,.int .i64 i),(10,.pointer (some ⟨c7,0,none⟩)),(11,.int .i64 K),(12,.int .i64 τ.1)])
   (fun τ => Hp τ.2.1 [⟨c7,Value.int .u8 (d0.toNat : Int) :: Value.int .u8 (d1.toNat : Int) :: Value.int .u8 (d2.toNat : Int) :: Value.int .u8 (d3.toNat : Int) :: Value.int .u8 (d4.toNat : Int) :: Value.int .u8 (d5.toNat : Int) :: Value.int .u8 (d6.toNat : Int) :: Value.int .u8 (d7.toNat : Int) :: Value.int .u8 (d8.toNat : Int) :: Value.int .u8 (d9.toNat : Int) :: Value.int .u8 (d10.toNat : Int) :: Value.int .u8 (d11.toNat : Int) :: Value.int .u8 (d12.toNat : Int) :: Value.int .u8 (d13.toNat : Int) :: Value.int .u8 (d14.toNat : Int) :: Value.int .u8 (d15.toNat : Int) :: Value.int .u8 (d16.toNat : Int) :: Value.int .u8 (d17.toNat : Int) :: Value.int .u8 (d18.toNat : Int) :: Value.int .u8 (d19.toNat : Int) :: Value.int .u8 (d20.toNat : Int) :: Value.int .u8 (d21.toNat : Int) :: Value.int .u8 (d22.toNat : Int) :: Value.int .u8 (d23.toNat : Int) :: Value.int .u8 (d24.toNat : Int) :: Value.int .u8 (d25.toNat : Int) :: Value.int .u8 (d26.toNat : Int) :: Value.int .u8 (d27.toNat : Int) :: Value.int .u8 (d28.toNat : Int) :: Value.int .u8 (d29.toNat : Int) :: Value.int .u8 (d30.toNat : Int) :: Value.int .u8 (d31.toNat : Int) :: [.int .u32 psz,.int .u32 pbi,τ.2.2.1,.int .i64 pca],51⟩,⟨c4,[.int .u32 (num f 8 4),.int .i64 (num f 12 1),pv],28⟩,⟨c5,[.slice a f.length cap,.int .i64 τ.2.2.2.2.1,.bool (decide (f.length < k + 44 + 12 * τ.1))],55⟩,⟨c2,[.int .u32 0,.int .i64 0,.slice none 0 0],28⟩])
   (fun τ => K - τ.1) (0,wb,.slice none 0 0,[],p0,ok) ⟨Nat.zero_le _,hub,World.ownsRow_nil _ _ _ _,rfl,hp0,fun e => ⟨(hok e).1,(hok e).2,fun x hx => (by cases hx),by cases decG f K (k + 44) <;> simp⟩,hno,hob1⟩ (by repeat constructor) (fun _ h => h) ?_
  clear hub hob1 hp0 hok hno wb ok p0 m42
  rintro ⟨j,w1,gv,gs,p,ok⟩ ⟨hjn,hu1,hown1,hgl,hpr',hok,hno,hob1⟩
  simp only at hjn hu1 hown1 hgl hpr' hok hno hob1 ⊢
  have hus1 := hu1.size
  have huw : Upd (fun k => w.heap.size ≤ k) w w1 := hu.comp hu1 fun j _ hs => hs.elim id fun y => by omega
  have hbw1 (wq : World) (H : List Blk) (hq : Hp w1 H wq) (hH : ∀ x ∈ H,w.heap.size ≤ x.b) : Bs wq (.slice a f.length cap) f := hv.upd (huw.comp hq.upd fun j _ hs => hs.elim id fun y => Classical.byContradiction fun hlt => y (Off.of fun x hx e => by have := hH x hx;omega)) fun j _ hj _ hno => by omega
  have l7 : c7 < w1.heap.size := hob1.lt (.head _)
  have hown' : w1.ownsRow w.heap.size 51 36 pv i (xs.flatMap pyCells) := ownsRow_upd hown hu1 fun q hq hs => by
   have h1 := (hown.lt q hq).2
   have h2 := own_off hown hob rfl hq
   rcases hs with hs | hs | hs | hs
   ·omega
   ·exact h2.2.1 hs.symm
   ·exact h2.1 hs.symm
   ·exact h2.2.2.1 hs.symm
  cases ok
  ·have hdn := hno rfl
   obtain ⟨_,ag,cg,rfl,_⟩ := Sv.ofOwn hown1
   repeat' first | refine Wl.move rfl rfl ?_ | (apply Wl.on;exact rfl;exact rfl;(with_reducible first | rfl | assumption | decide)) | (apply Wl.off;exact rfl;exact rfl;exact rfl;(first | with_reducible rfl | (show _ = false;with_reducible assumption) | (show _ = true;with_reducible assumption) | decide)) | (apply Wl.pickT;exact rfl;exact rfl;(with_reducible first | rfl | assumption | decide);exact rfl) | (apply Wl.pickF;exact rfl;exact rfl;(with_reducible first | rfl | assumption | decide);exact rfl) | refine Wl.fieldAddrZ rfl rfl ?_ | (apply Wl.loadH;exact rfl;exact rfl;(focus repeat constructor);exact rfl) | refine Wl.lss rfl rfl rfl ?_ | (apply Wl.loadAH;exact rfl;exact rfl;(focus repeat constructor);(focus repeat constructor)) | (apply Wl.lit;exact rfl;(repeat (first | exact Parts.nil | apply Parts.cons rfl));exact rfl;exact rfl;(repeat (first | apply CatP.nil | (apply CatP.one;exact rfl;exact rfl) | (apply CatP.agg;exact rfl) | apply LApp.nil | apply LApp.cons));intro c hc ho) | apply Wl.nil | apply St.seq | apply St.region | (apply St.condF;exact rfl;(with_reducible first | rfl | assumption | decide)) | apply St.exit | apply Gt.next | apply Gt.thenExit | apply Gt.inExit | (apply Wl.splitP;exact rfl;exact rfl;all_goals (intros;try (exfalso;omega)))
   all_goals
    apply Wl.appendT
    ·exact rfl
    ·exact rfl
    ·exact rfl
    ·exact hc
    ·exact rfl
    ·exact hown'
    ·exact fun q hq => ⟨fun e => by have := (hown.lt q hq).2;simp only at e;omega,own_off hown' (H := [_,_,_]) hob1.2 rfl hq⟩
    ·exact rfl
    ·exact rfl
    ·decide
    ·unfold maxLen;omega
    ·omega
    ·exact huw.size
    intro v'' w4 ho2 u4 _ hoff2
    obtain ⟨_,ab,cb,rfl,_⟩ := Sv.ofOwn ho2
    repeat' first | refine Wl.move rfl rfl ?_ | refine Wl.assign rfl rfl ?_ | refine Wl.fieldAddrZ rfl rfl ?_ | (refine Wl.addI rfl rfl rfl ?_ ?_;constructor <;> omega) | (apply Wl.store;exact rfl;exact rfl;exact rfl;(focus repeat constructor);(repeat (first | apply LSet.z | apply LSet.s))) | apply Wl.nil | apply St.region | apply Gt.next | apply Gt.inNormal
    apply Gt.reb (H' := [⟨c4,[.int .u32 (num f 8 4),.int .i64 (num f 12 1),.slice ab (i + 1) cb],28⟩,⟨c5,[.slice a f.length cap,.int .i64 p,.bool (decide (f.length < k + 44 + 12 * j))],55⟩,⟨c2,[.int .u32 0,.int .i64 0,.slice none 0 0],28⟩])
    intro w5 h5
    refine ⟨h5.own.2,h5.apart.2,?_⟩
    apply Gt.round (i + 1,w5,.slice ab (i + 1) cb,xs ++ [(⟨digAt f k,psz,pbi,gs,pca⟩,.slice ag j cg)],p,k + 44 + 12 * j,false)
    rotate_left
    ·simp only;omega
    ·repeat constructor
    ·exact fun _ h => h
    have hwu : Upd (fun k => w.heap.size ≤ k) w w5 := (huw.comp u4 (T := fun b => w.heap.size ≤ b) fun b _ hs => hs.elim id fun hs => hs.elim (fun e => (hown.lt b e).1) fun y => Classical.byContradiction fun hlt => y (Off.of fun x hx e => by have : w.heap.size ≤ x.b := (by revert x;simp;omega);omega)).comp h5.upd fun b _ hs => hs.elim id fun y => Classical.byContradiction fun hlt => y (Off.of fun x hx e => by have : w.heap.size ≤ x.b := (by revert x;simp;omega);omega)
    exact ⟨hlt,hwu,fun _ => hdn,fun e => (by cases e),h5.own.2⟩
  obtain ⟨hZ,hK4,hgs,hdg⟩ := hok rfl
  clear hok hno
  by_cases hjl : j < K
  ·repeat' first | refine Wl.move rfl rfl ?_ | (apply Wl.on;exact rfl;exact rfl;(with_reducible first | rfl | assumption | decide)) | (apply Wl.pickT;exact rfl;exact rfl;(with_reducible first | rfl | assumption | decide);exact rfl) | refine Wl.lss rfl rfl rfl ?_ | apply Wl.nil | apply St.seq | apply St.block | apply St.region | (apply St.condT;exact rfl;(with_reducible first | rfl | assumption | decide)) | apply St.skip | apply Gt.next | (apply Wl.splitP;exact rfl;exact rfl;all_goals (intros;try (exfalso;omega)))
   have g0 := num4 f (k + 44 + 12 * j)
   have g4 := num4 f (k + 44 + 12 * j + 4)
   have g8 := num4 f (k + 44 + 12 * j + 4 + 4)
   apply Wl.callC
   exact rfl
   (focus repeat constructor)
   intro wq hq
   refine (rnum_pos c5 (.slice a f.length cap) f (k + 44 + 12 * j) p 4 (by decide) wq (hq.own.at (.tail _ (.tail _ (.head _)))) (hbw1 _ _ hq (by simp;omega)) hpr').mono ?_
   rintro e wr ⟨p1,rfl,hp,hp1⟩
   refine ⟨_,_,rfl,hq.callSet (by repeat constructor) hp,?_⟩
   clear hp hq wq wr
   repeat' first | refine Wl.move rfl rfl ?_ | (refine Wl.convU32 rfl rfl ?_ ?_;constructor <;> omega) | (apply Wl.storeA;exact rfl;exact rfl;exact rfl;exact rfl;(focus repeat constructor);(repeat (first | apply LPut.s | apply LPut.z | apply LOver.nil | apply LOver.cons))) | (apply Wl.buildS;exact rfl;(repeat (first | exact Parts.nil | apply Parts.cons rfl));(repeat (first | apply Fills.nil | (apply Fills.one;exact rfl;exact rfl;(repeat (first | apply LSet.z | apply LSet.s))) | (apply Fills.agg;exact rfl;exact rfl;(repeat (first | apply LPut.s | apply LPut.z | apply LOver.nil | apply LOver.cons)))))) | (apply Wl.alloc;exact rfl;intro c hc ho) | apply Wl.nil | apply St.seq | apply St.region | apply Gt.next
   generalize c = c9 at *
   have hc9 : w1.heap.size ≤ c9 := hc
   apply Wl.callC
   exact rfl
   (focus repeat constructor)
   intro wq hq
   refine (rnum_pos c5 (.slice a f.length cap) f (k + 44 + 12 * j + 4) p1 4 (by decide) wq (hq.own.at (.tail _ (.tail _ (.tail _ (.head _))))) (hbw1 _ _ hq (by simp;omega)) hp1).mono ?_
   rintro e wr ⟨p2,rfl,hp,hp2⟩
   refine ⟨_,_,rfl,hq.callSet (by repeat constructor) hp,?_⟩
   clear hp hq wq wr
   repeat' first | refine Wl.move rfl rfl ?_ | refine Wl.fieldAddrZ rfl rfl ?_ | (refine Wl.convU32 rfl rfl ?_ ?_;constructor <;> omega) | (apply Wl.store;exact rfl;exact rfl;exact rfl;(focus repeat constructor);(repeat (first | apply LSet.z | apply LSet.s))) | apply Wl.nil | apply St.seq | apply St.region | apply Gt.next
   apply Wl.callC
   exact rfl
   (focus repeat constructor)
   intro wq hq
   refine (rnum_pos c5 (.slice a f.length cap) f (k + 44 + 12 * j + 4 + 4) p2 4 (by decide) wq (hq.own.at (.tail _ (.tail _ (.tail _ (.head _))))) (hbw1 _ _ hq (by simp;omega)) hp2).mono ?_
   rintro e wr ⟨p3,rfl,hp,hp3⟩
   refine ⟨_,_,rfl,hq.callSet (by repeat constructor) hp,?_⟩
   clear hp hq wq wr
   repeat' first | refine Wl.assign rfl rfl ?_ | refine Wl.fieldAddrZ rfl rfl ?_ | (apply Wl.loadH;exact rfl;exact rfl;(focus repeat constructor);exact rfl) | refine Wl.leq rfl rfl rfl ?_ | (apply Wl.store;exact rfl;exact rfl;exact rfl;(focus repeat constructor);(repeat (first | apply LSet.z | apply LSet.s))) | (apply Wl.loadAH;exact rfl;exact rfl;(focus repeat constructor);(focus repeat constructor)) | (apply Wl.lit;exact rfl;(repeat (first | exact Parts.nil | apply Parts.cons rfl));exact rfl;exact rfl;(repeat (first | apply CatP.nil | (apply CatP.one;exact rfl;exact rfl) | (apply CatP.agg;exact rfl) | apply LApp.nil | apply LApp.cons));intro c hc ho) | apply Wl.nil | apply St.seq | apply St.region | apply Gt.next
   apply Wl.appendT
   ·exact rfl
   ·exact rfl
   ·exact rfl
   ·exact hc
   ·exact rfl
   ·exact hown1
   ·exact fun q hq => ⟨fun e => by have := (hown1.lt q hq).2;simp only at e;omega,own_off hown1 hob1 rfl hq⟩
   ·exact rfl
   ·exact rfl
   ·decide
   ·unfold maxLen;omega
   ·omega
   ·exact hus1
   intro v' w4 ho2 u4 _ hoff2
   obtain ⟨_,ab,cb,rfl,_⟩ := Sv.ofOwn ho2
   repeat' first | refine Wl.move rfl rfl ?_ | refine Wl.assign rfl rfl ?_ | refine Wl.fieldAddrZ rfl rfl ?_ | (refine Wl.addI rfl rfl rfl ?_ ?_;constructor <;> omega) | (apply Wl.store;exact rfl;exact rfl;exact rfl;(focus repeat constructor);(repeat (first | apply LSet.z | apply LSet.s))) | apply Wl.nil | apply St.region | apply Gt.next | apply Gt.inNormal
   apply Gt.reb (H' := [⟨c7,Value.int .u8 (d0.toNat : Int) :: Value.int .u8 (d1.toNat : Int) :: Value.int .u8 (d2.toNat : Int) :: Value.int .u8 (d3.toNat : Int) :: Value.int .u8 (d4.toNat : Int) :: Value.int .u8 (d5.toNat : Int) :: Value.int .u8 (d6.toNat : Int) :: Value.int .u8 (d7.toNat : Int) :: Value.int .u8 (d8.toNat : Int) :: Value.int .u8 (d9.toNat : Int) :: Value.int .u8 (d10.toNat : Int) :: Value.int .u8 (d11.toNat : Int) :: Value.int .u8 (d12.toNat : Int) :: Value.int .u8 (d13.toNat : Int) :: Value.int .u8 (d14.toNat : Int) :: Value.int .u8 (d15.toNat : Int) :: Value.int .u8 (d16.toNat : Int) :: Value.int .u8 (d17.toNat : Int) :: Value.int .u8 (d18.toNat : Int) :: Value.int .u8 (d19.toNat : Int) :: Value.int .u8 (d20.toNat : Int) :: Value.int .u8 (d21.toNat : Int) :: Value.int .u8 (d22.toNat : Int) :: Value.int .u8 (d23.toNat : Int) :: Value.int .u8 (d24.toNat : Int) :: Value.int .u8 (d25.toNat : Int) :: Value.int .u8 (d26.toNat : Int) :: Value.int .u8 (d27.toNat : Int) :: Value.int .u8 (d28.toNat : Int) :: Value.int .u8 (d29.toNat : Int) :: Value.int .u8 (d30.toNat : Int) :: Value.int .u8 (d31.toNat : Int) :: [.int .u32 psz,.int .u32 pbi,.slice ab (j + 1) cb,.int .i64 pca],51⟩,⟨c4,[.int .u32 (num f 8 4),.int .i64 (num f 12 1),pv],28⟩,⟨c5,[.slice a f.length cap,.int .i64 p3,.bool (decide (f.length < k + 44 + 12 * (j + 1)))],55⟩,⟨c2,[.int .u32 0,.int .i64 0,.slice none 0 0],28⟩])
   intro w5 h5
   refine ⟨h5.own.2,h5.apart.2,?_⟩
   have hgo : gAt f (k + 44 + 12 * j) = ⟨num f (k + 44 + 12 * j) 4,num f (k + 44 + 12 * j + 4) 4,num f (k + 44 + 12 * j + 4 + 4) 4⟩ := rfl
   apply Gt.round (j + 1,w5,.slice ab (j + 1) cb,gs ++ [gAt f (k + 44 + 12 * j)],p3,decide ((num f (k + 44 + 12 * j + 4 + 4) 4 : Int) ≤ 7))
   rotate_left
   ·simp only;omega
   ·repeat constructor
   ·exact fun _ h => h
   refine ⟨hjl,(hu1.comp u4 (T := fun b => w0.heap.size ≤ b ∨ b = c5 ∨ b = c4 ∨ b = c2) fun b _ hs => hs.elim id fun hs => hs.elim (fun e => .inl (hown1.lt b e).1) fun y => hS (by simp;omega) y).comp h5.upd fun b _ hs => hs.elim id fun y => hS (by simp;omega) y,?_,?_,hp3,fun e => ⟨hZ,hK4,fun g hg => ?_,?_⟩,fun e => ?_,h5.own.2⟩
   ·simp only
    rw [List.flatMap_append,hgo]
    exact ownsRow_upd ho2 h5.upd fun q hq y => y (hoff2 q hq).1
   ·simp [hgl]
   ·have hr7 := of_decide_eq_true e
    rcases List.mem_append.1 hg with hg | hg
    ·exact hgs g hg
    ·rw [List.mem_singleton] at hg
     subst hg
     rw [hgo]
     exact ⟨g0,g4,by simp only;omega,by simp only;omega⟩
   ·have hr7' := of_decide_eq_true e
    have hr7 : num f (k + 44 + 12 * j + 4 + 4) 4 ≤ 7 := by omega
    simp only
    rw [hdg,show K - j = (K - (j + 1)) + 1 by omega]
    simp only [decG]
    rw [if_pos hr7,Option.map_map]
    congr 1
    funext l
    simp
   ·have hr7' := of_decide_eq_false e
    have hr7 : ¬ num f (k + 44 + 12 * j + 4 + 4) 4 ≤ 7 := by omega
    rw [hdm,hdp,hdP0 ⟨hZ,hK4⟩,hdg,show K - j = (K - (j + 1)) + 1 by omega]
    simp only [decG]
    rw [if_neg hr7]
    rfl
  ·have hjk : j = K := by omega
   subst hjk
   have hdg' : decG f j (k + 44) = some gs := by rw [hdg];simp [decG]
   clear hdg
   have hdP := hdP0 ⟨hZ,hK4⟩
   rw [hdg'] at hdP
   simp only at hdP
   obtain ⟨_,ag,cg,rfl,_⟩ := Sv.ofOwn hown1
   repeat' first | refine Wl.move rfl rfl ?_ | (apply Wl.off;exact rfl;exact rfl;exact rfl;(first | with_reducible rfl | (show _ = false;with_reducible assumption) | (show _ = true;with_reducible assumption) | decide)) | (apply Wl.pickF;exact rfl;exact rfl;(with_reducible first | rfl | assumption | decide);exact rfl) | refine Wl.fieldAddrZ rfl rfl ?_ | (apply Wl.loadH;exact rfl;exact rfl;(focus repeat constructor);exact rfl) | refine Wl.lss rfl rfl rfl ?_ | (apply Wl.loadAH;exact rfl;exact rfl;(focus repeat constructor);(focus repeat constructor)) | (apply Wl.lit;exact rfl;(repeat (first | exact Parts.nil | apply Parts.cons rfl));exact rfl;exact rfl;(repeat (first | apply CatP.nil | (apply CatP.one;exact rfl;exact rfl) | (apply CatP.agg;exact rfl) | apply LApp.nil | apply LApp.cons));intro c hc ho) | apply Wl.nil | apply St.seq | apply St.region | (apply St.condF;exact rfl;(with_reducible first | rfl | assumption | decide)) | apply St.exit | apply Gt.next | apply Gt.thenExit | apply Gt.inExit | (apply Wl.splitP;exact rfl;exact rfl;all_goals (intros;try (exfalso;omega)))
   apply Wl.appendT
   ·exact rfl
   ·exact rfl
   ·exact rfl
   ·exact hc
   ·exact rfl
   ·exact hown'
   ·exact fun q hq => ⟨fun e => by have := (hown.lt q hq).2;simp only at e;omega,own_off hown' (H := [_,_,_]) hob1.2 rfl hq⟩
   ·exact rfl
   ·exact rfl
   ·decide
   ·unfold maxLen;omega
   ·omega
   ·exact huw.size
   intro v'' w4 ho2 u4 _ hoff2
   obtain ⟨_,ab,cb,rfl,_⟩ := Sv.ofOwn ho2
   repeat' first | refine Wl.move rfl rfl ?_ | refine Wl.assign rfl rfl ?_ | refine Wl.fieldAddrZ rfl rfl ?_ | (refine Wl.addI rfl rfl rfl ?_ ?_;constructor <;> omega) | (apply Wl.store;exact rfl;exact rfl;exact rfl;(focus repeat constructor);(repeat (first | apply LSet.z | apply LSet.s))) | apply Wl.nil | apply St.region | apply Gt.next | apply Gt.inNormal
   apply Gt.reb (H' := [⟨c4,[.int .u32 (num f 8 4),.int .i64 (num f 12 1),.slice ab (i + 1) cb],28⟩,⟨c5,[.slice a f.length cap,.int .i64 p,.bool (decide (f.length < k + 44 + 12 * j))],55⟩,⟨c2,[.int .u32 0,.int .i64 0,.slice none 0 0],28⟩])
   intro w5 h5
   refine ⟨h5.own.2,h5.apart.2,?_⟩
   apply Gt.round (i + 1,w5,.slice ab (i + 1) cb,xs ++ [(⟨digAt f k,psz,pbi,gs,pca⟩,.slice ag j cg)],p,k + 44 + 12 * j,true)
   rotate_left
   ·simp only;omega
   ·repeat constructor
   ·exact fun _ h => h
   have hwu : Upd (fun k => w.heap.size ≤ k) w w5 := (huw.comp u4 (T := fun b => w.heap.size ≤ b) fun b _ hs => hs.elim id fun hs => hs.elim (fun e => (hown.lt b e).1) fun y => Classical.byContradiction fun hlt => y (Off.of fun x hx e => by have : w.heap.size ≤ x.b := (by revert x;simp;omega);omega)).comp h5.upd fun b _ hs => hs.elim id fun y => Classical.byContradiction fun hlt => y (Off.of fun x hx e => by have : w.heap.size ≤ x.b := (by revert x;simp;omega);omega)
   have hmove {x : Value} {n : Nat} {cs : List Value} (hx : w1.ownsRow w.heap.size 61 3 x n cs) : w5.ownsRow w.heap.size 61 3 x n cs :=
    ownsRow_upd (ownsRow_upd hx u4 fun q hq hs => hs.elim (fun e => own_ne2 hx hown' (by decide) hq e) fun y => y (own_off hx hob1 rfl hq)) h5.upd fun q hq y => y (own_off hx hob1 rfl hq)
   refine ⟨hlt,hwu,fun e => (by cases e),fun _ => ⟨?_,?_,fun x hx => ?_,hdm,?_,hpr'⟩,h5.own.2⟩
   ·have hlit : pyCells (⟨digAt f k,psz,pbi,gs,pca⟩,.slice ag j cg) = Value.int .u8 (d0.toNat : Int) :: Value.int .u8 (d1.toNat : Int) :: Value.int .u8 (d2.toNat : Int) :: Value.int .u8 (d3.toNat : Int) :: Value.int .u8 (d4.toNat : Int) :: Value.int .u8 (d5.toNat : Int) :: Value.int .u8 (d6.toNat : Int) :: Value.int .u8 (d7.toNat : Int) :: Value.int .u8 (d8.toNat : Int) :: Value.int .u8 (d9.toNat : Int) :: Value.int .u8 (d10.toNat : Int) :: Value.int .u8 (d11.toNat : Int) :: Value.int .u8 (d12.toNat : Int) :: Value.int .u8 (d13.toNat : Int) :: Value.int .u8 (d14.toNat : Int) :: Value.int .u8 (d15.toNat : Int) :: Value.int .u8 (d16.toNat : Int) :: Value.int .u8 (d17.toNat : Int) :: Value.int .u8 (d18.toNat : Int) :: Value.int .u8 (d19.toNat : Int) :: Value.int .u8 (d20.toNat : Int) :: Value.int .u8 (d21.toNat : Int) :: Value.int .u8 (d22.toNat : Int) :: Value.int .u8 (d23.toNat : Int) :: Value.int .u8 (d24.toNat : Int) :: Value.int .u8 (d25.toNat : Int) :: Value.int .u8 (d26.toNat : Int) :: Value.int .u8 (d27.toNat : Int) :: Value.int .u8 (d28.toNat : Int) :: Value.int .u8 (d29.toNat : Int) :: Value.int .u8 (d30.toNat : Int) :: Value.int .u8 (d31.toNat : Int) :: [.int .u32 psz,.int .u32 pbi,.slice ag j cg,.int .i64 pca] := by
     unfold pyCells
     simp only
     rw [hdig]
     rfl
    simp only
    rw [List.flatMap_append,List.flatMap_cons,List.flatMap_nil,List.append_nil,hlit]
    exact ownsRow_upd ho2 h5.upd fun q hq y => y (hoff2 q hq).1
   ·simp [hxl]
   ·rcases List.mem_append.1 hx with hx | hx
    ·refine ⟨hmove (ownsRow_upd (hpd x hx).1 hu1 fun q hq hs => ?_),(hpd x hx).2⟩
     have h1 := ((hpd x hx).1.lt q hq).2
     have h2 := own_off (hpd x hx).1 hob rfl hq
     rcases hs with hs | hs | hs | hs
     ·omega
     ·exact h2.2.1 hs.symm
     ·exact h2.1 hs.symm
     ·exact h2.2.2.1 hs.symm
    ·rw [List.mem_singleton] at hx
     subst hx
     refine ⟨?_,digAt_len f k,by simp only;omega,by simp only;omega,by simp only;omega,by simp only;omega,by simp only;omega,hgs⟩
     simp only
     rw [hgl]
     exact hmove (own_base hown1 hus)
   ·simp only
    rw [hdp,hdP,Option.map_map]
    congr 1
    funext r
    simp
 ·have hiN : i = N := by omega
  subst hiN
  have hdm' : decM f = if k = f.length then some ⟨num f 8 4,num f 12 1,xs.map (·.1)⟩ else none := by rw [hdm,hdp];simp [decP]
  clear hdm hdp
  repeat' first | refine Wl.move rfl rfl ?_ | (apply Wl.on;exact rfl;exact rfl;(with_reducible first | rfl | assumption | decide)) | (apply Wl.off;exact rfl;exact rfl;exact rfl;(first | with_reducible rfl | (show _ = false;with_reducible assumption) | (show _ = true;with_reducible assumption) | decide)) | (apply Wl.pickF;exact rfl;exact rfl;(with_reducible first | rfl | assumption | decide);exact rfl) | refine Wl.not rfl rfl ?_ | refine Wl.lss rfl rfl rfl ?_ | apply Wl.nil | apply St.seq | apply St.region | (apply St.condF;exact rfl;(with_reducible first | rfl | assumption | decide)) | apply St.exit | apply Gt.next | apply Gt.thenExit | apply Gt.inExit | (apply Wl.splitP;exact rfl;exact rfl;all_goals (intros;try (exfalso;omega)))
  apply Wl.callQ
  exact rfl
  (focus repeat constructor)
  ·intro wq hq
   exact hq.q (rend_any c5 (.slice a f.length cap) f p _ wq wq (hq.own.at (.tail _ (.head _))) (hbw wq _ hq (by simp;omega)))
  have hbe : (!decide (f.length < k) && decide (p = f.length)) = decide (k = f.length) := by
   obtain ⟨h1,h2⟩ := hpr
   rw [Bool.eq_iff_iff]
   simp
   omega
  rw [hbe]
  repeat' first | (apply Gt.outCT;exact rfl;infer_instance;exact rfl;exact rfl;(focus repeat constructor);(focus repeat constructor);intro w' hp) | refine Wl.assign rfl rfl ?_ | (apply Wl.on;exact rfl;exact rfl;(with_reducible first | rfl | assumption | decide)) | (apply Wl.pickF;exact rfl;exact rfl;(with_reducible first | rfl | assumption | decide);exact rfl) | refine Wl.not rfl rfl ?_ | (apply Wl.storeA;exact rfl;exact rfl;exact rfl;exact rfl;(focus repeat constructor);(repeat (first | apply LPut.s | apply LPut.z | apply LOver.nil | apply LOver.cons))) | (apply Wl.loadAH;exact rfl;exact rfl;(focus repeat constructor);(focus repeat constructor)) | (apply Wl.buildS;exact rfl;(repeat (first | exact Parts.nil | apply Parts.cons rfl));(repeat (first | apply Fills.nil | (apply Fills.one;exact rfl;exact rfl;(repeat (first | apply LSet.z | apply LSet.s))) | (apply Fills.agg;exact rfl;exact rfl;(repeat (first | apply LPut.s | apply LPut.z | apply LOver.nil | apply LOver.cons)))))) | apply Wl.nil | apply St.seq | apply St.region | apply St.ret | apply St.skip | apply Gt.next | apply Gt.thenRet | (apply St.condB;exact rfl;all_goals intros)
  ·have hk : ¬ k = f.length := by
    have := ‹(!decide (k = f.length)) = true›
    simpa using this
   exact decPost_none (by rw [hdm',if_neg hk]) (hu.comp hp.upd fun j _ hs => hs.elim id fun y => Classical.byContradiction fun hlt => y (Off.of fun x hx e => by have : w.heap.size ≤ x.b := (by revert x;simp;omega);omega))
  have hk : k = f.length := by
   have := ‹(!decide (k = f.length)) = false›
   simpa using this
  rw [if_pos hk] at hdm'
  have hM (wq : World) (H : List Blk) (hq : Hp w0 H wq) (hH : ∀ x ∈ H,w0.heap.size ≤ x.b ∨ x.b = c5 ∨ x.b = c4 ∨ x.b = c2) : MfV wq (.agg #[.int .u32 (num f 8 4),.int .i64 (num f 12 1),pv]) ⟨num f 8 4,num f 12 1,xs.map (·.1)⟩ := by
   have hoff {e sz n : Nat} {v : Value} {cs : List Value} (hr : w0.ownsRow w.heap.size e sz v n cs) (h1 : e ≠ 55) (h2 : e ≠ 28) {q : Nat} (hqq : v.ownBlock = some q) : Off H q := Off.of fun x hx e' => by
    have h3 := (hr.lt q hqq).2
    rcases hH x hx with y | y | y | y
    ·omega
    ·exact own_ne hr (hob.at (.tail _ (.head _))) h1.symm (by rw [hqq,← e',y])
    ·exact own_ne hr (hob.at (.head _)) h2.symm (by rw [hqq,← e',y])
    ·exact own_ne hr (hob.at (.tail _ (.tail _ (.head _)))) h2.symm (by rw [hqq,← e',y])
   refine ⟨pv,xs,rfl,rfl,?_,fun x hx => PyD.v (base := w.heap.size) ⟨ownsRow_upd (hpd x hx).1 hq.upd fun q hqq y => y (hoff (hpd x hx).1 (by decide) (by decide) hqq),(hpd x hx).2⟩,m8,by unfold I64;simp only;omega⟩
   rw [hxl]
   exact Sv.ofOwn (ownsRow_upd hown hq.upd fun q hqq y => y (hoff hown (by decide) (by decide) hqq))
  apply Wl.callC
  exact rfl
  (focus repeat constructor)
  intro w1 h1
  refine (rright_any _ _ w1 (hM w1 _ h1 (by simp))).mono ?_
  rintro e w2 ⟨rfl,hup⟩
  refine ⟨_,_,rfl,h1.newer hup,?_⟩
  clear h1 hup
  obtain ⟨_,ap,cp,rfl,_⟩ := Sv.ofOwn hown
  by_cases hr : rightOf ⟨num f 8 4,num f 12 1,xs.map (·.1)⟩ = 0
  ·rw [hr]
   repeat' first | (apply Gt.outCT;exact rfl;infer_instance;exact rfl;exact rfl;(focus repeat constructor);(focus repeat constructor);intro w' hp) | refine Wl.move rfl rfl ?_ | refine Wl.assign rfl rfl ?_ | refine Wl.neq rfl rfl rfl ?_ | (apply Wl.storeA;exact rfl;exact rfl;exact rfl;exact rfl;(focus repeat constructor);(repeat (first | apply LPut.s | apply LPut.z | apply LOver.nil | apply LOver.cons))) | (apply Wl.loadAH;exact rfl;exact rfl;(focus repeat constructor);(focus repeat constructor)) | apply Wl.nil | apply St.seq | apply St.region | (apply St.condF;exact rfl;(with_reducible first | rfl | assumption | decide)) | apply St.ret | apply St.skip | apply Gt.next
   refine ⟨_,by unfold decErr;rw [hdm'];simp only;rw [hr];rfl,by unfold decMan;rw [hdm'];simp only;rw [if_pos hr];exact hM _ _ hp (by simp),hu.comp hp.upd fun j _ hs => hs.elim id fun y => Classical.byContradiction fun hlt => y (Off.of fun x hx e => by have : w.heap.size ≤ x.b := (by revert x;simp;omega);omega)⟩
  ·have hr' : (rightOf ⟨num f 8 4,num f 12 1,xs.map (·.1)⟩ : Int) ≠ 0 := by omega
   repeat' first | (apply Gt.outCT;exact rfl;infer_instance;exact rfl;exact rfl;(focus repeat constructor);(focus repeat constructor);intro w' hp) | refine Wl.move rfl rfl ?_ | refine Wl.assign rfl rfl ?_ | refine Wl.neq rfl rfl rfl ?_ | (apply Wl.storeA;exact rfl;exact rfl;exact rfl;exact rfl;(focus repeat constructor);(repeat (first | apply LPut.s | apply LPut.z | apply LOver.nil | apply LOver.cons))) | (apply Wl.buildS;exact rfl;(repeat (first | exact Parts.nil | apply Parts.cons rfl));(repeat (first | apply Fills.nil | (apply Fills.one;exact rfl;exact rfl;(repeat (first | apply LSet.z | apply LSet.s))) | (apply Fills.agg;exact rfl;exact rfl;(repeat (first | apply LPut.s | apply LPut.z | apply LOver.nil | apply LOver.cons)))))) | apply Wl.nil | apply St.seq | apply St.region | apply St.ret | apply Gt.next | apply Gt.thenRet | (apply St.condP;exact rfl;all_goals (intros;try (exfalso;omega)))
   refine ⟨_,by unfold decErr;rw [hdm'],by unfold decMan;rw [hdm'];simp only;rw [if_neg hr];exact noM_v _,hu.comp hp.upd fun j _ hs => hs.elim id fun y => Classical.byContradiction fun hlt => y (Off.of fun x hx e => by have : w.heap.size ≤ x.b := (by revert x;simp;omega);omega)⟩
end Go.Proofs.YtmjlceimjlabpaaDoor
end
section
namespace Go.Proofs.YtmjlceimjlabpaaDoor
open Go.RowKit Go.Pt
theorem decErr_enc {m : Mf} (h : MfOk m) (h0 : rightOf m = 0) : decErr (encM m) = 0 := by
 unfold decErr;rw [decM_enc m h];exact h0
theorem decMan_enc {m : Mf} (h : MfOk m) (h0 : rightOf m = 0) : decMan (encM m) = m := by
 unfold decMan;rw [decM_enc m h];simp only [h0,if_true]
theorem encP_le {p : Py} (h : PyFit p) : (encP p).length ≤ 92 := by
 have := h.2.2.2.2.2.1
 simp only [encP,List.length_append,leB_length,encGs_length,h.1]
 omega
theorem encM_le {m : Mf} (h : MfOk m) : (encM m).length ≤ 40000 := by
 obtain ⟨_,_,_,h4,h5⟩ := h
 have : ∀ l : List Py,(∀ p ∈ l,PyFit p) → (l.flatMap encP).length ≤ 92 * l.length := fun l hl => by
  induction l with
  | nil => exact Nat.le_refl _
  | cons p r ih =>
   have h1 := encP_le (hl p (by simp))
   have h2 := ih fun q hq => hl q (by simp [hq])
   rw [List.flatMap_cons,List.length_append,List.length_cons]
   omega
 have := this _ h5
 simp only [encM,List.length_append,leB_length,manMark,List.length_cons,List.length_nil]
 omega
theorem one_right : rightOf oneM = 0 := by decide +kernel
theorem one_ok : MfOk oneM := rightOf_fit one_right (by decide) fun p hp => by
 have : p = _ := List.mem_singleton.1 hp
 subst this
 exact ⟨rfl,by decide⟩
theorem hpNil (w : World) : Hp w [] w := ⟨Upd.refl _ _,trivial,trivial⟩
theorem _root_.Go.Pt.Hp.rb {w0 w : World} {H : List Blk} (h : Hp w0 H w) : Hp w H w := ⟨Upd.refl _ _,h.own,h.apart⟩
theorem _root_.Go.Pt.Hp.on {w w1 w2 : World} {H : List Blk} (h : Hp w1 H w2) (hu : Upd (fun k => w.heap.size ≤ k) w w1) (hH : ∀ x ∈ H,w.heap.size ≤ x.b) : Upd (fun k => w.heap.size ≤ k) w w2 :=
 hu.comp h.upd fun j _ hs => hs.elim id fun y => Classical.byContradiction fun hlt => y (Off.of fun x hx e => by have := hH x hx;omega)
theorem _root_.Go.Pt.Hp.fin {w w1 w' : World} {H : List Blk} (hp : Hp w1 H w') (hu : Upd (fun k => w.heap.size ≤ k) w w1) (hH : ∀ x ∈ H,w.heap.size ≤ x.b) : Hp w [] w' := (hpNil w).newer (hp.on hu hH)
theorem same_hp {v v' : Value} {m : Mf} {w : World} (hv : MfV w v m) (hv' : MfV w v' m) : Calls Tryd.prog 7 #[v,v'] w fun e w' => e = .returned (.bool true) ∧ Hp w [] w' := (same_any m m v v' w hv hv').mono fun _ _ ⟨b,h1,h2,h3⟩ => ⟨by rw [h1,h2.2 rfl],(hpNil w).newer h3⟩
theorem MfV.hp {w w' : World} {v : Value} {m : Mf} {H : List Blk} (h : MfV w v m) (hp : Hp w H w') (hH : ∀ x ∈ H,w.heap.size ≤ x.b) : MfV w' v m := h.upd hp.upd fun k hk y => y (Off.of fun x hx e => by have := hH x hx;omega)
set_option maxHeartbeats 1000000 in
theorem fit07_any (w : World) : Calls Tryd.prog 4 #[] w fun e w' => e = .returned (.bool true) ∧ Hp w [] w' := by
 refine enter (args := []) (Γ := []) Tryd.func4 Tryd.ntmps4 rfl (of_decide_eq_true rfl) .nil ?_
 repeat' first | refine Wl.assign rfl rfl ?_ | apply Wl.nil | apply St.seq | apply St.region | apply Gt.next
 apply Wl.callC
 exact rfl
 (focus repeat constructor)
 intro w1 h1
 refine (one_any w1).mono ?_
 rintro e w2 ⟨v1,rfl,hm1,hu1⟩
 refine ⟨_,Hp w2 [],rfl,hpNil w2,?_⟩
 have hu2 : Upd (fun k => w.heap.size ≤ k) w w2 := Hp.on (h1.newer hu1) (Upd.refl _ _) (by simp)
 clear h1 hu1
 repeat' first | (apply Wl.splitP;exact rfl;exact rfl;all_goals (intros;try (exfalso;omega))) | (apply Wl.splitB;exact rfl;exact rfl;all_goals intros) | (apply St.condP;exact rfl;all_goals (intros;try (exfalso;omega))) | (apply St.condB;exact rfl;all_goals intros)
 apply Wl.callC
 exact rfl
 (focus repeat constructor)
 intro w3 h3
 refine (encode_any v1 oneM w3 (hm1.hp h3 (by simp))).mono ?_
 rintro e w4 ⟨hu4,⟨hne,_⟩ | ⟨_,v2,rfl,hb⟩⟩
 ·exact absurd one_right hne
 refine ⟨_,Hp w4 [],rfl,hpNil w4,?_⟩
 have hu5 : Upd (fun k => w.heap.size ≤ k) w w4 := Hp.on (h3.newer hu4) hu2 (by simp)
 clear h3 hu4 hu2 hm1
 repeat' first | (apply Wl.splitP;exact rfl;exact rfl;all_goals (intros;try (exfalso;omega))) | (apply Wl.splitB;exact rfl;exact rfl;all_goals intros) | (apply St.condP;exact rfl;all_goals (intros;try (exfalso;omega))) | (apply St.condB;exact rfl;all_goals intros)
 apply Wl.callC
 exact rfl
 (focus repeat constructor)
 intro w5 h5
 refine (decode_any v2 (encM oneM) w5 (hb.bs.upd h5.upd fun _ _ _ _ y => y trivial) (encM_le one_ok)).mono ?_
 rintro e w6 ⟨v3,rfl,hm3,hu6⟩
 rw [decErr_enc one_ok one_right,decMan_enc one_ok one_right] at *
 refine ⟨_,Hp w6 [],rfl,hpNil w6,?_⟩
 have hu7 : Upd (fun k => w.heap.size ≤ k) w w6 := Hp.on (h5.newer hu6) hu5 (by simp)
 clear h5 hu6 hu5 hb
 have hm3' := hm3
 obtain ⟨pv,xs,rfl,_,hsv,_⟩ := hm3
 obtain ⟨_,ap,cp,rfl,_⟩ := hsv
 repeat' first | refine Wl.move rfl rfl ?_ | refine Wl.assign rfl rfl ?_ | refine Wl.extract rfl rfl rfl ?_ | (apply Wl.storeA;exact rfl;exact rfl;exact rfl;exact rfl;(focus repeat constructor);(repeat (first | apply LPut.s | apply LPut.z | apply LOver.nil | apply LOver.cons))) | (apply Wl.alloc;exact rfl;intro c hc ho) | apply Wl.nil | apply St.seq | apply Gt.next
 refine St.tree (Hp w6 [_]) mixed (fun _ h => ⟨Hp.drew h,Hp.drew h⟩) ?_
 refine Mt.pure 0 (by kernel_rfl) (by exact rfl) (by exact rfl) (by kernel_rfl) (by kernel_rfl) ?_
 repeat' first | refine Wl.move rfl rfl ?_ | apply Wl.nilM
 apply Mt.back
 refine Mt.pure 1 (by kernel_rfl) (by exact rfl) (by exact rfl) (by kernel_rfl) (by kernel_rfl) ?_
 repeat' first | refine Wl.eql rfl rfl rfl ?_ | apply Wl.nilM
 apply Mt.back
 refine Mt.pure 2 (by kernel_rfl) (by exact rfl) (by exact rfl) (by kernel_rfl) (by kernel_rfl) ?_
 repeat' first | refine Wl.move rfl rfl ?_ | apply Wl.nilM
 apply Mt.back
 refine Mt.pure 3 (by kernel_rfl) (by exact rfl) (by exact rfl) (by kernel_rfl) (by kernel_rfl) ?_
 repeat' first | (apply Wl.on;exact rfl;exact rfl;(with_reducible first | rfl | assumption | decide)) | (apply Wl.loadAH;exact rfl;exact rfl;(focus repeat constructor);(focus repeat constructor)) | apply Wl.nilM
 apply Mt.back
 refine Mt.eff1 (i := 4) (by decide +kernel) (by exact rfl) ?_
 repeat' first | (apply Wl.on;exact rfl;exact rfl;(with_reducible first | rfl | assumption | decide))
 apply Wl.callC
 exact rfl
 (focus repeat constructor)
 intro w7 h7
 refine (one_any w7).mono ?_
 rintro e w8 ⟨v4,rfl,hm4,hu8⟩
 refine ⟨_,fun u => Hp w6 [_] u ∧ MfV u v4 oneM,rfl,⟨h7.newer hu8,hm4⟩,?_⟩
 repeat' first | apply Wl.nil
 refine Mt.backE (fun _ h => h.1) ?_
 refine Mt.eff1 (i := 5) (by decide +kernel) (by exact rfl) ?_
 repeat' first | (apply Wl.on;exact rfl;exact rfl;(with_reducible first | rfl | assumption | decide))
 apply Wl.callC
 exact rfl
 (focus repeat constructor)
 intro w9 h9
 refine (same_hp (hm3'.hp h9.1 (by simp;omega)) h9.2).mono ?_
 rintro e wr ⟨rfl,hr⟩
 refine ⟨_,Hp w6 [_],rfl,h9.1.keep hr,?_⟩
 repeat' first | apply Wl.nil
 refine Mt.backE (fun _ h => h) ?_
 refine Mt.pure 6 (by kernel_rfl) (by exact rfl) (by exact rfl) (by kernel_rfl) (by kernel_rfl) ?_
 repeat' first | (apply Wl.pickT;exact rfl;exact rfl;(with_reducible first | rfl | assumption | decide);exact rfl) | apply Wl.nilM
 apply Mt.back
 refine Mt.pure 7 (by kernel_rfl) (by exact rfl) (by exact rfl) (by kernel_rfl) (by kernel_rfl) ?_
 repeat' first | refine Wl.assign rfl rfl ?_ | apply Wl.nilM
 apply Mt.back
 refine Mt.toGt (by decide +kernel) ?_
 repeat' first | apply St.ret | apply Gt.next | (apply Gt.out1;exact rfl;exact rfl;intro w' hp)
 exact ⟨rfl,hp.fin hu7 (by have := hu7.size;simp;omega)⟩
end Go.Proofs.YtmjlceimjlabpaaDoor
end
section
namespace Go.Pt
open Go.RowKit
theorem results_cell_tmp2 {fn : Func} {p u q : Tmp} {ty : TypeId} (h : fn.results = #[.cell p ty,.tmp u,.tmp q]) (tmps : Array Value) (P : Program) (w : World) :
  (results fn tmps).run P w = ((asAddr (tmps.getD p undef)).run P w).andThen fun a w₁ => ((loadVar ty a).run P w₁).andThen fun v w₂ => .ok (.tuple #[v,tmps.getD u undef,tmps.getD q undef]) w₂ := by
 simp only [results,h]
 simp [Sem.run_bind,Result.andThen]
theorem Gt.outCT3 {P : Program} {N : Nat} {Γ : Env} {w0 : World} {H : List Blk} {fn : Func} {R : Ending → World → Prop} {t u q ty n c i bt : Nat} {v v2 : Value} {cs xs : List Value} (hr : fn.results = #[.cell t ty,.tmp u,.tmp q]) (hT : TyA P ty n) (ht : look Γ t = some (.pointer (some ⟨c,i,none⟩))) (hu : look Γ u = some v) (hq : look Γ q = some v2) (hm : (⟨c,cs,bt⟩ : Blk) ∈ H) (hi' : LSub cs i n xs)
  (h : ∀ w,Hp w0 H w → R (.returned (.tuple #[.agg xs.toArray,v,v2])) w) : Gt N .ret Γ (Hp w0 H) (bodyPost P fn R) := Gt.intro fun a w ha hw => by
 have hi := hi'.out.1
 have hn := hi'.out.2
 refine ⟨ha.defers,_,?_,h w hw⟩
 have hl := run_loadA (P := P) (t := ty) (w := w) (a := ⟨c,i,none⟩) hn (fun j v hj => by
  rw [addLit]
  refine hw.cell hm ?_
  subst hi
  rw [List.getElem?_take] at hj
  split at hj
  ·simpa [List.getElem?_drop] using hj
  ·cases hj)
 rw [results_cell_tmp2 hr]
 simp [ha.get _ _ ht,ha.get _ _ hu,ha.get _ _ hq,asAddr,hl]
end Go.Pt
namespace Go.Proofs.YtmjlceimjlabpaaDoor
open Go.RowKit Go.Pt
open Sha (byteAt byteAt_get byteAt_lt)
theorem off4 {x1 x2 x3 x4 : Blk} {q : Nat} (h : ¬ Off [x1,x2,x3,x4] q) : q = x1.b ∨ q = x2.b ∨ q = x3.b ∨ q = x4.b := Classical.byContradiction fun hn => h ⟨fun e => hn (.inl e.symm),fun e => hn (.inr (.inl e.symm)),fun e => hn (.inr (.inr (.inl e.symm))),fun e => hn (.inr (.inr (.inr e.symm))),trivial⟩
theorem byte8 {n : Nat} (h : n < 256) : IntKind.u8.min ≤ (n : Int) ∧ (n : Int) ≤ IntKind.u8.max := by
 have h0 : IntKind.u8.min = 0 := by decide
 have h1 : IntKind.u8.max = 255 := by decide
 omega
theorem flatE {α : Type} {g : α → List Value} {m : Nat} {xs : List α} (hg : ∀ x ∈ xs,(g x).length = m) {i j : Nat} {x : α} (hi : xs[i]? = some x) (hj : j < m) : (xs.flatMap g)[i * m + j]? = (g x)[j]? := by
 induction xs generalizing i with
 | nil => simp at hi
 | cons y ys ih =>
  rw [List.flatMap_cons]
  cases i with
  | zero =>
   simp only [List.getElem?_cons_zero,Option.some.injEq] at hi
   subst hi
   rw [List.getElem?_append_left (by rw [hg y (by simp)];omega)]
   congr 1;omega
  | succ i =>
   rw [List.getElem?_append_right (by rw [hg y (by simp),Nat.succ_mul];omega),hg y (by simp)]
   rw [List.getElem?_cons_succ] at hi
   rw [← ih (fun x hx => hg x (by simp [hx])) hi]
   congr 1;rw [Nat.succ_mul];omega
theorem offGe {H : List Blk} {n k : Nat} (hH : ∀ x ∈ H,n ≤ x.b) (h : ¬ Off H k) : n ≤ k :=
 Classical.byContradiction fun hn => h (Off.of fun x hx e => by have := hH x hx;omega)
def OpAns (f : List UInt8) (kn : Nat) (a : Int) (cn : Nat) (mv fv : Value) (e : Int) (w w' : World) : Prop := e = (opAll f kn a cn).1 ∧ MfV w' mv (opAll f kn a cn).2.1 ∧ Bss w' fv (opAll f kn a cn).2.2 ∧ (∀ k,fv.ownBlock = some k → w.heap.size ≤ k) ∧ Upd (fun k => w.heap.size ≤ k) w w'
theorem bss_nil (w : World) : Bss w (.slice none 0 0) [] := ⟨[],rfl,Sv.nil w 1,fun i x l hx => by simp at hx⟩
theorem opAns_err {f : List UInt8} {kn : Nat} {a : Int} {cn : Nat} {e : Int} {w w' : World} (h : opAll f kn a cn = (e,noM,[])) (hu : Upd (fun k => w.heap.size ≤ k) w w') : OpAns f kn a cn noV (.slice none 0 0) e w w' := by
 unfold OpAns
 rw [h]
 exact ⟨rfl,noM_v w',bss_nil w',fun k hk => (by cases hk),hu⟩
theorem decMan_key (g : List UInt8) : 0 ≤ (decMan g).key := by
 unfold decMan
 split
 ·decide
 ·rename_i m h
  split
  ·unfold decM at h
   split at h
   ·split at h
    ·cases h
    ·split at h
     ·cases h
      show (0 : Int) ≤ (num g 12 1 : Nat)
      omega
     ·cases h
   ·cases h
  ·decide
theorem decMan_pays (g : List UInt8) : (decMan g).pays.length ≤ 4 := by
 unfold decMan
 split
 ·decide
 ·split
  ·rename_i h
   unfold rightOf at h
   split at h
   ·rename_i h1;exact h1.2.2.2
   ·cases h
  ·decide
theorem MfV.updH {H : List Blk} {S : Nat → Prop} {w w' : World} {v : Value} {m : Mf} (h : MfV w v m) (ho : Own w H) (hH : ∀ x ∈ H,(∀ (i : Nat) (q : Int),x.cs[i]? ≠ some (Value.int .u8 q)) ∧ ∀ (i : Nat) (q q' : Int),x.cs[i]? = some (Value.int .u32 q) → x.cs[i + 1]? ≠ some (Value.int .u32 q')) (u : Upd S w w') (hs : ∀ k,k < w.heap.size → S k → ¬ Off H k) : MfV w' v m := by
 obtain ⟨pv,xs,h1,h2,h3,h4,h5⟩ := h
 have find : ∀ k,¬ Off H k → ∃ x ∈ H,x.b = k := fun k hk => Classical.byContradiction fun hn => hk (Off.of fun x hx e => hn ⟨x,hx,e⟩)
 refine ⟨pv,xs,h1,h2,Sv.upd h3 u fun k hk hlt hne hS => ?_,fun x hx => ⟨Sv.upd (h4 x hx).1 u fun k hk hlt hne hS => ?_,(h4 x hx).2⟩,h5⟩
 ·obtain ⟨y,hy,rfl⟩ := find k (hs k hlt hS)
  obtain ⟨_,a,cap,rfl,_,_,_,hc⟩ := h3
  obtain ⟨b,off,rfl,hcell⟩ := hc hne
  have hb : b = y.b := by simpa [Value.ownBlock] using hk
  subst hb
  cases xs with
  | nil => exact hne rfl
  | cons x0 r =>
   have hd := (h4 x0 (by simp)).2.1
   have h0 : ∃ q : Int,((x0 :: r).flatMap pyCells)[0]? = some (.int .u8 q) := by
    rw [List.flatMap_cons]
    unfold pyCells byteCells
    cases he : x0.1.dig with
    | nil => rw [he] at hd;cases hd
    | cons d ds => exact ⟨_,rfl⟩
   obtain ⟨q,h0⟩ := h0
   obtain ⟨hl0,h0⟩ := List.getElem?_eq_some_iff.1 h0
   have hh := hcell 0 hl0
   rw [h0,cellAt (ho.at hy)] at hh
   exact (hH y hy).1 _ _ (by simpa using hh)
 ·obtain ⟨y,hy,rfl⟩ := find k (hs k hlt hS)
  obtain ⟨_,a,cap,he,_,_,_,hc⟩ := (h4 x hx).1
  obtain ⟨b,off,rfl,hcell⟩ := hc hne
  rw [he] at hk
  have hb : b = y.b := by simpa [Value.ownBlock] using hk
  subst hb
  cases hg : x.1.grants with
  | nil => rw [hg] at hne;exact hne rfl
  | cons g0 r =>
   rw [hg] at hcell
   have h0 := hcell 0 (by rw [List.flatMap_cons];simp [grCells])
   have h1' := hcell 1 (by rw [List.flatMap_cons];simp [grCells])
   rw [cellAt (ho.at hy)] at h0 h1'
   exact (hH y hy).2 off g0.start g0.size (by simpa [List.flatMap_cons,grCells] using h0) (by simpa [List.flatMap_cons,grCells] using h1')
set_option maxHeartbeats 8000000 in
theorem ropen_any (iv kv : Value) (f : List UInt8) (ks : List ByteArray) (cn : Nat) (a : Int) (w : World) (hv : Bs w iv f) (hk : Ks w kv ks) (hf : f.length ≤ 40000) (hkn : ks.length ≤ 10) (hks : ∀ b ∈ ks,b.size ≤ 200) (hcn : cn < 4294967296)
  (hV : ∀ kb,ks[(decMan (part f 68 (num f 64 4))).key.toNat]? = some kb → ∀ kv mv gv wq,Bs wq kv kb.data.toList → Bs wq mv (part f 68 (num f 64 4)) → Bs wq gv (part f 0 64) → Calls Tryd.prog 21 #[kv,mv,gv] wq fun e w' => e = .returned (.int .i64 a) ∧ Hp wq [] w') :
  Calls Tryd.prog 6 #[iv,kv,.int .u32 (cn : Int)] w fun e w' => ∃ mv fv er,e = .returned (.tuple #[mv,fv,.int .i64 er]) ∧ OpAns f ks.length a cn mv fv er w w' := by
 obtain ⟨ia,ic,rfl,hlc,hm⟩ := hv.shape
 unfold maxLen at hm
 obtain ⟨hkl,ka,kc,rfl,hkc,hkm,hkz,hkcell⟩ := hk
 unfold maxLen at hkm
 refine enter (args := [_,_,_]) (Γ := [(0,_),(1,_),(2,_)]) Tryd.func6 Tryd.ntmps6 rfl (of_decide_eq_true rfl) (.cons rfl (.cons rfl (.cons rfl .nil))) ?_
 by_cases hbig : (f.length : Int) > 32768
 ·have hd : decide ((f.length : Int) > 32768) = true := decide_eq_true hbig
  repeat' first | (apply Gt.outCT3;exact rfl;infer_instance;exact rfl;exact rfl;exact rfl;(focus repeat constructor);(focus repeat constructor);intro w' hp) | refine Wl.move rfl rfl ?_ | refine Wl.assign rfl rfl ?_ | refine Wl.gtr rfl rfl rfl ?_ | refine Wl.len rfl rfl ?_ | (apply Wl.storeA;exact rfl;exact rfl;exact rfl;exact rfl;(focus repeat constructor);(repeat (first | apply LPut.s | apply LPut.z | apply LOver.nil | apply LOver.cons))) | (apply Wl.loadAH;exact rfl;exact rfl;(focus repeat constructor);(focus repeat constructor)) | (apply Wl.buildS;exact rfl;(repeat (first | exact Parts.nil | apply Parts.cons rfl));(repeat (first | apply Fills.nil | (apply Fills.one;exact rfl;exact rfl;(repeat (first | apply LSet.z | apply LSet.s))) | (apply Fills.agg;exact rfl;exact rfl;(repeat (first | apply LPut.s | apply LPut.z | apply LOver.nil | apply LOver.cons)))))) | (apply Wl.alloc;exact rfl;intro c hc ho) | apply Wl.nil | apply St.seq | apply St.region | (apply St.condT;exact rfl;(with_reducible first | rfl | assumption | decide)) | apply St.ret | apply Gt.next | apply Gt.thenRet
  exact ⟨_,_,_,rfl,opAns_err (opAll_err (by unfold opE;rw [if_pos (by omega)]) (by decide)) (hp.on (Upd.refl _ _) (by simp;omega))⟩
 have hd : decide ((f.length : Int) > 32768) = false := decide_eq_false hbig
 repeat' first | refine Wl.move rfl rfl ?_ | refine Wl.assign rfl rfl ?_ | refine Wl.gtr rfl rfl rfl ?_ | refine Wl.len rfl rfl ?_ | (apply Wl.storeA;exact rfl;exact rfl;exact rfl;exact rfl;(focus repeat constructor);(repeat (first | apply LPut.s | apply LPut.z | apply LOver.nil | apply LOver.cons))) | (apply Wl.buildS;exact rfl;(repeat (first | exact Parts.nil | apply Parts.cons rfl));(repeat (first | apply Fills.nil | (apply Fills.one;exact rfl;exact rfl;(repeat (first | apply LSet.z | apply LSet.s))) | (apply Fills.agg;exact rfl;exact rfl;(repeat (first | apply LPut.s | apply LPut.z | apply LOver.nil | apply LOver.cons)))))) | (apply Wl.boxA;exact rfl;exact rfl;intro c hc ho) | (apply Wl.alloc;exact rfl;intro c hc ho) | apply Wl.nil | apply St.seq | apply St.region | (apply St.condF;exact rfl;(with_reducible first | rfl | assumption | decide)) | apply St.skip | apply Gt.next
 generalize c = cC at *
 have hcC : w.heap.size ≤ cC := by assumption
 rename_i c6 hc6 ho6 c9 hc9 ho9
 have hbw (wq : World) (H : List Blk) (hq : Hp w H wq) (hH : ∀ x ∈ H,w.heap.size ≤ x.b) : Bs wq (.slice ia f.length ic) f := hv.upd hq.upd fun j _ hj _ hno => hno (Off.of fun x hx e => by have := hH x hx;omega)
 have hr0 : RefAt f 0 0 := ⟨Nat.zero_le _,fun _ => rfl⟩
 apply Wl.callC
 exact rfl
 (focus repeat constructor)
 intro wq hq
 refine (rtake_pos cC (.slice ia f.length ic) f 0 0 64 wq (hq.own.at (.head _)) (hbw _ _ hq (by simp;omega)) hr0).mono ?_
 rintro e wr ⟨xs,p1,rfl,hp,hp1,hxs⟩
 refine ⟨_,_,rfl,hq.callSet (by repeat constructor) hp,?_⟩
 clear hp hq wq wr
 repeat' first | refine Wl.move rfl rfl ?_ | refine Wl.assign rfl rfl ?_ | apply Wl.nil | apply St.seq | apply St.region | apply Gt.next
 apply Wl.callC
 exact rfl
 (focus repeat constructor)
 intro wq hq
 refine (rnum_pos cC (.slice ia f.length ic) f 64 p1 4 (by decide) wq (hq.own.at (.head _)) (hbw _ _ hq (by simp;omega)) hp1).mono ?_
 rintro e wr ⟨p2,rfl,hp,hp2⟩
 refine ⟨_,_,rfl,hq.callSet (by repeat constructor) hp,?_⟩
 clear hp hq wq wr
 repeat' first | refine Wl.move rfl rfl ?_ | refine Wl.assign rfl rfl ?_ | apply Wl.nil | apply St.seq | apply St.region | apply Gt.next
 have hn4 := num4 f 64
 apply Wl.callC
 exact rfl
 (focus repeat constructor)
 intro wq hq
 refine (rtake_pos cC (.slice ia f.length ic) f 68 p2 (num f 64 4) wq (hq.own.at (.head _)) (hbw _ _ hq (by simp;omega)) hp2).mono ?_
 rintro e wr ⟨xr,p3,rfl,hp,hp3,hxr⟩
 refine ⟨_,_,rfl,hq.callSet (by repeat constructor) hp,?_⟩
 clear hp hq wq wr
 have hpl := part_len f 68 (num f 64 4)
 by_cases hbad : f.length < 68 + num f 64 4
 ·have hd2 : decide (f.length < 68 + num f 64 4) = true := decide_eq_true hbad
  repeat' first | (apply Gt.outCT3;exact rfl;infer_instance;exact rfl;exact rfl;exact rfl;(focus repeat constructor);(focus repeat constructor);intro w' hp) | refine Wl.move rfl rfl ?_ | refine Wl.assign rfl rfl ?_ | refine Wl.nilCheck rfl rfl ?_ | refine Wl.fieldAddrZ rfl rfl ?_ | (apply Wl.loadH;exact rfl;exact rfl;(focus repeat constructor);exact rfl) | (apply Wl.storeA;exact rfl;exact rfl;exact rfl;exact rfl;(focus repeat constructor);(repeat (first | apply LPut.s | apply LPut.z | apply LOver.nil | apply LOver.cons))) | (apply Wl.loadAH;exact rfl;exact rfl;(focus repeat constructor);(focus repeat constructor)) | apply Wl.nil | apply St.seq | apply St.region | (apply St.condT;exact rfl;(with_reducible first | rfl | assumption | decide)) | apply St.ret | apply Gt.next | apply Gt.thenRet
  exact ⟨_,_,_,rfl,opAns_err (opAll_err (by unfold opE;rw [if_neg (by omega),if_pos hbad]) (by decide)) (hp.on (Upd.refl _ _) (by simp;omega))⟩
 have hd2 : decide (f.length < 68 + num f 64 4) = false := decide_eq_false hbad
 have hE1 : opE f ks.length a cn = if decErr (part f 68 (num f 64 4)) ≠ 0 then (decErr (part f 68 (num f 64 4)) : Int) else if (ks.length : Int) ≤ (decMan (part f 68 (num f 64 4))).key then 5 else if a ≠ 0 then a else if (decMan (part f 68 (num f 64 4))).counter < cn then 6 else 0 := by
  unfold opE
  rw [if_neg (by omega),if_neg hbad]
 have hR1 : opR f = opF f (decMan (part f 68 (num f 64 4))).pays (68 + num f 64 4) [] := rfl
 have hkey0 := decMan_key (part f 68 (num f 64 4))
 have hgl : (part f 68 (num f 64 4)).length ≤ 40000 := by
  unfold part
  rw [if_pos (by omega),List.length_take,List.length_drop]
  omega
 have hok : opAll f ks.length a cn = if opE f ks.length a cn ≠ 0 then (opE f ks.length a cn,noM,[]) else if (opR f).1 ≠ 0 then ((opR f).1,noM,[]) else (0,decMan (part f 68 (num f 64 4)),(opR f).2) := rfl
 generalize hn : num f 64 4 = n at *
 generalize hG : part f 68 n = G at *
 repeat' first | refine Wl.move rfl rfl ?_ | refine Wl.assign rfl rfl ?_ | refine Wl.nilCheck rfl rfl ?_ | refine Wl.fieldAddrZ rfl rfl ?_ | (apply Wl.loadH;exact rfl;exact rfl;(focus repeat constructor);exact rfl) | apply Wl.nil | apply St.seq | apply St.region | (apply St.condF;exact rfl;(with_reducible first | rfl | assumption | decide)) | apply St.skip | apply Gt.next
 apply Wl.callC
 ·exact rfl
 ·repeat constructor
 intro wq hq
 refine (rdecode_any xr G wq (hxr wq (hbw _ _ hq (by simp;omega))) hgl).mono ?_
 rintro e w2 ⟨mv,rfl,hmv,u2⟩
 have hq2 := hq.newer u2
 have s1 := hq.upd.size
 have s2 := u2.size
 have hall := fun x hx => hq.own.lt (x := x) hx
 simp only [List.mem_cons,List.not_mem_nil,or_false,forall_eq_or_imp,forall_eq] at hall
 have hu2 : Upd (fun k => w.heap.size ≤ k) w w2 := hq2.on (Upd.refl _ _) (by simp;omega)
 refine ⟨_,_,rfl,hq2.rb,?_⟩
 obtain ⟨pv,pys,rfl,hpys,hpsv,hpy,hctr,hkey⟩ := hmv
 have hown2 := hq2.own
 have hpsv' := hpsv
 obtain ⟨_,pa,pc,rfl,hpc1,hpc2,_,hpcell⟩ := hpsv'
 unfold maxLen at hpc2
 have hpb : pys ≠ [] → ∃ pb po,pa = some ⟨pb,po,none⟩ ∧ pb < w2.heap.size ∧ pb ≠ cC ∧ pb ≠ c9 ∧ pb ≠ c6 ∧ ∀ i (h : i < (pys.flatMap pyCells).length),w2.cell? ⟨pb,po + i,none⟩ = some (pys.flatMap pyCells)[i] := fun hne => by
  obtain ⟨y,r,rfl⟩ := List.exists_cons_of_ne_nil hne
  have hdl := (hpy y (by simp)).2.1
  have hl36 : 0 < ((y :: r).flatMap pyCells).length := by rw [List.flatMap_cons];unfold pyCells;simp;omega
  obtain ⟨pb,po,rfl,hc⟩ := hpcell (fun e => by rw [e] at hl36;cases hl36)
  have h0 := hc 0 hl36
  have hd0 : ∃ q : Int,((y :: r).flatMap pyCells)[0]? = some (.int .u8 q) := by
   rw [List.flatMap_cons]
   unfold pyCells byteCells
   cases hy : y.1.dig with
   | nil => rw [hy] at hdl;cases hdl
   | cons d ds => exact ⟨_,rfl⟩
  obtain ⟨q,hq0⟩ := hd0
  rw [List.getElem?_eq_getElem hl36] at hq0
  rw [Option.some.inj hq0] at h0
  have hlt := World.block_lt_of_cell? w2 _ h0
  have key : ∀ (x : Blk),x ∈ ([⟨cC,[.slice ia f.length ic,.int .i64 p3,.bool (decide (f.length < 68 + n))],55⟩,⟨c9,[.int .u32 0,.int .i64 0,.slice none 0 0],28⟩,⟨c6,(Value.agg #[.int .u32 0,.int .i64 0,.slice none 0 0]).cells.toList,28⟩] : List Blk) → (∀ v ∈ x.cs,∀ q,v ≠ .int .u8 q) → pb ≠ x.b := fun x hx hno e => by
   have hh := hown2.at hx
   rw [← e] at hh
   rw [cellAt hh] at h0
   exact hno _ (List.mem_of_getElem? (by simpa using h0)) q rfl
  exact ⟨pb,po,rfl,hlt,key _ (.head _) (by simp),key _ (.tail _ (.head _)) (by simp),key _ (.tail _ (.tail _ (.head _))) (by simp [Value.cells]),hc⟩
 clear hq hq2 u2
 have hp4 : pys.length ≤ 4 := by have := decMan_pays G;rw [← hpys,List.length_map] at this;exact this
 generalize hM : decMan G = M at *
 by_cases hde : decErr G = 0
 ·have hd3 : decide (((decErr G : Nat) : Int) ≠ 0) = false := decide_eq_false (by omega)
  by_cases hkk : (ks.length : Int) ≤ M.key
  ·have hd4 : decide (M.key ≥ (ks.length : Int)) = true := decide_eq_true hkk
   repeat' first | (apply Gt.outCT3;exact rfl;infer_instance;exact rfl;exact rfl;exact rfl;(focus repeat constructor);(focus repeat constructor);intro w' hp) | refine Wl.move rfl rfl ?_ | refine Wl.assign rfl rfl ?_ | refine Wl.extract rfl rfl rfl ?_ | refine Wl.fieldAddrZ rfl rfl ?_ | (apply Wl.loadH;exact rfl;exact rfl;(focus repeat constructor);exact rfl) | refine Wl.neq rfl rfl rfl ?_ | refine Wl.geq rfl rfl rfl ?_ | refine Wl.len rfl rfl ?_ | (apply Wl.storeA;exact rfl;exact rfl;exact rfl;exact rfl;(focus repeat constructor);(repeat (first | apply LPut.s | apply LPut.z | apply LOver.nil | apply LOver.cons))) | (apply Wl.loadAH;exact rfl;exact rfl;(focus repeat constructor);(focus repeat constructor)) | (apply Wl.alloc;exact rfl;intro c hc ho) | apply Wl.nil | apply St.seq | apply St.region | (apply St.condT;exact rfl;(with_reducible first | rfl | assumption | decide)) | (apply St.condF;exact rfl;(with_reducible first | rfl | assumption | decide)) | apply St.ret | apply St.skip | apply Gt.next | apply Gt.thenRet
   exact ⟨_,_,_,rfl,opAns_err (opAll_err (by rw [hE1,if_neg (fun h => h hde),if_pos hkk]) (by decide)) (hp.on hu2 (by simp;omega))⟩
  have hd4 : decide (M.key ≥ (ks.length : Int)) = false := decide_eq_false hkk
  obtain ⟨j,hj⟩ : ∃ j : Nat,M.key = (j : Int) := ⟨M.key.toNat,by omega⟩
  have hjl : j < ks.length := by omega
  obtain ⟨kg,ko,rfl,hkc1⟩ := hkcell (by intro e;have := congrArg List.length e;simp at this;subst this;simp at hjl)
  have hkj : w2.cell? ⟨kg,ko + (j : Int).toNat,none⟩ = some (.string ks[j]) := by
   have := hkc1 j (by rw [List.length_map];exact hjl)
   rw [List.getElem_map] at this
   rw [Int.toNat_natCast]
   refine hu2.cell this ?_
   have := World.block_lt_of_cell? w _ this
   simp only at this ⊢
   omega
  have hkg : kg < w.heap.size := World.block_lt_of_cell? w _ (hkc1 j (by rw [List.length_map];exact hjl))
  have hks2 : ks[j].size ≤ 200 := hks _ (List.getElem_mem hjl)
  have hVj := hV ks[j] (by rw [hj,Int.toNat_natCast];exact List.getElem?_eq_getElem hjl)
  have e6 : c6 ≠ kg := by omega
  have e9 : c9 ≠ kg := by omega
  have eC : cC ≠ kg := by omega
  rw [hj]
  have hd4' : decide ((j : Int) ≥ (ks.length : Int)) = false := decide_eq_false (by omega)
  repeat' first | (apply Wl.loadO;exact rfl;exact rfl;exact hkj;(refine ⟨?_,eC,e9,e6,trivial⟩;(simp only);omega)) | refine Wl.move rfl rfl ?_ | refine Wl.assign rfl rfl ?_ | refine Wl.extract rfl rfl rfl ?_ | refine Wl.fieldAddrZ rfl rfl ?_ | (apply Wl.loadH;exact rfl;exact rfl;(focus repeat constructor);exact rfl) | refine Wl.neq rfl rfl rfl ?_ | refine Wl.geq rfl rfl rfl ?_ | refine Wl.len rfl rfl ?_ | (apply Wl.storeA;exact rfl;exact rfl;exact rfl;exact rfl;(focus repeat constructor);(repeat (first | apply LPut.s | apply LPut.z | apply LOver.nil | apply LOver.cons))) | (apply Wl.alloc;exact rfl;intro c hc ho) | (refine Wl.indexAddr1 rfl rfl rfl ?_ ?_;constructor <;> omega) | apply Wl.nil | apply St.seq | apply St.region | (apply St.condF;exact rfl;(with_reducible first | rfl | assumption | decide)) | apply St.skip | apply Gt.next
  generalize c = c14 at *
  have hc14 : w2.heap.size ≤ c14 := by assumption
  have hH14 : ∀ x ∈ ([⟨c14,[.int .u32 M.counter,.int .i64 j,.slice pa pys.length pc],28⟩,⟨cC,[.slice ia f.length ic,.int .i64 p3,.bool (decide (f.length < 68 + n))],55⟩,⟨c9,[.int .u32 0,.int .i64 0,.slice none 0 0],28⟩,⟨c6,(Value.agg #[.int .u32 0,.int .i64 0,.slice none 0 0]).cells.toList,28⟩] : List Blk),w.heap.size ≤ x.b := by simp;omega
  apply Wl.reb
  intro w2' hw2
  refine ⟨hw2.own,hw2.apart,?_⟩
  have s2' := hw2.upd.size
  have hall2 := fun x hx => hw2.own.lt (x := x) hx
  simp only [List.mem_cons,List.not_mem_nil,or_false,forall_eq_or_imp,forall_eq] at hall2
  have hu2' : Upd (fun k => w.heap.size ≤ k) w w2' := hw2.on hu2 hH14
  apply Wl.convSB
  ·exact rfl
  ·exact rfl
  ·omega
  intro kv3 w3 hkb u3 hko
  have hu3 : Upd (fun k => w.heap.size ≤ k) w w3 := hu2'.comp u3 fun k hk hs => hs.elim id fun hs => offGe hH14 hs
  have s3 := u3.size
  repeat' first | refine Wl.move rfl rfl ?_
  apply Wl.callQ
  ·exact rfl
  ·repeat constructor
  ·intro wq hq
   have hbq : Bs wq (.slice ia f.length ic) f := hv.upd (hq.on hu3 hH14) fun q _ hq' _ hno => by omega
   exact hq.q (hVj _ _ _ wq (hkb.upd hq.upd fun q hq' _ _ hs => hs (hko q hq').2.1) (hxr wq hbq) (hxs wq hbq))
  by_cases ha : a = 0
  ·have hd5 : decide (a ≠ 0) = false := decide_eq_false (fun h => h ha)
   by_cases hcc : M.counter < cn
   ·have hd6 : decide ((M.counter : Int) < (cn : Int)) = true := decide_eq_true (by omega)
    repeat' first | (apply Gt.outCT3;exact rfl;infer_instance;exact rfl;exact rfl;exact rfl;(focus repeat constructor);(focus repeat constructor);intro w' hp) | refine Wl.move rfl rfl ?_ | refine Wl.assign rfl rfl ?_ | refine Wl.fieldAddr0 rfl rfl ?_ | (apply Wl.loadH;exact rfl;exact rfl;(focus repeat constructor);exact rfl) | (apply Wl.neqIs;exact rfl;exact rfl;exact rfl;(first | with_reducible assumption | with_reducible rfl)) | refine Wl.lss rfl rfl rfl ?_ | (apply Wl.storeA;exact rfl;exact rfl;exact rfl;exact rfl;(focus repeat constructor);(repeat (first | apply LPut.s | apply LPut.z | apply LOver.nil | apply LOver.cons))) | (apply Wl.loadAH;exact rfl;exact rfl;(focus repeat constructor);(focus repeat constructor)) | apply Wl.nil | apply St.seq | apply St.region | (apply St.condT;exact rfl;(with_reducible first | rfl | assumption | decide)) | (apply St.condF;exact rfl;(with_reducible first | rfl | assumption | decide)) | apply St.ret | apply St.skip | apply Gt.next | apply Gt.thenRet
    exact ⟨_,_,_,rfl,opAns_err (opAll_err (by rw [hE1,if_neg (fun h => h hde),if_neg hkk,if_neg (fun h => h ha),if_pos hcc]) (by decide)) (hp.on hu3 hH14)⟩
   have hd6 : decide ((M.counter : Int) < (cn : Int)) = false := decide_eq_false (by omega)
   have hE0 : opE f ks.length a cn = 0 := by rw [hE1,if_neg (fun h => h hde),if_neg hkk,if_neg (fun h => h ha),if_neg hcc]
   repeat' first | refine Wl.move rfl rfl ?_ | refine Wl.assign rfl rfl ?_ | refine Wl.fieldAddr0 rfl rfl ?_ | (apply Wl.loadH;exact rfl;exact rfl;(focus repeat constructor);exact rfl) | (apply Wl.neqIs;exact rfl;exact rfl;exact rfl;(first | with_reducible assumption | with_reducible rfl)) | refine Wl.lss rfl rfl rfl ?_ | apply Wl.nil | apply St.seq | apply St.block | apply St.region | (apply St.condF;exact rfl;(with_reducible first | rfl | assumption | decide)) | apply St.skip | apply Gt.next
   have hpl3 : pys.length ≤ 9223372036854775807 := by omega
   refine St.loop (σ := Nat × Nat × Nat × World × Value × List Value × List (List UInt8))
    (fun τ => τ.1 ≤ pys.length ∧ (τ.2.1 ≤ f.length ∧ RefAt f τ.2.1 τ.2.2.1) ∧ opR f = opF f (M.pays.drop τ.1) τ.2.1 τ.2.2.2.2.2.2 ∧ Upd (fun q => w3.heap.size ≤ q ∨ q = c14 ∨ q = cC ∨ q = c9 ∨ q = c6) w3 τ.2.2.2.1 ∧ τ.2.2.2.1.ownsRow w3.heap.size 22 1 τ.2.2.2.2.1 τ.1 τ.2.2.2.2.2.1 ∧ τ.2.2.2.2.2.2.length = τ.1 ∧ (∀ q x l,τ.2.2.2.2.2.1[q]? = some x → τ.2.2.2.2.2.2[q]? = some l → ∀ u,Bs u (.slice ia f.length ic) f → Bs u x l))
    (fun τ => [(6,.pointer (some ⟨c6,0,none⟩)),(9,.pointer (some ⟨c9,0,none⟩)),(10,.pointer (some ⟨cC,0,none⟩)),(14,.pointer (some ⟨c14,0,none⟩)),(16,τ.2.2.2.2.1),(17,.int .i64 (τ.1 : Int))])
    (fun τ => Hp τ.2.2.2.1 [⟨c14,[.int .u32 M.counter,.int .i64 j,.slice pa pys.length pc],28⟩,⟨cC,[.slice ia f.length ic,.int .i64 τ.2.2.1,.bool (decide (f.length < τ.2.1))],55⟩,⟨c9,[.int .u32 0,.int .i64 0,.slice none 0 0],28⟩,⟨c6,(Value.agg #[.int .u32 0,.int .i64 0,.slice none 0 0]).cells.toList,28⟩])
    (fun τ => pys.length - τ.1) (0,68 + n,p3,w3,.slice none 0 0,[],[]) ⟨Nat.zero_le _,⟨by simp only;omega,hp3⟩,hR1,Upd.refl _ _,⟨rfl,.inl ⟨rfl,rfl⟩⟩,rfl,by intro q x l hx;cases (List.getElem?_nil (α := Value) (i := q)).symm.trans hx⟩ (by repeat constructor) (fun _ h => h) ?_
   rintro ⟨i,k,p,w0,fv,vs,acc⟩ ⟨hi,⟨hkf,hpk⟩,hop,hu0,hrow,hal,hfs⟩
   simp only at hi hkf hpk hop hu0 hrow hal hfs ⊢
   have s30 := hu0.size
   have hHk : ∀ (p' k' : Nat),∀ x ∈ ([⟨c14,[.int .u32 M.counter,.int .i64 j,.slice pa pys.length pc],28⟩,⟨cC,[.slice ia f.length ic,.int .i64 p',.bool (decide (f.length < k'))],55⟩,⟨c9,[.int .u32 0,.int .i64 0,.slice none 0 0],28⟩,⟨c6,(Value.agg #[.int .u32 0,.int .i64 0,.slice none 0 0]).cells.toList,28⟩] : List Blk),w.heap.size ≤ x.b := by simp;omega
   have huw : Upd (fun q => w.heap.size ≤ q) w w0 := hu3.comp hu0 fun q hq hs => by omega
   have hbq : ∀ {p' k' : Nat} {wq : World},Hp w0 [⟨c14,[.int .u32 M.counter,.int .i64 j,.slice pa pys.length pc],28⟩,⟨cC,[.slice ia f.length ic,.int .i64 p',.bool (decide (f.length < k'))],55⟩,⟨c9,[.int .u32 0,.int .i64 0,.slice none 0 0],28⟩,⟨c6,(Value.agg #[.int .u32 0,.int .i64 0,.slice none 0 0]).cells.toList,28⟩] wq → Bs wq (.slice ia f.length ic) f := fun hq => hv.upd (hq.on huw (hHk _ _)) fun q _ hq' _ hno => by omega
   by_cases hlt : i < pys.length
   ·have hd7 : decide ((i : Int) < (pys.length : Int)) = true := decide_eq_true (by omega)
    obtain ⟨pb,po,rfl,hpbl,hbC,hb9,hb6,hpc⟩ := hpb (fun e => by subst e;cases hlt)
    obtain ⟨y,hy⟩ : ∃ y,pys[i]? = some y := ⟨_,List.getElem?_eq_getElem hlt⟩
    have hym : y ∈ pys := List.mem_of_getElem? hy
    obtain ⟨_,hdl,hsz,_⟩ := hpy y hym
    have hcell : ∀ q v,(pyCells y)[q]? = some v → q < 36 → w0.cell? ⟨pb,po + (i * 36 + q),none⟩ = some v := fun q v hq h36 => by
     have h1 := flatE (g := pyCells) (m := 36) (fun x hx => pyCells_len x (hpy x hx).2.1) hy h36
     rw [hq] at h1
     obtain ⟨h2,h3⟩ := List.getElem?_eq_some_iff.1 h1
     have h4 := hpc _ h2
     rw [h3] at h4
     exact hu0.cell (u3.cell (hw2.upd.cell h4 fun hs => hs ⟨by simp only;omega,hbC.symm,hb9.symm,hb6.symm,trivial⟩) fun hs => hs ⟨by simp only;omega,hbC.symm,hb9.symm,hb6.symm,trivial⟩) (by simp only;omega)
    have hcs : w0.cell? ⟨pb,po + (i : Int).toNat * 36 + 32,none⟩ = some (.int .u32 (y.1.size : Int)) := by
     rw [Int.toNat_natCast,Nat.add_assoc]
     refine hcell 32 _ ?_ (by decide)
     unfold pyCells
     rw [List.getElem?_append_right (by simp [byteCells,hdl])]
     simp [byteCells,hdl]
    have hdrop : M.pays.drop i = y.1 :: M.pays.drop (i + 1) := by
     have : M.pays[i]? = some y.1 := by rw [← hpys,List.getElem?_map,hy];rfl
     obtain ⟨h1,h2⟩ := List.getElem?_eq_some_iff.1 this
     rw [List.drop_eq_getElem_cons h1,h2]
    have e14 : c14 ≠ pb := by omega
    have eC' : cC ≠ pb := Ne.symm hbC
    have e9' : c9 ≠ pb := Ne.symm hb9
    have e6' : c6 ≠ pb := Ne.symm hb6
    repeat' first | (apply Wl.loadO;exact rfl;exact rfl;exact hcs;(exact ⟨e14,eC',e9',e6',trivial⟩)) | refine Wl.move rfl rfl ?_ | refine Wl.fieldAddrZ rfl rfl ?_ | refine Wl.fieldAddr rfl rfl ?_ | (apply Wl.loadH;exact rfl;exact rfl;(focus repeat constructor);exact rfl) | refine Wl.lss rfl rfl rfl ?_ | (refine Wl.convI64 rfl rfl ?_ ?_;constructor <;> omega) | refine Wl.len rfl rfl ?_ | (refine Wl.indexAddr rfl rfl rfl ?_ ?_;constructor <;> omega) | apply Wl.nil | apply St.seq | apply St.block | apply St.region | (apply St.condT;exact rfl;(with_reducible first | rfl | assumption | decide)) | apply St.skip | apply Gt.next
    apply Wl.callC
    exact rfl
    (focus repeat constructor)
    intro wq hq
    refine (rtake_pos cC (.slice ia f.length ic) f k p y.1.size wq (hq.own.at (.tail _ (.head _))) (hbq hq) hpk).mono ?_
    rintro e wr ⟨xf,p',rfl,hp,hpk',hxf⟩
    refine ⟨_,_,rfl,hq.callSet (by repeat constructor) hp,?_⟩
    clear hp hq wq wr
    by_cases hbd : f.length < k + y.1.size
    ·have hd8 : decide (f.length < k + y.1.size) = true := decide_eq_true hbd
     repeat' first | (apply Gt.outCT3;exact rfl;infer_instance;exact rfl;exact rfl;exact rfl;(focus repeat constructor);(focus repeat constructor);intro w' hp) | refine Wl.move rfl rfl ?_ | refine Wl.assign rfl rfl ?_ | refine Wl.nilCheck rfl rfl ?_ | refine Wl.fieldAddrZ rfl rfl ?_ | (apply Wl.loadH;exact rfl;exact rfl;(focus repeat constructor);exact rfl) | (apply Wl.storeA;exact rfl;exact rfl;exact rfl;exact rfl;(focus repeat constructor);(repeat (first | apply LPut.s | apply LPut.z | apply LOver.nil | apply LOver.cons))) | (apply Wl.loadAH;exact rfl;exact rfl;(focus repeat constructor);(focus repeat constructor)) | apply Wl.nil | apply St.seq | apply St.region | (apply St.condT;exact rfl;(with_reducible first | rfl | assumption | decide)) | apply St.ret | apply Gt.next | apply Gt.thenRet | apply Gt.inRet
     exact ⟨_,_,_,rfl,opAns_err (opAll_bad hE0 (by rw [hop,hdrop];unfold opF;rw [if_pos hbd]) (by decide)) (hp.on huw (hHk _ _))⟩
    have hd8 : decide (f.length < k + y.1.size) = false := decide_eq_false hbd
    have hpkl : (part f k y.1.size).length ≤ 40000 := by
     unfold part
     rw [if_pos (by omega),List.length_take,List.length_drop]
     omega
    have hdv : byteCells y.1.dig = cellsN .u8 32 (byteAt y.1.dig) := by
     rw [← hdl]
     refine List.ext_getElem (by simp [byteCells,cellsN]) fun q h1 h2 => ?_
     have hq' : q < y.1.dig.length := by simpa [byteCells] using h1
     simp [byteCells,cellsN,byteAt_get hq']
    have hdc : ∀ q v,(cellsN .u8 32 (byteAt y.1.dig))[q]? = some v → w0.cell? ⟨pb,po + (i * 36 + q),none⟩ = some v := fun q v hq => by
     rw [← hdv] at hq
     have hq' : q < 32 := by
      obtain ⟨h1,_⟩ := List.getElem?_eq_some_iff.1 hq
      simpa [byteCells,hdl] using h1
     refine hcell q v ?_ (by omega)
     unfold pyCells
     rw [List.getElem?_append_left (by simp [byteCells,hdl];omega)]
     exact hq
    have s31 := huw.size
    have hbX : ∀ {H' : List Blk} {wq : World},Hp w0 H' wq → (∀ q,q < w.heap.size → Off H' q) → Bs wq (.slice ia f.length ic) f := fun hq hO => (hv.upd huw fun q _ hq' _ hs => by omega).upd hq.upd fun q hown hlt hne hno => hno (hO q (hv.oldB hne q hown))
    have hlt8 : ∀ q,Sha.of (part f k y.1.size) q < 256 := fun q => by rw [Sha.of_eq];exact Nat.mod_lt _ (by decide)
    have hsd : shaL (part f k y.1.size) = y.1.dig ↔ ∀ j,j < 32 → Sha.of (part f k y.1.size) j = byteAt y.1.dig j := by
     constructor
     ·intro e q hq
      rw [← e,byteAt_get (by rw [shaL_len];exact hq)]
      simp only [shaL,List.getElem_map,List.getElem_range]
      rw [UInt8.toNat_ofNat']
      exact (Nat.mod_eq_of_lt (hlt8 q)).symm
     ·intro e
      refine List.ext_getElem (by rw [shaL_len,hdl]) fun q h1 h2 => ?_
      have hq : q < 32 := by rw [shaL_len] at h1;exact h1
      have := e q hq
      rw [byteAt_get h2] at this
      simp only [shaL,List.getElem_map,List.getElem_range]
      rw [this]
      simp
    by_cases hsm : shaL (part f k y.1.size) = y.1.dig
    ·have hbb := fun (_ : true = true) => hsd.1 hsm
     have hbt : true = true ↔ ∀ j,j < 32 → Sha.of (part f k y.1.size) j = byteAt y.1.dig j := ⟨hbb,fun _ => rfl⟩
     repeat' first | (apply St.bagX 9 [8];exact mixed;(decide +kernel);kernel_rfl) | (apply Wl.loadAF (xs := cellsN .u8 32 (byteAt y.1.dig));exact rfl;exact rfl;exact cellsN_len _ _ _;(intro wq hq q v hq';rw [addLit,Int.toNat_natCast,Nat.add_assoc];exact hq.old (hdc q v hq') (by show Off _ pb;(repeat (first | exact trivial | exact hX.off (by omega) | refine ⟨by first | assumption | omega | (simp only;omega),?_⟩))))) | (apply Wl.callQ (f := 22);exact rfl;(focus repeat constructor);(intro wq hq;refine (refSum xf (part f k y.1.size) wq (hxf wq (hbX hq fun q hq' => by (repeat (first | exact trivial | exact hX.off (by omega) | refine ⟨by first | assumption | omega | (simp only;omega),?_⟩)))) (by omega) (fun hne => (hxf wq (hbX hq fun q hq' => by (repeat (first | exact trivial | exact hX.off (by omega) | refine ⟨by first | assumption | omega | (simp only;omega),?_⟩)))).oldB hne)).mono ?_;rintro e wr ⟨rfl,hr⟩;exact ⟨rfl,hq.keep hr⟩)) | (apply Wl.neqA;exact rfl;exact rfl;exact rfl;kernel_rfl;kernel_rfl;kernel_rfl;kernel_rfl;(exact fun j _ => byte8 (hlt8 j));(exact fun j _ => byte8 (byteAt_lt _ j));exact hbt) | apply OpsX.nil | (apply OpsX.v;(intro X hX;change Wl [_] _ _ _ _ _ _ _;apply Wl.catX;(focus repeat constructor))) | (apply Gt.endX;exact rfl) | (apply EndX.on;exact rfl) | (apply EndX.off;exact rfl) | (apply EndX.nil';apply Wl.catE;(focus repeat constructor)) | refine Wl.move rfl rfl ?_ | refine Wl.assign rfl rfl ?_ | refine Wl.nilCheck rfl rfl ?_ | refine Wl.fieldAddr0 rfl rfl ?_ | refine Wl.fieldAddrZ rfl rfl ?_ | (apply Wl.loadH;exact rfl;exact rfl;(focus repeat constructor);exact rfl) | (refine Wl.indexAddr rfl rfl rfl ?_ ?_;constructor <;> omega) | apply Wl.nil | apply St.seq | apply St.region | (apply St.condF;exact rfl;(with_reducible first | rfl | assumption | decide)) | apply St.skip | apply Gt.next
     have hfx := hxf w0 (hv.upd huw fun q _ hq' _ hs => by omega)
     obtain ⟨xa,xc,rfl,_,_⟩ := hfx.shape
     apply Wl.lit
     ·exact rfl
     ·(repeat (first | exact Parts.nil | apply Parts.cons rfl))
     ·exact rfl
     ·exact rfl
     ·(repeat (first | apply CatP.nil | (apply CatP.one;exact rfl;exact rfl) | (apply CatP.agg;exact rfl) | apply LApp.nil | apply LApp.cons))
     intro d hd hod
     repeat' first | (apply Wl.splitP;exact rfl;exact rfl;all_goals (intros;try (exfalso;omega))) | (apply Wl.splitB;exact rfl;exact rfl;all_goals intros) | (apply St.condP;exact rfl;all_goals (intros;try (exfalso;omega))) | (apply St.condB;exact rfl;all_goals intros)
     apply Wl.appendT
     ·exact rfl
     ·exact rfl
     ·exact rfl
     ·exact hd
     ·exact rfl
     ·exact hrow
     ·exact fun q hq => by have := (hrow.lt q hq).1;exact ⟨fun e => by simp only at e;omega,fun e => by simp only at e;omega,fun e => by simp only at e;omega,fun e => by simp only at e;omega,trivial⟩
     ·exact rfl
     ·exact rfl
     ·decide
     ·unfold maxLen;omega
     ·omega
     ·exact s30
     intro v' w4 ho4 u4 _ hoff4
     obtain ⟨_,va,vk,rfl,_⟩ := Sv.ofOwn ho4
     have hcc : c9 < w3.heap.size ∧ c6 < w3.heap.size ∧ cC < w3.heap.size ∧ c14 < w3.heap.size := by omega
     have hu4 : Upd (fun q => w3.heap.size ≤ q ∨ q = c14 ∨ q = cC ∨ q = c9 ∨ q = c6) w3 w4 := hu0.comp u4 fun q hq hs => hs.elim id fun hs => hs.elim (fun e => .inl (hrow.lt q e).1) fun h => Classical.byContradiction fun hn => h ⟨fun e => hn (.inr (.inl e.symm)),fun e => hn (.inr (.inr (.inl e.symm))),fun e => hn (.inr (.inr (.inr (.inl e.symm)))),fun e => hn (.inr (.inr (.inr (.inr e.symm)))),trivial⟩
     repeat' first | refine Wl.move rfl rfl ?_ | refine Wl.assign rfl rfl ?_ | (refine Wl.addI rfl rfl rfl ?_ ?_;constructor <;> omega) | apply Wl.nil | apply St.region | apply Gt.next | apply Gt.inNormal
     apply Gt.round (i + 1,k + y.1.size,p',w4,.slice va (i + 1) vk,vs ++ [.slice xa (part f k y.1.size).length xc],acc ++ [part f k y.1.size])
     rotate_left
     ·simp only;omega
     ·repeat constructor
     ·exact fun _ h => h
     refine ⟨hlt,⟨by simp only;omega,hpk'⟩,?_,hu4,ho4,by simp only [List.length_append,List.length_singleton];omega,?_⟩
     ·rw [hop,hdrop]
      show opF f (y.1 :: M.pays.drop (i + 1)) k acc = opF f (M.pays.drop (i + 1)) (k + y.1.size) (acc ++ [part f k y.1.size])
      conv => lhs;unfold opF
      rw [if_neg hbd,if_neg (fun h => h hsm)]
     ·intro q x l hx hl u hu
      have hvl : vs.length = i := by have := hrow.1;omega
      simp only at hx hl
      by_cases hqi : q < i
      ·rw [List.getElem?_append_left (by omega)] at hx hl
       exact hfs q x l hx hl u hu
      ·obtain ⟨h1,_⟩ := List.getElem?_eq_some_iff.1 hx
       rw [List.length_append,List.length_singleton] at h1
       rw [List.getElem?_append_right (by omega),show q - vs.length = 0 by omega] at hx
       rw [List.getElem?_append_right (by omega),show q - acc.length = 0 by omega] at hl
       cases hx
       cases hl
       exact hxf u hu
    ·have hbt : false = true ↔ ∀ j,j < 32 → Sha.of (part f k y.1.size) j = byteAt y.1.dig j := ⟨fun h => (by cases h),fun h => (hsm (hsd.2 h)).elim⟩
     repeat' first | (apply St.bagX 9 [8];exact mixed;(decide +kernel);kernel_rfl) | (apply Wl.loadAF (xs := cellsN .u8 32 (byteAt y.1.dig));exact rfl;exact rfl;exact cellsN_len _ _ _;(intro wq hq q v hq';rw [addLit,Int.toNat_natCast,Nat.add_assoc];exact hq.old (hdc q v hq') (by show Off _ pb;(repeat (first | exact trivial | exact hX.off (by omega) | refine ⟨by first | assumption | omega | (simp only;omega),?_⟩))))) | (apply Wl.callQ (f := 22);exact rfl;(focus repeat constructor);(intro wq hq;refine (refSum xf (part f k y.1.size) wq (hxf wq (hbX hq fun q hq' => by (repeat (first | exact trivial | exact hX.off (by omega) | refine ⟨by first | assumption | omega | (simp only;omega),?_⟩)))) (by omega) (fun hne => (hxf wq (hbX hq fun q hq' => by (repeat (first | exact trivial | exact hX.off (by omega) | refine ⟨by first | assumption | omega | (simp only;omega),?_⟩)))).oldB hne)).mono ?_;rintro e wr ⟨rfl,hr⟩;exact ⟨rfl,hq.keep hr⟩)) | (apply Wl.neqA;exact rfl;exact rfl;exact rfl;kernel_rfl;kernel_rfl;kernel_rfl;kernel_rfl;(exact fun j _ => byte8 (hlt8 j));(exact fun j _ => byte8 (byteAt_lt _ j));exact hbt) | apply OpsX.nil | (apply OpsX.v;(intro X hX;change Wl [_] _ _ _ _ _ _ _;apply Wl.catX;(focus repeat constructor))) | (apply Gt.endX;exact rfl) | (apply EndX.on;exact rfl) | (apply EndX.off;exact rfl) | (apply EndX.nil';apply Wl.catE;(focus repeat constructor)) | (apply Gt.outCT3;exact rfl;infer_instance;exact rfl;exact rfl;exact rfl;(focus repeat constructor);(focus repeat constructor);intro w' hp) | refine Wl.move rfl rfl ?_ | refine Wl.assign rfl rfl ?_ | refine Wl.nilCheck rfl rfl ?_ | refine Wl.fieldAddr0 rfl rfl ?_ | refine Wl.fieldAddrZ rfl rfl ?_ | (apply Wl.loadH;exact rfl;exact rfl;(focus repeat constructor);exact rfl) | (apply Wl.storeA;exact rfl;exact rfl;exact rfl;exact rfl;(focus repeat constructor);(repeat (first | apply LPut.s | apply LPut.z | apply LOver.nil | apply LOver.cons))) | (apply Wl.loadAH;exact rfl;exact rfl;(focus repeat constructor);(focus repeat constructor)) | (refine Wl.indexAddr rfl rfl rfl ?_ ?_;constructor <;> omega) | apply Wl.nil | apply St.seq | apply St.region | (apply St.condT;exact rfl;(with_reducible first | rfl | assumption | decide)) | (apply St.condF;exact rfl;(with_reducible first | rfl | assumption | decide)) | apply St.ret | apply St.skip | apply Gt.next | apply Gt.thenRet | apply Gt.inRet
     exact ⟨_,_,_,rfl,opAns_err (opAll_bad hE0 (by rw [hop,hdrop];unfold opF;rw [if_neg hbd,if_pos hsm]) (by decide)) (hp.on huw (hHk _ _))⟩
   ·obtain rfl : i = pys.length := by omega
    have hd7 : decide ((pys.length : Int) < (pys.length : Int)) = false := decide_eq_false (by omega)
    have hbf : decide (f.length < k) = false := decide_eq_false (by omega)
    have hdn : M.pays.drop pys.length = [] := List.drop_eq_nil_of_le (by rw [← hpys,List.length_map];exact Nat.le_refl _)
    repeat' first | refine Wl.move rfl rfl ?_ | refine Wl.fieldAddrZ rfl rfl ?_ | (apply Wl.loadH;exact rfl;exact rfl;(focus repeat constructor);exact rfl) | refine Wl.lss rfl rfl rfl ?_ | refine Wl.len rfl rfl ?_ | apply Wl.nil | apply St.seq | apply St.region | (apply St.condF;exact rfl;(with_reducible first | rfl | assumption | decide)) | apply St.exit | apply Gt.next | apply Gt.thenExit | apply Gt.inExit
    apply Wl.callQ
    exact rfl
    (focus repeat constructor)
    ·intro wq hq
     exact hq.q (rend_any cC (.slice ia f.length ic) f p _ wq wq (hq.own.at (.tail _ (.head _))) (hbq hq))
    rw [hbf]
    by_cases hkl2 : k = f.length
    ·have hpe : decide (p = f.length) = true := decide_eq_true (by rw [hpk.2 hkf];exact hkl2)
     rw [hpe,show (!false && true) = true from rfl]
     repeat' first | (apply Gt.outCT3;exact rfl;infer_instance;exact rfl;exact rfl;exact rfl;(focus repeat constructor);(focus repeat constructor);intro w' hp) | refine Wl.move rfl rfl ?_ | refine Wl.assign rfl rfl ?_ | refine Wl.not rfl rfl ?_ | (apply Wl.storeA;exact rfl;exact rfl;exact rfl;exact rfl;(focus repeat constructor);(repeat (first | apply LPut.s | apply LPut.z | apply LOver.nil | apply LOver.cons))) | (apply Wl.loadAH;exact rfl;exact rfl;(focus repeat constructor);(focus repeat constructor)) | apply Wl.nil | apply St.seq | apply St.region | (apply St.condF;exact rfl;(with_reducible first | rfl | assumption | decide)) | apply St.ret | apply St.skip | apply Gt.next
     have hor : opR f = (0,acc) := by rw [hop,hdn];unfold opF;rw [if_pos hkl2]
     have hmv : MfV w2 (.agg #[.int .u32 M.counter,.int .i64 j,.slice pa pys.length pc]) M := ⟨_,pys,by rw [hj],hpys,hpsv,hpy,hctr,hkey⟩
     have hS : Upd (fun q => w2.heap.size ≤ q ∨ q = c14 ∨ q = cC ∨ q = c9 ∨ q = c6) w2 w' := by
      have a1 : Upd (fun q => w2.heap.size ≤ q ∨ q = c14 ∨ q = cC ∨ q = c9 ∨ q = c6) w2 w3 := hw2.upd.comp u3 fun q _ hs => hs.elim (fun h => .inr (off4 h)) fun h => .inr (off4 h)
      have a2 : Upd (fun q => w2.heap.size ≤ q ∨ q = c14 ∨ q = cC ∨ q = c9 ∨ q = c6) w2 w0 := a1.comp hu0 fun q _ hs => by omega
      exact a2.comp hp.upd fun q _ hs => hs.elim id fun h => .inr (off4 h)
     have hvl : vs.length = pys.length := by have := hrow.1;omega
     have hwf : Upd (fun q => w.heap.size ≤ q) w w' := hp.on huw (by simp;omega)
     refine ⟨_,_,_,rfl,?_⟩
     unfold OpAns
     rw [opAll_ok hE0 hor,hn,hG,hM]
     refine ⟨rfl,hmv.updH hown2 ?_ hS ?_,⟨vs,hvl.trans hal.symm,?_,?_⟩,fun q hqq => by have := (hrow.lt q hqq).1;have := hu3.size;omega,hwf⟩
     ·simp only [List.mem_cons,List.not_mem_nil,or_false,forall_eq_or_imp,forall_eq]
      refine ⟨⟨?_,?_⟩,⟨?_,?_⟩,⟨?_,?_⟩⟩ <;> intro i <;> (rcases i with _ | _ | _ | i) <;> simp [Value.cells]
     ·intro q hq hs ho
      rcases hs with h | h | h | h | h
      ·omega
      ·omega
      ·exact ho.1 h.symm
      ·exact ho.2.1 h.symm
      ·exact ho.2.2.1 h.symm
     ·rw [hvl]
      exact Sv.ofOwn (ownsRow_upd hrow hp.upd fun q hqq y => y (by have := (hrow.lt q hqq).1;exact ⟨fun e => by simp only at e;omega,fun e => by simp only at e;omega,fun e => by simp only at e;omega,fun e => by simp only at e;omega,trivial⟩))
     ·exact fun q x l hx hl => hfs q x l hx hl w' (hv.upd hwf fun q _ hq' _ hs => by omega)
    ·have hpe : decide (p = f.length) = false := decide_eq_false (by rw [hpk.2 hkf];exact hkl2)
     rw [hpe,show (!false && false) = false from rfl]
     repeat' first | (apply Gt.outCT3;exact rfl;infer_instance;exact rfl;exact rfl;exact rfl;(focus repeat constructor);(focus repeat constructor);intro w' hp) | refine Wl.assign rfl rfl ?_ | refine Wl.not rfl rfl ?_ | (apply Wl.storeA;exact rfl;exact rfl;exact rfl;exact rfl;(focus repeat constructor);(repeat (first | apply LPut.s | apply LPut.z | apply LOver.nil | apply LOver.cons))) | (apply Wl.loadAH;exact rfl;exact rfl;(focus repeat constructor);(focus repeat constructor)) | apply Wl.nil | apply St.seq | apply St.region | (apply St.condT;exact rfl;(with_reducible first | rfl | assumption | decide)) | apply St.ret | apply Gt.next | apply Gt.thenRet
     exact ⟨_,_,_,rfl,opAns_err (opAll_bad hE0 (by rw [hop,hdn];unfold opF;rw [if_neg hkl2]) (by decide)) (hp.on huw (by simp;omega))⟩
  ·have hd5 : decide (a ≠ 0) = true := decide_eq_true ha
   repeat' first | (apply Gt.outCT3;exact rfl;infer_instance;exact rfl;exact rfl;exact rfl;(focus repeat constructor);(focus repeat constructor);intro w' hp) | refine Wl.move rfl rfl ?_ | refine Wl.assign rfl rfl ?_ | refine Wl.neq rfl rfl rfl ?_ | (apply Wl.storeA;exact rfl;exact rfl;exact rfl;exact rfl;(focus repeat constructor);(repeat (first | apply LPut.s | apply LPut.z | apply LOver.nil | apply LOver.cons))) | (apply Wl.loadAH;exact rfl;exact rfl;(focus repeat constructor);(focus repeat constructor)) | apply Wl.nil | apply St.seq | apply St.region | (apply St.condT;exact rfl;(with_reducible first | rfl | assumption | decide)) | apply St.ret | apply Gt.next | apply Gt.thenRet
   exact ⟨_,_,_,rfl,opAns_err (opAll_err (by rw [hE1,if_neg (fun h => h hde),if_neg hkk,if_pos ha]) ha) (hp.on hu3 hH14)⟩
 ·have hd3 : decide (((decErr G : Nat) : Int) ≠ 0) = true := decide_eq_true (by omega)
  repeat' first | (apply Gt.outCT3;exact rfl;infer_instance;exact rfl;exact rfl;exact rfl;(focus repeat constructor);(focus repeat constructor);intro w' hp) | refine Wl.move rfl rfl ?_ | refine Wl.assign rfl rfl ?_ | refine Wl.extract rfl rfl rfl ?_ | refine Wl.neq rfl rfl rfl ?_ | (apply Wl.storeA;exact rfl;exact rfl;exact rfl;exact rfl;(focus repeat constructor);(repeat (first | apply LPut.s | apply LPut.z | apply LOver.nil | apply LOver.cons))) | (apply Wl.loadAH;exact rfl;exact rfl;(focus repeat constructor);(focus repeat constructor)) | (apply Wl.alloc;exact rfl;intro c hc ho) | apply Wl.nil | apply St.seq | apply St.region | (apply St.condT;exact rfl;(with_reducible first | rfl | assumption | decide)) | apply St.ret | apply Gt.next | apply Gt.thenRet
  exact ⟨_,_,_,rfl,opAns_err (opAll_err (by rw [hE1,if_pos hde]) (by omega)) (hp.on hu2 (by simp;omega))⟩
end Go.Proofs.YtmjlceimjlabpaaDoor
end
section
namespace Go.Pt
open Go.RowKit
section
variable {P : Program} {md : Md} {ops : Array Oper} {N : Nat} {rest : List Oper} {Γ : Env} {C : World → Prop} {Q : Exit → Act → World → Prop} {d : Nat} {ty : TypeId} {pos : String} {af : Array Edge}
theorem exec_callVB {f : FuncId} {bs vs : List Value} [hE : Ent P f] {a : Act} {w : World} {N : Nat} {Γ : Env} (ha : Fr N a Γ) {x : Operand} (hf : ev Γ x = some (.func (.func f) bs.toArray #[])) {d : Option Nat} {xs : Array Operand} {ts : Array TypeId} {ty : TypeId} {pos : String} {af : Array Edge} {g : Option (Nat × Bool)} (hx : Evs Γ xs.toList vs) :
  (execOp a.eval ⟨d,.call { callee := .value x,args := xs,argTypes := ts },ty,pos,af,g⟩).run P w = .ok (.enter f (bs ++ vs).toArray) w := by
 have e : xs.map a.eval = vs.toArray := by
  obtain ⟨l⟩ := xs
  simp only [List.map_toArray]
  exact congrArg _ (hx.map ha)
 simp [execOp,resolve,e,ha.ev hf,Deferred.ofValue,invoke,hE.out]
theorem Wl.callVB {f : FuncId} {x : Operand} {xs : Array Operand} {bs vs : List Value} {ts : Array TypeId} (hd : Nat.blt d N = true) (hf : ev Γ x = some (.func (.func f) bs.toArray #[])) (_hE : Ent P f) (hx : Evs Γ xs.toList vs)
  (h : ∀ w,C w → Calls P f (bs ++ vs).toArray w fun e w' => ∃ v C',e = .returned v ∧ C' w' ∧ Wl rest P .seq ops N ((d,v) :: Γ) C' Q) :
  Wl (⟨some d,.call { callee := .value x,args := xs,argTypes := ts },ty,pos,af,none⟩ :: rest) P .seq ops N Γ C Q := Wl.intro fun a w ha hw => by
 refine wpList_plain rfl fun K hK => ?_
 simp only [Oper.wp,exec_callVB ha hf hx,Oper.upon]
 refine (h w hw).mono ?_
 rintro e w' ⟨v,C',rfl,hC,h⟩
 exact hK _ _ (h.elim _ _ (ha.put hd _) hC)
theorem Wl.makeF1 {f : FuncId} {x : Operand} {v : Value} (hd : Nat.blt d N = true) (hx : ev Γ x = some v) (h : Wl rest P md ops N ((d,.func (.func f) #[v] #[]) :: Γ) C Q) : Wl (⟨some d,.makeFunc (.func f) #[x] #[],ty,pos,af,none⟩ :: rest) P md ops N Γ C Q :=
 Wl.val hd (fun a w ha _ => by simp [execOp,ha.ev hx,Instr.makeFunc]) h
end
end Go.Pt
end
