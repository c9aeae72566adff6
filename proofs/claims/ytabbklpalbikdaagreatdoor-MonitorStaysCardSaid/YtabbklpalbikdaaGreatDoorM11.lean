/-
 2 texts,one behind the other;each says what it proves. Conditions: as each text says.
-/
import Derived.Test.YtabbklpalbikdaaGreatDoorM10
import Derived.Test.YtabbklpalbikdaaGreatDoorM02
import Derived.Test.YtabbklpalbikdaaGreatDoorRows
import Derived.WalkKit
import Derived.ProofKit
import Derived.LaidMore
import Derived.OpenShut
import Derived.ShutString
import Derived.ChangeOld
import Derived.Below
import Derived.MakeChecks
import Derived.Stop.Joined
set_option linter.unusedVariables false
set_option linter.unusedSimpArgs false
section
namespace Go.Proofs.YtabbklpalbikdaaGreatDoor
open Go.RowKit Go.Pt
structure TyT where
 (w3 : World) (r : Nat) (P : PS) (lv seen : Value) (tr : List Rz) (xs : List Value) (pc : Int) (cf : Nat)
structure TyR where
 (w3 : World) (c : Nat) (who st why : Int) (P : PS) (lv seen : Value) (tr : List Rz) (xs : List Value) (pc : Int) (cf : Nat)
set_option maxHeartbeats 16000000 in
theorem stays26 (a : Option Addr) (cl : Nat) (l : List LoadD) (v : Value) (rl : List Int) (w : World) (hn : l.length ≤ 140737488355328) (hL : LoadsO w a l) (hv : Is .i64 w v rl) (hl : ∀ x ∈ rl,I64 x) (hT : tabOk w) :
  Calls Tryz.prog 6 #[.slice a l.length cl,v] w fun e w' => e = .returned (.bool true) ∧ Upd (fun k => w.heap.size ≤ k) w w' := by
 obtain ⟨va,vc,rfl,hvl,hvm⟩ := hv.shape
 unfold maxLen at hvm
 refine enter (args := [_,_]) (Γ := [(0,_),(1,_)]) Tryz.func6 Tryz.ntmps6 rfl (of_decide_eq_true rfl) (.cons rfl (.cons rfl .nil)) ?_
 repeat' first | refine Wl.assign rfl rfl ?_ | apply Wl.nil | apply St.seq | apply St.region | apply Gt.next
 apply Wl.callC
 ·exact rfl
 ·repeat constructor
 intro wq hq
 refine (fit26 wq (hT.upd hq.upd fun y => y trivial)).mono ?_
 rintro e w1 ⟨rfl,u1⟩
 have U1 : Upd (fun k => w.heap.size ≤ k) w w1 := (hq.upd.mono fun _ _ y => (y trivial).elim).comp u1 fun k _ hs => hs.elim id fun h => Nat.le_trans hq.upd.size h
 refine ⟨_,_,rfl,Hp.start w1,?_⟩
 clear hq u1
 repeat' first | refine Wl.move rfl rfl ?_ | refine Wl.not rfl rfl ?_ | apply Wl.nil | apply St.seq | apply St.region | (apply St.condF;exact rfl;exact ka) | apply St.skip | apply Gt.next
 apply Wl.callC
 ·exact rfl
 ·repeat constructor
 intro wq hq
 have Uq : Upd (fun k => w.heap.size ≤ k) w wq := U1.comp hq.upd fun k _ hs => hs.elim id fun y => (y trivial).elim
 refine (small26 a cl l wq hn (hL.upd Uq fun k hk => Nat.not_le.2 hk)).mono ?_
 rintro e w2 ⟨⟨z,rfl,hz⟩,u2⟩
 have U2 : Upd (fun k => w.heap.size ≤ k) w w2 := Uq.comp u2 fun k _ hs => hs.elim id fun h => Nat.le_trans Uq.size h
 refine ⟨_,_,rfl,Hp.start w2,?_⟩
 clear hq u2 Uq U1 w1 wq
 cases z
 ·repeat' first | refine Wl.move rfl rfl ?_ | refine Wl.assign rfl rfl ?_ | (apply Wl.off;exact rfl;exact rfl;exact rfl;exact kq) | (apply Wl.pickT;exact rfl;exact rfl;exact ka;exact rfl) | refine Wl.not rfl rfl ?_ | apply Wl.nil | apply St.seq | apply St.region | (apply St.condT;exact rfl;exact ka) | apply St.ret | apply Gt.next | apply Gt.thenRet | (apply Gt.out1;exact rfl;exact rfl;intro w' hp)
  exact ⟨rfl,Hp.on0 hp U2⟩
 obtain ⟨⟨hl1,hl3⟩,hsm⟩ := hz rfl
 by_cases h30 : 30 < rl.length
 ·have hd30 : decide ((rl.length : Int) > 30) = true := decide_eq_true ze
  repeat' first | refine Wl.move rfl rfl ?_ | refine Wl.assign rfl rfl ?_ | (apply Wl.on;exact rfl;exact rfl;exact ka) | (apply Wl.pickF;exact rfl;exact rfl;exact ka;exact rfl) | refine Wl.not rfl rfl ?_ | refine Wl.gtr rfl rfl rfl ?_ | refine Wl.len rfl rfl ?_ | apply Wl.nil | apply St.seq | apply St.region | (apply St.condT;exact rfl;exact ka) | apply St.ret | apply Gt.next | apply Gt.thenRet | (apply Gt.out1;exact rfl;exact rfl;intro w' hp)
  exact ⟨rfl,Hp.on0 hp U2⟩
 have hd30 : decide ((rl.length : Int) > 30) = false := decide_eq_false ze
 repeat' first | refine Wl.move rfl rfl ?_ | (apply Wl.on;exact rfl;exact rfl;exact ka) | (apply Wl.pickF;exact rfl;exact rfl;exact ka;exact rfl) | refine Wl.not rfl rfl ?_ | refine Wl.gtr rfl rfl rfl ?_ | refine Wl.len rfl rfl ?_ | apply Wl.nil | apply St.seq | apply St.region | (apply St.condF;exact rfl;exact ka) | apply St.skip | apply Gt.next
 apply Wl.callC
 ·exact rfl
 ·repeat constructor
 intro wq hq
 have Uq : Upd (fun k => w.heap.size ≤ k) w wq := U2.comp hq.upd fun k _ hs => hs.elim id fun y => (y trivial).elim
 refine (begin26 a l.length cl l wq rfl ⟨hl1,hl3⟩ ((hL.upd Uq fun k hk => Nat.not_le.2 hk).small hsm) (hT.upd Uq (Nat.not_le.2 hT.lt))).mono ?_
 rintro e w3 ⟨p,base,I,pv,ev,cf,rv,rfl,hp3,hM3,hE3,hb3,hpg,u3⟩
 have U3 : Upd (fun k => w.heap.size ≤ k) w w3 := Uq.comp u3 fun k _ hs => hs.elim id fun h => Nat.le_trans Uq.size h
 refine ⟨_,_,rfl,Hp.start w3,?_⟩
 have K3 := sty0 (rv := rv) hl1 hM3 hE3 ⟨Nat.le_trans Uq.size hb3.1,hb3.2⟩ hp3 U3
 clear hb3 hpg hq u3 Uq U2 w2 wq hM3 hE3 hp3 hL hsm
 repeat' first | refine Wl.move rfl rfl ?_ | refine Wl.assign rfl rfl ?_ | refine Wl.eqlPN rfl rfl rfl ?_ | refine Wl.len rfl rfl ?_ | apply Wl.nil | apply St.seq | apply St.block | apply St.region | (apply St.condF;exact rfl;exact ka) | apply St.skip | apply Gt.next
 refine St.reb (H' := []) fun w4 h4 => ⟨trivial,trivial,?_⟩
 have K4 := K3.quiet h4
 clear K3 h4 U3
 refine St.loop (σ := TyT) (fun τ => τ.r ≤ rl.length ∧ StyI w base I l.length pv ev p rv (begE l) τ.w3 τ.P τ.lv τ.seen τ.tr τ.xs τ.pc τ.cf) (fun τ => [(0,.slice a l.length cl),(1,.slice va rl.length vc),(5,.pointer (some ⟨p,0,none⟩)),(31,.slice va rl.length vc),(32,.int .i64 (rl.length : Int)),(33,.int .i64 (τ.r : Int))]) (fun τ => Hp τ.w3 []) (fun τ => rl.length - τ.r) ⟨w4,0,begP l,.slice none 0 0,.slice none 0 0,[],xz,0,cf⟩ ⟨Nat.zero_le _,K4⟩ kx (fun _ h => h) ?_
 clear K4
 rintro ⟨w3,r,P,lv,seen,tr,xs,pc,cf3⟩ ⟨hr,K⟩
 simp only at hr K ⊢
 by_cases hrl : r < rl.length
 ·have hdr : decide ((r : Int) < (rl.length : Int)) = true := decide_eq_true ze
  obtain ⟨vb,vo,rfl,hvc⟩ := hv.cells (fun e => by rw [e] at hrl;simp at hrl)
  have hvk := hvc r hrl
  have hvb : vb < w.heap.size := cell_old hvk
  have hk1 : w3.cell? ⟨vb,vo + (r : Int).toNat,none⟩ = some (.int .i64 rl[r]) := by rw [Int.toNat_natCast];exact K.up.cell hvk (Nat.not_le.2 hvb)
  obtain ⟨kn,hkn⟩ : ∃ kn : Nat,stepsN rl[r] = (kn : Int) := ⟨(stepsN rl[r]).toNat,by have := stepsN_rng rl[r];omega⟩
  have hknr : 1 ≤ kn ∧ kn ≤ 60 := by have := stepsN_rng rl[r];omega
  have hstep : ∀ wq : World,Calls Tryz.prog 17 #[.int .i64 rl[r]] wq fun e w' => e = .returned (.int .i64 (kn : Int)) ∧ Hp wq [] w' := fun wq => by rw [← hkn];exact stepsX _ wq
  have hp0 : w3.cell? ⟨p,0,none⟩ = some (.pointer (some ⟨I.m,0,none⟩)) := cell_of K.pr rfl
  repeat' first | (apply Wl.loadO;exact rfl;exact rfl;exact zx;exact kr) | refine Wl.move rfl rfl ?_ | refine Wl.assign rfl rfl ?_ | refine Wl.nilCheck rfl rfl ?_ | refine Wl.fieldAddr0 rfl rfl ?_ | refine Wl.lss rfl rfl rfl ?_ | (refine Wl.indexAddr1 rfl rfl rfl ?_ ?_;constructor <;> omega) | apply Wl.nil | apply St.seq | apply St.block | apply St.region | (apply St.condT;exact rfl;exact ka) | apply St.skip | apply Gt.next
  apply Wl.callC
  ·exact rfl
  ·repeat constructor
  intro wq hq
  have Kq := K.quiet hq
  have zq := hq.upd.size
  refine (mMemory base I _ wq Kq.mon).mono ?_
  rintro e w4 ⟨d,rfl,hd,hmd,u4⟩
  have K4 := Kq.new u4
  have z4 := u4.size
  refine ⟨_,_,rfl,Hp.start w4,?_⟩
  clear hq u4
  apply Wl.callC
  ·exact rfl
  ·repeat constructor
  intro wq2 hq
  have Kq2 := K4.quiet hq
  have zq2 := hq.upd.size
  refine (mget d P.D.f wq2 (hq.upd.heap hmd fun y => y trivial)).mono ?_
  rintro e w5 ⟨gb,go,gc,rfl,hgb,hgl,hg,u5⟩
  have K5 := Kq2.new u5
  have z5 := u5.size
  have hg3 : w3.heap.size ≤ gb := by omega
  refine ⟨_,_,rfl,Hp.start w5,?_⟩
  clear hq u5 Kq2 K4 Kq hmd
  repeat' first | refine Wl.move rfl rfl ?_ | refine Wl.assign rfl rfl ?_ | refine Wl.extract rfl rfl rfl ?_ | apply Wl.nil | apply Gt.next
  refine St.cut (σ := TyR) (fun τ => StyI w base I l.length pv ev p rv (begE l) τ.w3 τ.P τ.lv τ.seen τ.tr τ.xs τ.pc τ.cf ∧ RunP (begE l) P tr kn τ.who τ.st τ.why τ.P τ.tr ∧ (∀ j : Nat,j < 65536 → τ.w3.cell? ⟨gb,go + j,none⟩ = some (.int .u8 (P.D.f j))) ∧ τ.w3.heap[τ.c]? = some (.cells #[.int .i64 τ.who,.int .i64 τ.st,.int .i64 τ.why] 35 (0,0)) ∧ base ≤ τ.c)
   (fun τ => [(0,.slice a l.length cl),(1,.slice (some ⟨vb,vo,none⟩) rl.length vc),(5,.pointer (some ⟨p,0,none⟩)),(31,.slice (some ⟨vb,vo,none⟩) rl.length vc),(32,.int .i64 (rl.length : Int)),(33,.int .i64 (r : Int)),(8,.slice (some ⟨gb,go,none⟩) 65536 gc),(10,.pointer (some ⟨τ.c,0,none⟩))]) (fun τ => Hp τ.w3 []) ?_ ?_
  ·have lp5 := lt_of_block K5.pr
   refine St.tree (fun w' => w'.heap[p]? = (some (.cells #[.pointer (some ⟨I.m,0,none⟩),rv] 39 (0,0)))) mixed (fun _ h' => ⟨Hp.drew h',(Hp.drew h').upd.heap K5.pr fun y => y trivial⟩) ?_
   refine Mt.pm 0 ?_
   refine Mt.pm 4 ?_
   refine Mt.pn 1 ?_
   refine Mt.pf 2 ?_
   refine Mt.pu 3 ?_
   repeat' first | (apply Wl.loadF;exact rfl;exact rfl;(intro w' h';exact cell_of h' rfl)) | apply Wl.nilB
   refine Mt.eff2 (i := 5) (j := 7) ki zg zg ?_ ?_
   ·apply Wl.callQ
    ·exact rfl
    ·repeat constructor
    ·intro wq hq
     exact hq.q (hstep wq)
    repeat' first | apply Wl.nil
    refine Mt.backE (fun w' h' => by first | exact h'.upd.heap K5.pr (fun y => y trivial) | exact h'.upd.heap K5.pr (fun y => y ⟨fun e => by simp only at e;omega,trivial⟩) | exact h'.upd.heap K7.pr (fun y => y trivial) | exact h'.upd.heap K7.pr (fun y => y ⟨fun e => by simp only at e;omega,trivial⟩)) ?_
    refine Mt.eff2 (i := 6) (j := 7) ki zg zg ?_ ?_
    ·apply Wl.callC
     ·exact rfl
     ·repeat constructor
     intro wq hq
     have zq := hq.upd.size
     have uq : Upd (fun _ => False) w5 wq := hq.upd.mono fun _ _ y => y trivial
     have Kq := K5.upd uq (fun _ _ y => y) (fun _ y => y.elim) id
     refine (styRun Kq kn hknr).mono ?_
     rintro e w7 ⟨who,st,why,rfl,P',lv',seen',tr',xs',pc',cf',K7,u7,hR⟩
     have hg7 : ∀ j : Nat,j < 65536 → w7.cell? ⟨gb,go + j,none⟩ = some (.int .u8 (P.D.f j)) := fun j hj => u7.cell (uq.cell (hg j hj) id) fun h => h.elim (fun h => by have := (K.mon.lt gb h).2;omega) fun h => by simp only at h;omega
     have z7 := u7.size
     refine ⟨_,_,rfl,Hp.start w7,?_⟩
     repeat' first | apply Wl.nil
     refine Mt.backE (fun w' h' => by first | exact h'.upd.heap K5.pr (fun y => y trivial) | exact h'.upd.heap K5.pr (fun y => y ⟨fun e => by simp only at e;omega,trivial⟩) | exact h'.upd.heap K7.pr (fun y => y trivial) | exact h'.upd.heap K7.pr (fun y => y ⟨fun e => by simp only at e;omega,trivial⟩)) ?_
     refine Mt.eff1 (i := 7) ki zg ?_
     repeat' first | (apply Wl.alloc;exact rfl;intro c hc ho) | apply Wl.nil
     generalize c = c10 at *
     have hc10 : w7.heap.size ≤ c10 := by assumption
     refine Mt.backE (fun w' h' => by first | exact h'.upd.heap K5.pr (fun y => y trivial) | exact h'.upd.heap K5.pr (fun y => y ⟨fun e => by simp only at e;omega,trivial⟩) | exact h'.upd.heap K7.pr (fun y => y trivial) | exact h'.upd.heap K7.pr (fun y => y ⟨fun e => by simp only at e;omega,trivial⟩)) ?_
     refine Mt.eff1 (i := 8) ki zg ?_
     apply Wl.storeA (xs := [.int .i64 who,.int .i64 st,.int .i64 why])
     ·exact rfl
     ·exact rfl
     ·exact rfl
     ·exact rfl
     ·repeat constructor
     ·exact .z (LOver.whole rfl)
     repeat' first | apply Wl.nil
     refine Mt.backE (fun w' h' => by first | exact h'.upd.heap K5.pr (fun y => y trivial) | exact h'.upd.heap K5.pr (fun y => y ⟨fun e => by simp only at e;omega,trivial⟩) | exact h'.upd.heap K7.pr (fun y => y trivial) | exact h'.upd.heap K7.pr (fun y => y ⟨fun e => by simp only at e;omega,trivial⟩)) ?_
     refine Mt.toGt ki ?_
     refine Gt.reb (H' := []) fun w8 h8 => ⟨trivial,trivial,?_⟩
     have u8 : Upd (fun b => b = c10) w7 w8 := Hp.on1 h8 (Upd.refl _ _) rfl
     apply Gt.meet ⟨w8,c10,who,st,why,P',lv',seen',tr',xs',pc',cf'⟩
     ·have g5 := K5.ge.2
      exact ⟨K7.upd u8 (fun b hb e => (by have := (K7.mon.lt b hb).2;omega)) (fun b e => by omega) ze,hR,fun j hj => u8.cell (hg7 j hj) q5,h8.own.at (.head _),by simp only;omega⟩
     ·repeat constructor
     ·exact fun _ h => h
    ·repeat' first | (apply Wl.alloc;exact rfl;intro c hc ho) | apply Wl.nil
     generalize c = c10 at *
     have hc10 : w5.heap.size ≤ c10 := by assumption
     refine Mt.backE (fun w' h' => by first | exact h'.upd.heap K5.pr (fun y => y trivial) | exact h'.upd.heap K5.pr (fun y => y ⟨fun e => by simp only at e;omega,trivial⟩) | exact h'.upd.heap K7.pr (fun y => y trivial) | exact h'.upd.heap K7.pr (fun y => y ⟨fun e => by simp only at e;omega,trivial⟩)) ?_
     refine Mt.eff1 (i := 6) ki zg ?_
     apply Wl.callC
     ·exact rfl
     ·repeat constructor
     intro wq hq
     have zq := hq.upd.size
     have uq : Upd (fun b => b = c10) w5 wq := Hp.on1 hq (Upd.refl _ _) rfl
     have Kq := K5.upd uq (fun b hb e => by have := (K5.mon.lt b hb).2;omega) (fun b e => by have := K5.ge.2;omega) ze
     have h10q := hq.own.at (.head _)
     have o10q := Kq.mon.offF (b := c10) (t := 35) h10q zi
     have hlc10 := hq.own.lt (.head _)
     simp only at hlc10
     refine (styRun Kq kn hknr).mono ?_
     rintro e w7 ⟨who,st,why,rfl,P',lv',seen',tr',xs',pc',cf',K7,u7,hR⟩
     have hg7 : ∀ j : Nat,j < 65536 → w7.cell? ⟨gb,go + j,none⟩ = some (.int .u8 (P.D.f j)) := fun j hj => u7.cell (uq.cell (hg j hj) q5) fun h => h.elim (fun h => by have := (K.mon.lt gb h).2;omega) fun h => by simp only at h;omega
     have z7 := u7.size
     have hq7 := Hp.restD hq u7 qr
     refine ⟨_,_,rfl,hq7,?_⟩
     repeat' first | apply Wl.nil
     refine Mt.backE (fun w' h' => by first | exact h'.upd.heap K5.pr (fun y => y trivial) | exact h'.upd.heap K5.pr (fun y => y ⟨fun e => by simp only at e;omega,trivial⟩) | exact h'.upd.heap K7.pr (fun y => y trivial) | exact h'.upd.heap K7.pr (fun y => y ⟨fun e => by simp only at e;omega,trivial⟩)) ?_
     refine Mt.eff1 (i := 8) ki zg ?_
     apply Wl.storeA (xs := [.int .i64 who,.int .i64 st,.int .i64 why])
     ·exact rfl
     ·exact rfl
     ·exact rfl
     ·exact rfl
     ·repeat constructor
     ·exact .z (LOver.whole rfl)
     repeat' first | apply Wl.nil
     refine Mt.backE (fun w' h' => by first | exact h'.upd.heap K5.pr (fun y => y trivial) | exact h'.upd.heap K5.pr (fun y => y ⟨fun e => by simp only at e;omega,trivial⟩) | exact h'.upd.heap K7.pr (fun y => y trivial) | exact h'.upd.heap K7.pr (fun y => y ⟨fun e => by simp only at e;omega,trivial⟩)) ?_
     refine Mt.toGt ki ?_
     refine Gt.reb (H' := []) fun w8 h8 => ⟨trivial,trivial,?_⟩
     have u8 : Upd (fun b => b = c10) w7 w8 := Hp.on1 h8 (Upd.refl _ _) rfl
     apply Gt.meet ⟨w8,c10,who,st,why,P',lv',seen',tr',xs',pc',cf'⟩
     ·have g5 := K5.ge.2
      exact ⟨K7.upd u8 (fun b hb e => j0) (fun b e => by omega) ze,hR,fun j hj => u8.cell (hg7 j hj) q5,h8.own.at (.head _),by simp only;omega⟩
     ·repeat constructor
     ·exact fun _ h => h
   ·repeat' first | (apply Wl.alloc;exact rfl;intro c hc ho) | apply Wl.nil
    generalize c = c10 at *
    have hc10 : w5.heap.size ≤ c10 := by assumption
    refine Mt.backE (fun w' h' => by first | exact h'.upd.heap K5.pr (fun y => y trivial) | exact h'.upd.heap K5.pr (fun y => y ⟨fun e => by simp only at e;omega,trivial⟩) | exact h'.upd.heap K7.pr (fun y => y trivial) | exact h'.upd.heap K7.pr (fun y => y ⟨fun e => by simp only at e;omega,trivial⟩)) ?_
    refine Mt.eff1 (i := 5) ki zg ?_
    apply Wl.callQ
    ·exact rfl
    ·repeat constructor
    ·intro wq hq
     exact hq.q (hstep wq)
    repeat' first | apply Wl.nil
    refine Mt.backE (fun w' h' => by first | exact h'.upd.heap K5.pr (fun y => y trivial) | exact h'.upd.heap K5.pr (fun y => y ⟨fun e => by simp only at e;omega,trivial⟩) | exact h'.upd.heap K7.pr (fun y => y trivial) | exact h'.upd.heap K7.pr (fun y => y ⟨fun e => by simp only at e;omega,trivial⟩)) ?_
    refine Mt.eff1 (i := 6) ki zg ?_
    apply Wl.callC
    ·exact rfl
    ·repeat constructor
    intro wq hq
    have zq := hq.upd.size
    have uq : Upd (fun b => b = c10) w5 wq := Hp.on1 hq (Upd.refl _ _) rfl
    have Kq := K5.upd uq (fun b hb e => by have := (K5.mon.lt b hb).2;omega) (fun b e => by have := K5.ge.2;omega) ze
    have h10q := hq.own.at (.head _)
    have o10q := Kq.mon.offF (b := c10) (t := 35) h10q zi
    have hlc10 := hq.own.lt (.head _)
    simp only at hlc10
    refine (styRun Kq kn hknr).mono ?_
    rintro e w7 ⟨who,st,why,rfl,P',lv',seen',tr',xs',pc',cf',K7,u7,hR⟩
    have hg7 : ∀ j : Nat,j < 65536 → w7.cell? ⟨gb,go + j,none⟩ = some (.int .u8 (P.D.f j)) := fun j hj => u7.cell (uq.cell (hg j hj) q5) fun h => h.elim (fun h => by have := (K.mon.lt gb h).2;omega) fun h => by simp only at h;omega
    have z7 := u7.size
    have hq7 := Hp.restD hq u7 qr
    refine ⟨_,_,rfl,hq7,?_⟩
    repeat' first | apply Wl.nil
    refine Mt.backE (fun w' h' => by first | exact h'.upd.heap K5.pr (fun y => y trivial) | exact h'.upd.heap K5.pr (fun y => y ⟨fun e => by simp only at e;omega,trivial⟩) | exact h'.upd.heap K7.pr (fun y => y trivial) | exact h'.upd.heap K7.pr (fun y => y ⟨fun e => by simp only at e;omega,trivial⟩)) ?_
    refine Mt.eff1 (i := 8) ki zg ?_
    apply Wl.storeA (xs := [.int .i64 who,.int .i64 st,.int .i64 why])
    ·exact rfl
    ·exact rfl
    ·exact rfl
    ·exact rfl
    ·repeat constructor
    ·exact .z (LOver.whole rfl)
    repeat' first | apply Wl.nil
    refine Mt.backE (fun w' h' => by first | exact h'.upd.heap K5.pr (fun y => y trivial) | exact h'.upd.heap K5.pr (fun y => y ⟨fun e => by simp only at e;omega,trivial⟩) | exact h'.upd.heap K7.pr (fun y => y trivial) | exact h'.upd.heap K7.pr (fun y => y ⟨fun e => by simp only at e;omega,trivial⟩)) ?_
    refine Mt.toGt ki ?_
    refine Gt.reb (H' := []) fun w8 h8 => ⟨trivial,trivial,?_⟩
    have u8 : Upd (fun b => b = c10) w7 w8 := Hp.on1 h8 (Upd.refl _ _) rfl
    apply Gt.meet ⟨w8,c10,who,st,why,P',lv',seen',tr',xs',pc',cf'⟩
    ·have g5 := K5.ge.2
     exact ⟨K7.upd u8 (fun b hb e => j0) (fun b e => by omega) ze,hR,fun j hj => u8.cell (hg7 j hj) q5,h8.own.at (.head _),by simp only;omega⟩
    ·repeat constructor
    ·exact fun _ h => h
  clear K5 hg
  rintro ⟨w6,c10,who,st,why,P',lv',seen',tr',xs',pc',cf'⟩ ⟨K6,hR,hg6,h10,hb10⟩
  simp only at K6 hR hg6 h10 hb10 ⊢
  have hp06 : w6.cell? ⟨p,0,none⟩ = some (.pointer (some ⟨I.m,0,none⟩)) := cell_of K6.pr rfl
  repeat' first | (apply Wl.loadO;exact rfl;exact rfl;exact zx;exact kr) | refine Wl.move rfl rfl ?_ | refine Wl.nilCheck rfl rfl ?_ | refine Wl.fieldAddr0 rfl rfl ?_ | apply St.seq | apply St.region
  apply Wl.callC
  ·exact rfl
  ·repeat constructor
  intro wq hq
  have Kq := K6.quiet hq
  have zq6 := hq.upd.size
  refine (mMemory base I _ wq Kq.mon).mono ?_
  rintro e w7 ⟨d2,rfl,hd2,hmd2,u7⟩
  have K7 := Kq.new u7
  have z7 := u7.size
  have v67 : Upd (fun b => w6.heap.size ≤ b) w6 w7 := hq.upd.comp u7 fun k _ h => h.elim (fun y => (y trivial).elim) fun h => by omega
  refine ⟨_,_,rfl,Hp.start w7,?_⟩
  clear hq u7
  apply Wl.callC
  ·exact rfl
  ·repeat constructor
  intro wq2 hq
  have Kq2 := K7.quiet hq
  have zq7 := hq.upd.size
  refine (mget d2 P'.D.f wq2 (hq.upd.heap hmd2 fun y => y trivial)).mono ?_
  rintro e w8 ⟨kb,ko,kc,rfl,hkb,hkl,hk8,u8⟩
  have K8 := Kq2.new u8
  have z8 := u8.size
  have v68 : Upd (fun b => w6.heap.size ≤ b) w6 w8 := (v67.comp hq.upd (T := fun b => w6.heap.size ≤ b) fun k _ h => h.elim id fun y => (y trivial).elim).comp u8 fun k _ h => h.elim id fun h => by omega
  have hg8 : ∀ j : Nat,j < 65536 → w8.cell? ⟨gb,go + j,none⟩ = some (.int .u8 (P.D.f j)) := fun j hj => v68.cell (hg6 j hj) (Nat.not_le.2 (cell_old (hg6 j hj)))
  have h108 := v68.heap h10 (Nat.not_le.2 (lt_of_block h10))
  refine ⟨_,_,rfl,Hp.start w8,?_⟩
  clear hq u8 Kq2 K7 Kq hmd2 hg6 v67 v68 h10 K6 hp06
  have lgb : gb < w8.heap.size := cell_old (hg8 0 zi)
  have lkb : kb < w8.heap.size := cell_old (hk8 0 zi)
  have lc10 := lt_of_block h108
  have lp8 := lt_of_block K8.pr
  repeat' first | refine Wl.move rfl rfl ?_ | refine Wl.assign rfl rfl ?_ | refine Wl.extract rfl rfl rfl ?_ | refine Wl.len rfl rfl ?_ | apply Wl.nil | apply St.seq | apply St.block | apply St.region | apply Gt.next
  refine St.loop (σ := Nat × World) (fun τ => τ.1 ≤ 65536 ∧ Upd (fun k => w8.heap.size ≤ k) w8 τ.2) (fun τ => [(0,.slice a l.length cl),(1,.slice (some ⟨vb,vo,none⟩) rl.length vc),(5,.pointer (some ⟨p,0,none⟩)),(31,.slice (some ⟨vb,vo,none⟩) rl.length vc),(32,.int .i64 (rl.length : Int)),(33,.int .i64 (r : Int)),(8,.slice (some ⟨gb,go,none⟩) 65536 gc),(10,.pointer (some ⟨c10,0,none⟩)),(11,.slice (some ⟨kb,ko,none⟩) 65536 kc),(63,.int .i64 65536),(64,.int .i64 (τ.1 : Int))]) (fun τ => Hp τ.2 []) (fun τ => 65536 - τ.1) (0,w8) ⟨Nat.zero_le _,Upd.refl _ _⟩ kx (fun _ h => h) ?_
  rintro ⟨j,w9⟩ ⟨hj,u9⟩
  simp only at hj u9 ⊢
  have K9 := K8.new u9
  have z9 := u9.size
  by_cases hjl : j < 65536
  ·have hdj : decide ((j : Int) < 65536) = true := decide_eq_true ze
   have e1 : w9.cell? ⟨kb,ko + (j : Int).toNat,none⟩ = some (.int .u8 (P'.D.f j)) := by rw [Int.toNat_natCast];exact u9.cell (hk8 j hjl) q5
   have e2 : w9.cell? ⟨gb,go + (j : Int).toNat,none⟩ = some (.int .u8 (P.D.f j)) := by rw [Int.toNat_natCast];exact u9.cell (hg8 j hjl) q5
   have e3 := u9.heap h108 ze
   repeat' first | refine Wl.move rfl rfl ?_ | refine Wl.assign rfl rfl ?_ | refine Wl.lss rfl rfl rfl ?_ | apply Wl.nil | apply St.seq | apply St.block | apply St.region | (apply St.condT;exact rfl;exact ka) | apply St.skip | apply Gt.next
   by_cases heq : P'.D.f j = P.D.f j
   ·have hdq : decide (P'.D.f j ≠ P.D.f j) = false := decide_eq_false fun h => h heq
    refine St.tree (fun w' => w'.cell? ⟨kb,ko + (j : Int).toNat,none⟩ = some (.int .u8 (P'.D.f j)) ∧ w'.cell? ⟨gb,go + (j : Int).toNat,none⟩ = some (.int .u8 (P.D.f j)) ∧ w'.heap[c10]? = (some (.cells #[.int .i64 who,.int .i64 st,.int .i64 why] 35 (0,0))) ∧ w'.heap[p]? = (some (.cells #[.pointer (some ⟨I.m,0,none⟩),rv] 39 (0,0)))) mixed (fun _ h' => ⟨Hp.drew h',(Hp.drew h').upd.cell e1 (fun y => y trivial),(Hp.drew h').upd.cell e2 (fun y => y trivial),(Hp.drew h').upd.heap e3 (fun y => y trivial),(Hp.drew h').upd.heap K9.pr (fun y => y trivial)⟩) ?_
    refine Mt.pm 0 ?_
    refine Mt.pm 1 ?_
    refine Mt.pm 4 ?_
    refine Mt.pm 5 ?_
    refine Mt.pu 2 ?_
    repeat' first | (refine Wl.indexAddr1 rfl rfl rfl ?_ ?_;constructor <;> omega) | apply Wl.nilB
    refine Mt.pu 6 ?_
    repeat' first | (refine Wl.indexAddr1 rfl rfl rfl ?_ ?_;constructor <;> omega) | apply Wl.nilB
    refine Mt.pu 3 ?_
    repeat' first | (apply Wl.loadF;exact rfl;exact rfl;(intro w' h';first | exact h'.1 | exact h'.2.1 | exact cell_of h'.2.2.1 rfl | exact cell_of h'.2.2.2 rfl)) | apply Wl.nilB
    refine Mt.pu 7 ?_
    repeat' first | (apply Wl.loadF;exact rfl;exact rfl;(intro w' h';first | exact h'.1 | exact h'.2.1 | exact cell_of h'.2.2.1 rfl | exact cell_of h'.2.2.2 rfl)) | apply Wl.nilB
    refine Mt.pu 8 ?_
    repeat' first | (apply Wl.neqIs;exact rfl;exact rfl;exact rfl;exact kz) | apply Wl.nilB
    refine Mt.pm 9 ?_
    refine Mt.po 10 ?_
    refine Mt.po 11 ?_
    refine Mt.po 12 ?_
    refine Mt.po 13 ?_
    refine Mt.pu 14 ?_
    refine Wl.offU rfl rfl rfl (Wl.nilB ?_)
    refine Mt.pu 18 ?_
    refine Wl.offU rfl rfl rfl (Wl.nilB ?_)
    refine Mt.pu 21 ?_
    refine Wl.offU rfl rfl rfl (Wl.nilB ?_)
    refine Mt.pu 15 ?_
    refine Wl.offU rfl rfl rfl (Wl.nilB ?_)
    refine Mt.pu 19 ?_
    refine Wl.offU rfl rfl rfl (Wl.nilB ?_)
    refine Mt.pu 22 ?_
    refine Wl.offU rfl rfl rfl (Wl.nilB ?_)
    refine Mt.pu 16 ?_
    refine Wl.offU rfl rfl rfl (Wl.nilB ?_)
    refine Mt.pu 23 ?_
    refine Wl.offU rfl rfl rfl (Wl.nilB ?_)
    refine Mt.pu 17 ?_
    refine Wl.offU rfl rfl rfl (Wl.nilB ?_)
    refine Mt.eff1 (i := 20) ki zg ?_
    repeat' first | refine Wl.offU rfl rfl rfl ?_ | apply Wl.nil
    refine Mt.backE (fun _ h' => ⟨h'.upd.cell e1 (fun y => y trivial),h'.upd.cell e2 (fun y => y trivial),h'.upd.heap e3 (fun y => y trivial),h'.upd.heap K9.pr (fun y => y trivial)⟩) ?_
    refine Mt.eff1 (i := 24) ki zg ?_
    repeat' first | refine Wl.offU rfl rfl rfl ?_ | apply Wl.nil
    refine Mt.backE (fun _ h' => ⟨h'.upd.cell e1 (fun y => y trivial),h'.upd.cell e2 (fun y => y trivial),h'.upd.heap e3 (fun y => y trivial),h'.upd.heap K9.pr (fun y => y trivial)⟩) ?_
    refine Mt.pu 25 ?_
    refine Wl.offU rfl rfl rfl (Wl.nilB ?_)
    refine Mt.po 26 ?_
    refine Mt.pu 27 ?_
    repeat' first | (apply Wl.pickF;exact rfl;exact rfl;exact ka;exact rfl) | apply Wl.nilB
    refine Mt.toGt ki ?_
    repeat' first | refine Wl.move rfl rfl ?_ | (refine Wl.addI rfl rfl rfl ?_ ?_;constructor <;> omega) | apply Wl.nil | apply St.region | (apply St.condF;exact rfl;exact ka) | apply St.skip | apply Gt.next | apply Gt.inNormal
    refine Gt.reb (H' := []) fun w11 h11 => ⟨trivial,trivial,?_⟩
    have U11 : Upd (fun k => w8.heap.size ≤ k) w8 w11 := u9.comp h11.upd fun k _ h => h.elim id fun y => (y trivial).elim
    refine Gt.round (j + 1,w11) ⟨by simp only;omega,U11⟩ q5 kx (fun _ h => h)
   have hdq : decide (P'.D.f j ≠ P.D.f j) = true := decide_eq_true heq
   obtain ⟨k,x,R,ht,hx,hRR,hwho,hst,hwhy,hP',htr'⟩ := hR.elim (fun h => absurd (by rw [h.2.2.2.2.1]) heq) id
   subst hwho
   have hkl : k < l.length := by rw [← K.len];exact (List.getElem?_eq_some_iff.1 hx).1
   have hck : chkG 4 (en4 (biasI k)) (2147483648 + (j : Int)) 1 2 = true := by
    have h := runF_mem (E := begE l) (n := P.L.length) (who := k) (begG ze) (K.env.ok.dg k hkl) j kn ⟨x.xs,x.p,P.D⟩ [] K.dok.bxOk
    refine h fun e => heq ?_
    rw [hP']
    show R.D.f j = P.D.f j
    rw [hRR]
    exact e
   have hdw : decide ((k : Int) < 0) = false := decide_eq_false ze
   refine St.tree (fun w' => w'.cell? ⟨kb,ko + (j : Int).toNat,none⟩ = some (.int .u8 (P'.D.f j)) ∧ w'.cell? ⟨gb,go + (j : Int).toNat,none⟩ = some (.int .u8 (P.D.f j)) ∧ w'.heap[c10]? = (some (.cells #[.int .i64 (k : Int),.int .i64 st,.int .i64 why] 35 (0,0))) ∧ w'.heap[p]? = (some (.cells #[.pointer (some ⟨I.m,0,none⟩),rv] 39 (0,0)))) mixed (fun _ h' => ⟨Hp.drew h',(Hp.drew h').upd.cell e1 (fun y => y trivial),(Hp.drew h').upd.cell e2 (fun y => y trivial),(Hp.drew h').upd.heap e3 (fun y => y trivial),(Hp.drew h').upd.heap K9.pr (fun y => y trivial)⟩) ?_
   refine Mt.pm 0 ?_
   refine Mt.pm 1 ?_
   refine Mt.pm 4 ?_
   refine Mt.pm 5 ?_
   refine Mt.pu 2 ?_
   repeat' first | (refine Wl.indexAddr1 rfl rfl rfl ?_ ?_;constructor <;> omega) | apply Wl.nilB
   refine Mt.pu 6 ?_
   repeat' first | (refine Wl.indexAddr1 rfl rfl rfl ?_ ?_;constructor <;> omega) | apply Wl.nilB
   refine Mt.pu 3 ?_
   repeat' first | (apply Wl.loadF;exact rfl;exact rfl;(intro w' h';first | exact h'.1 | exact h'.2.1 | exact cell_of h'.2.2.1 rfl | exact cell_of h'.2.2.2 rfl)) | apply Wl.nilB
   refine Mt.pu 7 ?_
   repeat' first | (apply Wl.loadF;exact rfl;exact rfl;(intro w' h';first | exact h'.1 | exact h'.2.1 | exact cell_of h'.2.2.1 rfl | exact cell_of h'.2.2.2 rfl)) | apply Wl.nilB
   refine Mt.pu 8 ?_
   refine Wl.neq rfl rfl rfl (Wl.nilB ?_)
   refine Mt.pm 9 ?_
   refine Mt.pu 10 ?_
   repeat' first | (apply Wl.on;exact rfl;exact rfl;exact ka) | refine Wl.fieldAddr0 rfl rfl ?_ | apply Wl.nilB
   refine Mt.pu 11 ?_
   repeat' first | (apply Wl.loadF;exact rfl;exact rfl;(intro w' h';first | exact h'.1 | exact h'.2.1 | exact cell_of h'.2.2.1 rfl | exact cell_of h'.2.2.2 rfl)) | (apply Wl.on;exact rfl;exact rfl;exact ka) | apply Wl.nilB
   refine Mt.pu 12 ?_
   repeat' first | (apply Wl.on;exact rfl;exact rfl;exact ka) | refine Wl.lss rfl rfl rfl ?_ | apply Wl.nilB
   refine Mt.pu 13 ?_
   repeat' first | refine Wl.move rfl rfl ?_ | (apply Wl.on;exact rfl;exact rfl;exact ka) | apply Wl.nilB
   refine Mt.pu 14 ?_
   repeat' first | refine Wl.move rfl rfl ?_ | (apply Wl.on;exact rfl;exact rfl;exact ka) | apply Wl.nilB
   refine Mt.pu 18 ?_
   repeat' first | (apply Wl.on;exact rfl;exact rfl;exact ka) | refine Wl.fieldAddr0 rfl rfl ?_ | apply Wl.nilB
   refine Mt.pu 21 ?_
   repeat' first | refine Wl.move rfl rfl ?_ | (apply Wl.on;exact rfl;exact rfl;exact ka) | apply Wl.nilB
   refine Mt.pu 15 ?_
   repeat' first | (apply Wl.on;exact rfl;exact rfl;exact ka) | refine Wl.nilCheck rfl rfl ?_ | apply Wl.nilB
   refine Mt.pu 19 ?_
   repeat' first | (apply Wl.loadF;exact rfl;exact rfl;(intro w' h';first | exact h'.1 | exact h'.2.1 | exact cell_of h'.2.2.1 rfl | exact cell_of h'.2.2.2 rfl)) | (apply Wl.on;exact rfl;exact rfl;exact ka) | apply Wl.nilB
   refine Mt.pu 22 ?_
   repeat' first | (apply Wl.on;exact rfl;exact rfl;exact ka) | (refine Wl.addI rfl rfl rfl ?_ ?_;constructor <;> omega) | apply Wl.nilB
   refine Mt.pu 16 ?_
   repeat' first | (apply Wl.on;exact rfl;exact rfl;exact ka) | refine Wl.fieldAddr0 rfl rfl ?_ | apply Wl.nilB
   refine Mt.pu 23 ?_
   repeat' first | (apply Wl.on;exact rfl;exact rfl;exact ka) | (refine Wl.convU32 rfl rfl ?_ ?_;constructor <;> omega) | apply Wl.nilB
   refine Mt.pu 17 ?_
   repeat' first | (apply Wl.loadF;exact rfl;exact rfl;(intro w' h';first | exact h'.1 | exact h'.2.1 | exact cell_of h'.2.2.1 rfl | exact cell_of h'.2.2.2 rfl)) | (apply Wl.on;exact rfl;exact rfl;exact ka) | apply Wl.nilB
   refine Mt.eff1 (i := 20) ki zg ?_
   apply Wl.on
   ·exact rfl
   ·exact rfl
   ·first | with_reducible rfl | with_reducible assumption | decide
   apply Wl.callC
   ·exact rfl
   ·repeat constructor
   intro wq hq
   have Kq := K9.quiet hq
   have zqe := hq.upd.size
   refine (mEntries base I _ (begE l) k wq Kq.mon (by show EnvS wq base P'.L.length pv ev (begE l);rw [K8.len];exact Kq.env) (by show k < P'.L.length;rw [K8.len];exact hkl) (by show 1 ≤ 4;decide)).mono ?_
   rintro e w10 ⟨nb,nc,rfl,hen,u10⟩
   have v10 : Upd (fun b => w9.heap.size ≤ b) w9 w10 := hq.upd.comp u10 fun k _ h => h.elim (fun y => (y trivial).elim) fun h => by omega
   have K10 := K9.new v10
   have f1 := v10.cell e1 q5
   have f2 := v10.cell e2 q5
   have f3 := v10.heap e3 ze
   refine ⟨_,_,rfl,Hp.start w10,?_⟩
   clear hq u10
   repeat' first | apply Wl.nil
   refine Mt.backE (fun _ h' => ⟨h'.upd.cell f1 (fun y => y trivial),h'.upd.cell f2 (fun y => y trivial),h'.upd.heap f3 (fun y => y trivial),h'.upd.heap K10.pr (fun y => y trivial)⟩) ?_
   refine Mt.eff1 (i := 24) ki zg ?_
   apply Wl.on
   ·exact rfl
   ·exact rfl
   ·first | with_reducible rfl | with_reducible assumption | decide
   apply Wl.callQ
   ·exact rfl
   ·repeat constructor
   ·intro wq hq
    refine (checkX 4 nc (en4 (biasI k)) (some ⟨nb,0,none⟩) (2147483648 + (j : Int)) 1 2 wq zi (hen.upd hq.upd fun _ _ y => y trivial) (K10.quiet hq).env.tab).mono ?_
    rw [hck]
    rintro e wr ⟨rfl,hr⟩
    exact ⟨rfl,hq.keep hr⟩
   repeat' first | apply Wl.nil
   refine Mt.backE (fun _ h' => ⟨h'.upd.cell f1 (fun y => y trivial),h'.upd.cell f2 (fun y => y trivial),h'.upd.heap f3 (fun y => y trivial),h'.upd.heap K10.pr (fun y => y trivial)⟩) ?_
   refine Mt.pu 25 ?_
   repeat' first | (apply Wl.on;exact rfl;exact rfl;exact ka) | refine Wl.not rfl rfl ?_ | apply Wl.nilB
   refine Mt.pu 26 ?_
   repeat' first | (apply Wl.on;exact rfl;exact rfl;exact ka) | (apply Wl.pickF;exact rfl;exact rfl;exact ka;exact rfl) | apply Wl.nilB
   refine Mt.pu 27 ?_
   repeat' first | (apply Wl.pickT;exact rfl;exact rfl;exact ka;exact rfl) | apply Wl.nilB
   refine Mt.toGt ki ?_
   repeat' first | refine Wl.move rfl rfl ?_ | (refine Wl.addI rfl rfl rfl ?_ ?_;constructor <;> omega) | apply Wl.nil | apply St.region | (apply St.condF;exact rfl;exact ka) | apply St.skip | apply Gt.next | apply Gt.inNormal
   refine Gt.reb (H' := []) fun w11 h11 => ⟨trivial,trivial,?_⟩
   have U11 : Upd (fun k => w8.heap.size ≤ k) w8 w11 := (u9.comp v10 (T := fun k => w8.heap.size ≤ k) fun k _ h => h.elim id fun h => by omega).comp h11.upd fun k _ h => h.elim id fun y => (y trivial).elim
   refine Gt.round (j + 1,w11) ⟨by simp only;omega,U11⟩ q5 kx (fun _ h => h)
  obtain rfl : j = 65536 := by omega
  have hdj : decide (((65536 : Nat) : Int) < 65536) = false := by decide
  clear hg8 hk8 hjl hj
  repeat' first | refine Wl.move rfl rfl ?_ | refine Wl.nilCheck rfl rfl ?_ | refine Wl.fieldAddr0 rfl rfl ?_ | refine Wl.lss rfl rfl rfl ?_ | apply Wl.nil | apply St.seq | apply St.region | (apply St.condF;exact rfl;exact ka) | apply St.exit | apply Gt.next | apply Gt.thenExit | apply Gt.inExit
  have hp09 : w9.cell? ⟨p,0,none⟩ = some (.pointer (some ⟨I.m,0,none⟩)) := cell_of K9.pr rfl
  repeat' first | (apply Wl.loadO;exact rfl;exact rfl;exact zx;exact kr)
  apply Wl.callC
  ·exact rfl
  ·repeat constructor
  intro wq hq
  have Kq := K9.quiet hq
  have zqs := hq.upd.size
  refine (mSeen base I _ wq Kq.mon Kq.ge.2 (by show tr'.length ≤ 100000;have := K8.tl;omega) (by
   show ((tr'.map Rz.cells).flatten).all Value.oneCell' = true
   rw [List.all_eq_true]
   intro v hv
   obtain ⟨l0,hl0,hv⟩ := List.mem_flatten.1 hv
   obtain ⟨t,_,rfl⟩ := List.mem_map.1 hl0
   simp only [Rz.cells,List.mem_cons,List.not_mem_nil,or_false] at hv
   rcases hv with rfl | rfl | rfl | rfl | rfl | rfl | rfl <;> rfl)).mono ?_
  rintro e w10 ⟨sv,rfl,hsv,u10⟩
  have v10 : Upd (fun b => w9.heap.size ≤ b) w9 w10 := hq.upd.comp u10 fun k _ h => h.elim (fun y => (y trivial).elim) fun h => by omega
  have K10 := K9.new v10
  have e10 := v10.heap (u9.heap h108 ze) ze
  refine ⟨_,_,rfl,Hp.start w10,?_⟩
  clear hq u10 v10 u9
  obtain ⟨hsl,sa,sc,hse⟩ : ∃ _ : True,∃ sa sc,sv = .slice sa tr'.length sc := by
   rcases hsv.2 with ⟨e1,e2⟩ | ⟨g,cap,cur,e1,_⟩
   ·exact ⟨trivial,none,0,by rw [e1];show _ = Value.slice none tr'.length 0;rw [show tr'.length = 0 from e2]⟩
   ·exact ⟨trivial,_,_,e1⟩
  subst hse
  have lc10 := lt_of_block e10
  have lp10 := lt_of_block K10.pr
  have ht60 : tr'.length ≤ 60 := K8.tl
  repeat' first | refine Wl.move rfl rfl ?_ | refine Wl.len rfl rfl ?_ | apply Wl.nil | apply St.block | apply Gt.next
  refine St.loop (σ := Nat × World) (fun τ => τ.1 ≤ tr'.length ∧ Upd (fun k => w10.heap.size ≤ k) w10 τ.2) (fun τ => [(0,.slice a l.length cl),(1,.slice (some ⟨vb,vo,none⟩) rl.length vc),(5,.pointer (some ⟨p,0,none⟩)),(31,.slice (some ⟨vb,vo,none⟩) rl.length vc),(32,.int .i64 (rl.length : Int)),(33,.int .i64 (r : Int)),(8,.slice (some ⟨gb,go,none⟩) 65536 gc),(10,.pointer (some ⟨c10,0,none⟩)),(100,.slice sa tr'.length sc),(101,.int .i64 (tr'.length : Int)),(102,.int .i64 (τ.1 : Int))]) (fun τ => Hp τ.2 []) (fun τ => tr'.length - τ.1) (0,w10) ⟨Nat.zero_le _,Upd.refl _ _⟩ kx (fun _ h => h) ?_
  rintro ⟨j,w11⟩ ⟨hj,u11⟩
  simp only at hj u11 ⊢
  have K11 := K10.new u11
  have z11 := u11.size
  by_cases hjl : j < tr'.length
  ·have hdj : decide ((j : Int) < (tr'.length : Int)) = true := decide_eq_true ze
   obtain ⟨g,cap,J,hgv,hgg,hgb⟩ := hsv.blk (by show 0 < tr'.length;omega)
   cases hgv
   have lg := lt_of_block hgb
   obtain ⟨t,ht⟩ : ∃ t,tr'[j]? = some t := ⟨_,List.getElem?_eq_getElem hjl⟩
   have hcell : ∀ q v,t.cells[q]? = some v → w11.cell? ⟨g,0 + ((j : Nat) : Int).toNat * 7 + q,none⟩ = some v := fun q v hv => by
    have hq : q < 7 := (List.getElem?_eq_some_iff.1 hv).1
    have h := flat_get (k := 7) (L := tr'.map Rz.cells) (fun x hx => by obtain ⟨z,_,rfl⟩ := List.mem_map.1 hx;rfl) (show (tr'.map Rz.cells)[j]? = some t.cells by rw [List.getElem?_map,ht];rfl) hq
    rw [hv] at h
    refine u11.cell (cell_of hgb ?_) q5
    rw [Int.toNat_natCast,Nat.zero_add]
    show ((tr'.map Rz.cells).flatten ++ J)[j * 7 + q]? = some v
    rw [List.getElem?_append_left (List.getElem?_eq_some_iff.1 h).1]
    exact h
   have htl : t.cells.length = 7 := rfl
   have ht1 : t.cells.all Value.oneCell' = true := rfl
   repeat' first | (apply Wl.loadO;exact rfl;exact rfl;exact zx;exact kr) | (apply Wl.loadAB (xs := t.cells);exact rfl;exact rfl;exact hcell;exact trivial;exact htl) | (apply Wl.storeA (xs := t.cells);exact rfl;exact rfl;exact htl;exact ht1;exact kg;exact .z (LOver.whole rfl)) | refine Wl.move rfl rfl ?_ | refine Wl.assign rfl rfl ?_ | (apply Wl.on;exact rfl;exact rfl;exact ka) | (apply Wl.off;exact rfl;exact rfl;exact rfl;exact kq) | refine Wl.offU rfl rfl rfl ?_ | refine Wl.extract rfl rfl rfl ?_ | refine Wl.nilCheck rfl rfl ?_ | (apply Wl.pickT;exact rfl;exact rfl;exact ka;exact rfl) | (apply Wl.pickF;exact rfl;exact rfl;exact ka;exact rfl) | refine Wl.not rfl rfl ?_ | refine Wl.fieldAddr0 rfl rfl ?_ | refine Wl.fieldAddrZ rfl rfl ?_ | refine Wl.fieldAddr rfl rfl ?_ | (apply Wl.loadH;exact rfl;exact rfl;exact kg;exact rfl) | (apply Wl.loadO;exact rfl;exact rfl;(assumption);exact qz) | refine Wl.eqlPN rfl rfl rfl ?_ | refine Wl.neqPN rfl rfl rfl ?_ | refine Wl.eqlNN rfl rfl rfl ?_ | refine Wl.neqNN rfl rfl rfl ?_ | (apply Wl.eqlIs;exact rfl;exact rfl;exact rfl;exact kz) | (apply Wl.neqIs;exact rfl;exact rfl;exact rfl;exact kz) | refine Wl.eql rfl rfl rfl ?_ | refine Wl.neq rfl rfl rfl ?_ | refine Wl.lss rfl rfl rfl ?_ | refine Wl.leq rfl rfl rfl ?_ | refine Wl.gtr rfl rfl rfl ?_ | refine Wl.geq rfl rfl rfl ?_ | (refine Wl.addI rfl rfl rfl ?_ ?_;constructor <;> omega) | (refine Wl.subI rfl rfl rfl ?_ ?_;constructor <;> omega) | (refine Wl.mulI rfl rfl rfl ?_ ?_;constructor <;> omega) | (refine Wl.addU rfl rfl rfl ?_ ?_;constructor <;> omega) | refine Wl.add rfl rfl rfl ?_ | refine Wl.sub' rfl rfl rfl ?_ | refine Wl.mul rfl rfl rfl ?_ | (apply Wl.quo;exact rfl;exact rfl;exact rfl;exact qs) | (apply Wl.rem;exact rfl;exact rfl;exact rfl;exact qs) | refine Wl.and rfl rfl rfl ?_ | refine Wl.or rfl rfl rfl ?_ | refine Wl.xor rfl rfl rfl ?_ | refine Wl.andNot rfl rfl rfl ?_ | (refine Wl.shl rfl rfl rfl ?_ ?_;omega) | (refine Wl.shr rfl rfl rfl ?_ ?_;omega) | (apply Wl.eqlBs;exact rfl;exact rfl;exact rfl;exact kz) | (apply Wl.neqBs;exact rfl;exact rfl;exact rfl;exact kz) | refine Wl.eqlB rfl rfl rfl ?_ | refine Wl.neqB rfl rfl rfl ?_ | refine Wl.eqlSB rfl rfl rfl ?_ | refine Wl.neqSB rfl rfl rfl ?_ | refine Wl.eqlS rfl rfl rfl ?_ | refine Wl.neqS rfl rfl rfl ?_ | (refine Wl.convI64 rfl rfl ?_ ?_;constructor <;> omega) | (refine Wl.convU64 rfl rfl ?_ ?_;constructor <;> omega) | (refine Wl.convU32 rfl rfl ?_ ?_;constructor <;> omega) | (refine Wl.convU8 rfl rfl ?_ ?_;constructor <;> omega) | refine Wl.convI rfl rfl ?_ | refine Wl.neg rfl rfl ?_ | refine Wl.compl rfl rfl ?_ | refine Wl.len rfl rfl ?_ | refine Wl.lenS rfl rfl ?_ | (apply Wl.store;exact rfl;exact rfl;exact rfl;exact kg;exact ky) | (apply Wl.storeA;exact rfl;exact rfl;exact rfl;exact rfl;exact kg;exact kh) | (apply Wl.loadAH;exact rfl;exact rfl;exact kg;exact kg) | (apply Wl.buildS;exact rfl;exact kv;exact kf) | (apply Wl.buildA;exact rfl;exact kv;exact kf) | (apply Wl.lit;exact rfl;exact kv;exact rfl;exact rfl;exact kt;intro c hc ho) | (apply Wl.boxA;exact rfl;exact rfl;intro c hc ho) | (apply Wl.box1;exact rfl;exact rfl;exact rfl;intro c hc ho) | (apply Wl.alloc;exact rfl;intro c hc ho) | (apply Wl.slice0;exact rfl;exact rfl;exact qn;exact qn;(first | exact fun _ => rfl | exact fun h => nomatch h);omega;omega) | (apply Wl.sliceFull;exact rfl;exact rfl;exact qn;exact qn;exact qn;(first | exact fun _ => rfl | exact fun h => nomatch h);omega;omega;omega) | (refine Wl.indexAddr1 rfl rfl rfl ?_ ?_;constructor <;> omega) | (refine Wl.indexAddr rfl rfl rfl ?_ ?_;constructor <;> omega) | (refine Wl.indexArr rfl rfl rfl ?_ ?_;constructor <;> omega) | apply Wl.nil | apply Wl.nilQ | apply Wl.nilM | apply St.block | apply St.region | (apply St.draw;exact mixed;(kernel_rfl);exact (fun _ h => Hp.drew h)) | (apply St.condT;exact rfl;exact ka) | (apply St.condF;exact rfl;exact ka) | apply St.ret | apply St.skip | apply St.exit | apply Gt.next | apply Gt.thenRet | apply Gt.thenExit | apply Gt.inNormal | apply Gt.inRet | apply Gt.inExit | (apply Gt.inOther;exact rfl) | (apply Gt.out1;exact rfl;exact rfl;intro w' hp) | (apply Gt.out2;exact rfl;exact rfl;exact rfl;intro w' hp) | (apply Gt.out3;exact rfl;exact rfl;exact rfl;exact rfl;intro w' hp) | (apply Gt.out4;exact rfl;exact rfl;exact rfl;exact rfl;exact rfl;intro w' hp) | (apply Gt.out0;exact rfl;intro w' hp) | (apply Gt.out0n;exact rfl;intro w' hp) | (apply Wl.splitP;exact rfl;exact rfl;all_goals (intros;try (exfalso;omega))) | (apply Wl.splitB;exact rfl;exact rfl;all_goals intros) | (apply St.condP;exact rfl;all_goals (intros;try (exfalso;omega))) | (apply St.condB;exact rfl;all_goals intros)
   apply St.seq
   repeat' first | refine Wl.lss rfl rfl rfl ?_ | apply Wl.nil | apply St.region | apply Gt.next
   apply St.seq
   repeat' first | (apply St.condT;exact rfl;exact ka) | apply St.skip | apply Gt.next
   apply St.seq
   repeat' first | apply St.block
   apply St.seq
   repeat' first | (apply Wl.loadAB (xs := t.cells);exact rfl;exact rfl;exact hcell;exact trivial;exact htl) | (apply Wl.storeA (xs := t.cells);exact rfl;exact rfl;exact htl;exact ht1;exact kg;exact .z (LOver.whole rfl)) | (apply Wl.alloc;exact rfl;intro c hc ho) | (refine Wl.indexAddr rfl rfl rfl ?_ ?_;constructor <;> omega) | apply Wl.nil | apply St.region | apply Gt.next
   apply St.seq
   repeat' first | refine Wl.assign rfl rfl ?_ | apply Wl.nil | apply St.region | apply Gt.next
   generalize c = c15 at *
   have hc15 : w11.heap.size ≤ c15 := by assumption
   refine St.cut (σ := World) (fun τ => Upd (fun k => w11.heap.size ≤ k) w11 τ ∧ τ.heap[c15]? = some (.cells t.cells.toArray 70 (0,0)) ∧ w11.heap.size ≤ c15) (fun τ => [(0,.slice a l.length cl),(1,.slice (some ⟨vb,vo,none⟩) rl.length vc),(5,.pointer (some ⟨p,0,none⟩)),(31,.slice (some ⟨vb,vo,none⟩) rl.length vc),(32,.int .i64 (rl.length : Int)),(33,.int .i64 (r : Int)),(8,.slice (some ⟨gb,go,none⟩) 65536 gc),(10,.pointer (some ⟨c10,0,none⟩)),(100,.slice (some ⟨g,0,none⟩) tr'.length sc),(101,.int .i64 (tr'.length : Int)),(102,.int .i64 (j : Int)),(15,.pointer (some ⟨c15,0,none⟩)),(16,.int .i64 (if t.st = true then 2 else 1))]) (fun τ => Hp τ []) ?_ ?_
   ·by_cases hst : t.st = true
    ·rw [if_pos hst]
     repeat' first | refine Wl.assign rfl rfl ?_ | refine Wl.fieldAddrZ rfl rfl ?_ | (apply Wl.loadH;exact rfl;exact rfl;exact kg;exact rfl) | apply Wl.nil | apply St.seq | apply St.region | (apply St.condT;exact rfl;exact ka) | apply Gt.next
     refine Gt.reb (H' := []) fun w12 h12 => ⟨trivial,trivial,?_⟩
     apply Gt.meet w12
     ·exact ⟨Hp.on1 h12 (Upd.refl _ _) hc15,h12.own.at (.head _),hc15⟩
     ·repeat constructor
     ·exact fun _ h => h
    ·rw [if_neg hst]
     have hst' : t.st = false := by simpa using hst
     repeat' first | refine Wl.fieldAddrZ rfl rfl ?_ | (apply Wl.loadH;exact rfl;exact rfl;exact kg;exact rfl) | apply Wl.nil | apply St.seq | apply St.region | (apply St.condF;exact rfl;exact ka) | apply St.skip | apply Gt.next
     refine Gt.reb (H' := []) fun w12 h12 => ⟨trivial,trivial,?_⟩
     apply Gt.meet w12
     ·exact ⟨Hp.on1 h12 (Upd.refl _ _) hc15,h12.own.at (.head _),hc15⟩
     ·repeat constructor
     ·exact fun _ h => h
   rintro w12 ⟨u12,h15,hc15'⟩
   have K12 := K11.new u12
   have z12 := u12.size
   have lc15 := lt_of_block h15
   have e3 := u12.heap (u11.heap e10 ze) ze
   have lp12 := lt_of_block K12.pr
   have lc12 := lt_of_block e3
   repeat' first | apply St.seq
   by_cases hw0 : who ≥ 0
   ·have hdw : decide (who ≥ 0) = true := decide_eq_true hw0
    by_cases htr : t.tr = false
    ·have hnt : (!t.tr) = true := by rw [htr];rfl
     by_cases hwi : t.wi > 0
     ·have hdi : decide (t.wi > 0) = true := decide_eq_true hwi
      obtain ⟨k,x,R,htt,hx,hRR,hwho,hst,hwhy,hP',htr'⟩ := hR.elim (fun h => absurd hw0 (by rw [h.2.1];decide)) id
      subst hwho
      have hkl : k < l.length := by rw [← K.len];exact (List.getElem?_eq_some_iff.1 hx).1
      have hck : chkG 4 (en4 (biasI k)) t.at_ t.wi (if t.st = true then 2 else 1) = true := by
       have h := runF_tr (E := begE l) (n := P.L.length) (who := k) (begG ze) kn ⟨x.xs,x.p,P.D⟩ [] (fun x hx => by cases hx) t (by
        have h := List.mem_of_getElem? ht
        rw [htr',hRR] at h
        exact h)
       exact h htr hwi
      refine St.tree (fun w' => w'.heap[c10]? = (some (.cells #[.int .i64 (k : Int),.int .i64 st,.int .i64 why] 35 (0,0))) ∧ w'.heap[c15]? = some (.cells t.cells.toArray 70 (0,0)) ∧ w'.heap[p]? = (some (.cells #[.pointer (some ⟨I.m,0,none⟩),rv] 39 (0,0)))) mixed (fun _ h' => ⟨Hp.drew h',(Hp.drew h').upd.heap e3 (fun y => y trivial),(Hp.drew h').upd.heap h15 (fun y => y trivial),(Hp.drew h').upd.heap K12.pr (fun y => y trivial)⟩) ?_
      refine Mt.pf 0 ?_
      refine Mt.pu 1 ?_
      repeat' first | (apply Wl.loadF;exact rfl;exact rfl;(intro w' h';first | exact cell_of h'.1 rfl | exact cell_of h'.2.1 rfl | exact cell_of h'.2.2 rfl)) | apply Wl.nilB
      refine Mt.pu 2 ?_
      refine Wl.geq rfl rfl rfl (Wl.nilB ?_)
      refine Mt.pm 3 ?_
      refine Mt.pu 4 ?_
      repeat' first | (apply Wl.on;exact rfl;exact rfl;exact ka) | refine Wl.fieldAddrZ rfl rfl ?_ | apply Wl.nilB
      refine Mt.pu 5 ?_
      repeat' first | (apply Wl.loadF;exact rfl;exact rfl;(intro w' h';first | exact cell_of h'.1 rfl | exact cell_of h'.2.1 rfl | exact cell_of h'.2.2 rfl)) | (apply Wl.on;exact rfl;exact rfl;exact ka) | apply Wl.nilB
      refine Mt.pu 6 ?_
      repeat' first | (apply Wl.on;exact rfl;exact rfl;exact ka) | refine Wl.not rfl rfl ?_ | apply Wl.nilB
      refine Mt.pu 7 ?_
      repeat' first | (apply Wl.pickT;exact rfl;exact rfl;exact ka;exact rfl) | apply Wl.nilB
      refine Mt.pm 8 ?_
      refine Mt.pu 9 ?_
      repeat' first | (apply Wl.on;exact rfl;exact rfl;exact ka) | refine Wl.fieldAddrZ rfl rfl ?_ | apply Wl.nilB
      refine Mt.pu 10 ?_
      repeat' first | (apply Wl.loadF;exact rfl;exact rfl;(intro w' h';first | exact cell_of h'.1 rfl | exact cell_of h'.2.1 rfl | exact cell_of h'.2.2 rfl)) | (apply Wl.on;exact rfl;exact rfl;exact ka) | apply Wl.nilB
      refine Mt.pu 11 ?_
      repeat' first | (apply Wl.on;exact rfl;exact rfl;exact ka) | refine Wl.gtr rfl rfl rfl ?_ | apply Wl.nilB
      refine Mt.pu 12 ?_
      repeat' first | (apply Wl.pickT;exact rfl;exact rfl;exact ka;exact rfl) | apply Wl.nilB
      refine Mt.pm 13 ?_
      refine Mt.pu 14 ?_
      repeat' first | refine Wl.move rfl rfl ?_ | (apply Wl.on;exact rfl;exact rfl;exact ka) | apply Wl.nilB
      refine Mt.pu 18 ?_
      repeat' first | (apply Wl.on;exact rfl;exact rfl;exact ka) | refine Wl.fieldAddr0 rfl rfl ?_ | apply Wl.nilB
      refine Mt.pu 21 ?_
      repeat' first | (apply Wl.on;exact rfl;exact rfl;exact ka) | refine Wl.fieldAddrZ rfl rfl ?_ | apply Wl.nilB
      refine Mt.pu 23 ?_
      repeat' first | (apply Wl.on;exact rfl;exact rfl;exact ka) | refine Wl.fieldAddrZ rfl rfl ?_ | apply Wl.nilB
      refine Mt.pu 25 ?_
      repeat' first | refine Wl.move rfl rfl ?_ | (apply Wl.on;exact rfl;exact rfl;exact ka) | apply Wl.nilB
      refine Mt.pu 15 ?_
      repeat' first | (apply Wl.on;exact rfl;exact rfl;exact ka) | refine Wl.nilCheck rfl rfl ?_ | apply Wl.nilB
      refine Mt.pu 19 ?_
      repeat' first | (apply Wl.loadF;exact rfl;exact rfl;(intro w' h';first | exact cell_of h'.1 rfl | exact cell_of h'.2.1 rfl | exact cell_of h'.2.2 rfl)) | (apply Wl.on;exact rfl;exact rfl;exact ka) | apply Wl.nilB
      refine Mt.pu 22 ?_
      repeat' first | (apply Wl.loadF;exact rfl;exact rfl;(intro w' h';first | exact cell_of h'.1 rfl | exact cell_of h'.2.1 rfl | exact cell_of h'.2.2 rfl)) | (apply Wl.on;exact rfl;exact rfl;exact ka) | apply Wl.nilB
      refine Mt.pu 24 ?_
      repeat' first | (apply Wl.loadF;exact rfl;exact rfl;(intro w' h';first | exact cell_of h'.1 rfl | exact cell_of h'.2.1 rfl | exact cell_of h'.2.2 rfl)) | (apply Wl.on;exact rfl;exact rfl;exact ka) | apply Wl.nilB
      refine Mt.pu 16 ?_
      repeat' first | (apply Wl.on;exact rfl;exact rfl;exact ka) | refine Wl.fieldAddr0 rfl rfl ?_ | apply Wl.nilB
      refine Mt.pu 17 ?_
      repeat' first | (apply Wl.loadF;exact rfl;exact rfl;(intro w' h';first | exact cell_of h'.1 rfl | exact cell_of h'.2.1 rfl | exact cell_of h'.2.2 rfl)) | (apply Wl.on;exact rfl;exact rfl;exact ka) | apply Wl.nilB
      refine Mt.eff1 (i := 20) ki zg ?_
      apply Wl.on
      ·exact rfl
      ·exact rfl
      ·first | with_reducible rfl | with_reducible assumption | decide
      apply Wl.callC
      ·exact rfl
      ·repeat constructor
      intro wq hq
      have Kq := K12.quiet hq
      have zqe := hq.upd.size
      refine (mEntries base I _ (begE l) k wq Kq.mon (by show EnvS wq base P'.L.length pv ev (begE l);rw [K8.len];exact Kq.env) (by show k < P'.L.length;rw [K8.len];exact hkl) (by show 1 ≤ 4;decide)).mono ?_
      rintro e w13 ⟨nb,nc,rfl,hen,u13⟩
      have v13 : Upd (fun b => w12.heap.size ≤ b) w12 w13 := hq.upd.comp u13 fun k _ h => h.elim (fun y => (y trivial).elim) fun h => by omega
      have K13 := K12.new v13
      have f1 := v13.heap e3 ze
      have f2 := v13.heap h15 ze
      refine ⟨_,_,rfl,Hp.start w13,?_⟩
      clear hq u13
      repeat' first | apply Wl.nil
      refine Mt.backE (fun _ h' => ⟨h'.upd.heap f1 (fun y => y trivial),h'.upd.heap f2 (fun y => y trivial),h'.upd.heap K13.pr (fun y => y trivial)⟩) ?_
      refine Mt.eff1 (i := 26) ki zg ?_
      apply Wl.on
      ·exact rfl
      ·exact rfl
      ·first | with_reducible rfl | with_reducible assumption | decide
      apply Wl.callQ
      ·exact rfl
      ·repeat constructor
      ·intro wq hq
       refine (checkX 4 nc (en4 (biasI k)) (some ⟨nb,0,none⟩) t.at_ t.wi (if t.st = true then 2 else 1) wq zi (hen.upd hq.upd fun _ _ y => y trivial) (K13.quiet hq).env.tab).mono ?_
       rw [hck]
       rintro e wr ⟨rfl,hr⟩
       exact ⟨rfl,hq.keep hr⟩
      repeat' first | apply Wl.nil
      refine Mt.backE (fun _ h' => ⟨h'.upd.heap f1 (fun y => y trivial),h'.upd.heap f2 (fun y => y trivial),h'.upd.heap K13.pr (fun y => y trivial)⟩) ?_
      refine Mt.pu 27 ?_
      repeat' first | (apply Wl.on;exact rfl;exact rfl;exact ka) | refine Wl.not rfl rfl ?_ | apply Wl.nilB
      refine Mt.pu 28 ?_
      repeat' first | (apply Wl.pickT;exact rfl;exact rfl;exact ka;exact rfl) | apply Wl.nilB
      refine Mt.toGt ki ?_
      repeat' first | refine Wl.move rfl rfl ?_ | (refine Wl.addI rfl rfl rfl ?_ ?_;constructor <;> omega) | apply Wl.nil | apply St.region | (apply St.condF;exact rfl;exact ka) | apply St.skip | apply Gt.next | apply Gt.inNormal
      refine Gt.reb (H' := []) fun w14 h14 => ⟨trivial,trivial,?_⟩
      have U14 : Upd (fun k => w10.heap.size ≤ k) w10 w14 := ((u11.comp u12 (T := fun k => w10.heap.size ≤ k) fun k _ h => h.elim id fun h => by omega).comp v13 (T := fun k => w10.heap.size ≤ k) fun k _ h => h.elim id fun h => by omega).comp h14.upd fun k _ h => h.elim id fun y => (y trivial).elim
      refine Gt.round (j + 1,w14) ⟨by simp only;omega,U14⟩ q5 kx (fun _ h => h)
     have hdi : decide (t.wi > 0) = false := decide_eq_false hwi
     refine St.tree (fun w' => w'.heap[c10]? = (some (.cells #[.int .i64 who,.int .i64 st,.int .i64 why] 35 (0,0))) ∧ w'.heap[c15]? = some (.cells t.cells.toArray 70 (0,0)) ∧ w'.heap[p]? = (some (.cells #[.pointer (some ⟨I.m,0,none⟩),rv] 39 (0,0)))) mixed (fun _ h' => ⟨Hp.drew h',(Hp.drew h').upd.heap e3 (fun y => y trivial),(Hp.drew h').upd.heap h15 (fun y => y trivial),(Hp.drew h').upd.heap K12.pr (fun y => y trivial)⟩) ?_
     refine Mt.pf 0 ?_
     refine Mt.pu 1 ?_
     repeat' first | (apply Wl.loadF;exact rfl;exact rfl;(intro w' h';first | exact cell_of h'.1 rfl | exact cell_of h'.2.1 rfl | exact cell_of h'.2.2 rfl)) | apply Wl.nilB
     refine Mt.pu 2 ?_
     refine Wl.geq rfl rfl rfl (Wl.nilB ?_)
     refine Mt.pm 3 ?_
     refine Mt.pu 4 ?_
     repeat' first | (apply Wl.on;exact rfl;exact rfl;exact ka) | refine Wl.fieldAddrZ rfl rfl ?_ | apply Wl.nilB
     refine Mt.pu 5 ?_
     repeat' first | (apply Wl.loadF;exact rfl;exact rfl;(intro w' h';first | exact cell_of h'.1 rfl | exact cell_of h'.2.1 rfl | exact cell_of h'.2.2 rfl)) | (apply Wl.on;exact rfl;exact rfl;exact ka) | apply Wl.nilB
     refine Mt.pu 6 ?_
     repeat' first | (apply Wl.on;exact rfl;exact rfl;exact ka) | refine Wl.not rfl rfl ?_ | apply Wl.nilB
     refine Mt.pu 7 ?_
     repeat' first | (apply Wl.pickT;exact rfl;exact rfl;exact ka;exact rfl) | apply Wl.nilB
     refine Mt.pm 8 ?_
     refine Mt.pu 9 ?_
     repeat' first | (apply Wl.on;exact rfl;exact rfl;exact ka) | refine Wl.fieldAddrZ rfl rfl ?_ | apply Wl.nilB
     refine Mt.pu 10 ?_
     repeat' first | (apply Wl.loadF;exact rfl;exact rfl;(intro w' h';first | exact cell_of h'.1 rfl | exact cell_of h'.2.1 rfl | exact cell_of h'.2.2 rfl)) | (apply Wl.on;exact rfl;exact rfl;exact ka) | apply Wl.nilB
     refine Mt.pu 11 ?_
     repeat' first | (apply Wl.on;exact rfl;exact rfl;exact ka) | refine Wl.gtr rfl rfl rfl ?_ | apply Wl.nilB
     refine Mt.pu 12 ?_
     repeat' first | (apply Wl.pickT;exact rfl;exact rfl;exact ka;exact rfl) | apply Wl.nilB
     refine Mt.pm 13 ?_
     refine Mt.po 14 ?_
     refine Mt.po 18 ?_
     refine Mt.po 21 ?_
     refine Mt.po 23 ?_
     refine Mt.po 25 ?_
     refine Mt.po 15 ?_
     refine Mt.po 19 ?_
     refine Mt.po 22 ?_
     refine Mt.po 24 ?_
     refine Mt.po 16 ?_
     refine Mt.po 17 ?_
     refine Mt.eff1 (i := 20) ki zg ?_
     repeat' first | (apply Wl.off;exact rfl;exact rfl;exact rfl;exact kq) | apply Wl.nil
     refine Mt.backE (fun _ h' => ⟨h'.upd.heap e3 (fun y => y trivial),h'.upd.heap h15 (fun y => y trivial),h'.upd.heap K12.pr (fun y => y trivial)⟩) ?_
     refine Mt.eff1 (i := 26) ki zg ?_
     repeat' first | (apply Wl.off;exact rfl;exact rfl;exact rfl;exact kq) | apply Wl.nil
     refine Mt.backE (fun _ h' => ⟨h'.upd.heap e3 (fun y => y trivial),h'.upd.heap h15 (fun y => y trivial),h'.upd.heap K12.pr (fun y => y trivial)⟩) ?_
     refine Mt.po 27 ?_
     refine Mt.pu 28 ?_
     repeat' first | (apply Wl.pickF;exact rfl;exact rfl;exact ka;exact rfl) | apply Wl.nilB
     refine Mt.toGt ki ?_
     repeat' first | refine Wl.move rfl rfl ?_ | (refine Wl.addI rfl rfl rfl ?_ ?_;constructor <;> omega) | apply Wl.nil | apply St.region | (apply St.condF;exact rfl;exact ka) | apply St.skip | apply Gt.next | apply Gt.inNormal
     refine Gt.reb (H' := []) fun w14 h14 => ⟨trivial,trivial,?_⟩
     have U14 : Upd (fun k => w10.heap.size ≤ k) w10 w14 := (u11.comp u12 (T := fun k => w10.heap.size ≤ k) fun k _ h => h.elim id fun h => by omega).comp h14.upd fun k _ h => h.elim id fun y => (y trivial).elim
     refine Gt.round (j + 1,w14) ⟨by simp only;omega,U14⟩ q5 kx (fun _ h => h)
    have hnt : (!t.tr) = false := by cases e : t.tr;exact absurd e htr;rfl
    refine St.tree (fun w' => w'.heap[c10]? = (some (.cells #[.int .i64 who,.int .i64 st,.int .i64 why] 35 (0,0))) ∧ w'.heap[c15]? = some (.cells t.cells.toArray 70 (0,0)) ∧ w'.heap[p]? = (some (.cells #[.pointer (some ⟨I.m,0,none⟩),rv] 39 (0,0)))) mixed (fun _ h' => ⟨Hp.drew h',(Hp.drew h').upd.heap e3 (fun y => y trivial),(Hp.drew h').upd.heap h15 (fun y => y trivial),(Hp.drew h').upd.heap K12.pr (fun y => y trivial)⟩) ?_
    refine Mt.pf 0 ?_
    refine Mt.pu 1 ?_
    repeat' first | (apply Wl.loadF;exact rfl;exact rfl;(intro w' h';first | exact cell_of h'.1 rfl | exact cell_of h'.2.1 rfl | exact cell_of h'.2.2 rfl)) | apply Wl.nilB
    refine Mt.pu 2 ?_
    refine Wl.geq rfl rfl rfl (Wl.nilB ?_)
    refine Mt.pm 3 ?_
    refine Mt.pu 4 ?_
    repeat' first | (apply Wl.on;exact rfl;exact rfl;exact ka) | refine Wl.fieldAddrZ rfl rfl ?_ | apply Wl.nilB
    refine Mt.pu 5 ?_
    repeat' first | (apply Wl.loadF;exact rfl;exact rfl;(intro w' h';first | exact cell_of h'.1 rfl | exact cell_of h'.2.1 rfl | exact cell_of h'.2.2 rfl)) | (apply Wl.on;exact rfl;exact rfl;exact ka) | apply Wl.nilB
    refine Mt.pu 6 ?_
    repeat' first | (apply Wl.on;exact rfl;exact rfl;exact ka) | refine Wl.not rfl rfl ?_ | apply Wl.nilB
    refine Mt.pu 7 ?_
    repeat' first | (apply Wl.pickT;exact rfl;exact rfl;exact ka;exact rfl) | apply Wl.nilB
    refine Mt.pm 8 ?_
    refine Mt.po 9 ?_
    refine Mt.po 10 ?_
    refine Mt.po 11 ?_
    refine Mt.pu 12 ?_
    repeat' first | (apply Wl.pickF;exact rfl;exact rfl;exact ka;exact rfl) | apply Wl.nilB
    refine Mt.pm 13 ?_
    refine Mt.po 14 ?_
    refine Mt.po 18 ?_
    refine Mt.po 21 ?_
    refine Mt.po 23 ?_
    refine Mt.po 25 ?_
    refine Mt.po 15 ?_
    refine Mt.po 19 ?_
    refine Mt.po 22 ?_
    refine Mt.po 24 ?_
    refine Mt.po 16 ?_
    refine Mt.po 17 ?_
    refine Mt.eff1 (i := 20) ki zg ?_
    repeat' first | (apply Wl.off;exact rfl;exact rfl;exact rfl;exact kq) | apply Wl.nil
    refine Mt.backE (fun _ h' => ⟨h'.upd.heap e3 (fun y => y trivial),h'.upd.heap h15 (fun y => y trivial),h'.upd.heap K12.pr (fun y => y trivial)⟩) ?_
    refine Mt.eff1 (i := 26) ki zg ?_
    repeat' first | (apply Wl.off;exact rfl;exact rfl;exact rfl;exact kq) | apply Wl.nil
    refine Mt.backE (fun _ h' => ⟨h'.upd.heap e3 (fun y => y trivial),h'.upd.heap h15 (fun y => y trivial),h'.upd.heap K12.pr (fun y => y trivial)⟩) ?_
    refine Mt.po 27 ?_
    refine Mt.pu 28 ?_
    repeat' first | (apply Wl.pickF;exact rfl;exact rfl;exact ka;exact rfl) | apply Wl.nilB
    refine Mt.toGt ki ?_
    repeat' first | refine Wl.move rfl rfl ?_ | (refine Wl.addI rfl rfl rfl ?_ ?_;constructor <;> omega) | apply Wl.nil | apply St.region | (apply St.condF;exact rfl;exact ka) | apply St.skip | apply Gt.next | apply Gt.inNormal
    refine Gt.reb (H' := []) fun w14 h14 => ⟨trivial,trivial,?_⟩
    have U14 : Upd (fun k => w10.heap.size ≤ k) w10 w14 := (u11.comp u12 (T := fun k => w10.heap.size ≤ k) fun k _ h => h.elim id fun h => by omega).comp h14.upd fun k _ h => h.elim id fun y => (y trivial).elim
    refine Gt.round (j + 1,w14) ⟨by simp only;omega,U14⟩ q5 kx (fun _ h => h)
   have hdw : decide (who ≥ 0) = false := decide_eq_false hw0
   refine St.tree (fun w' => w'.heap[c10]? = (some (.cells #[.int .i64 who,.int .i64 st,.int .i64 why] 35 (0,0))) ∧ w'.heap[c15]? = some (.cells t.cells.toArray 70 (0,0)) ∧ w'.heap[p]? = (some (.cells #[.pointer (some ⟨I.m,0,none⟩),rv] 39 (0,0)))) mixed (fun _ h' => ⟨Hp.drew h',(Hp.drew h').upd.heap e3 (fun y => y trivial),(Hp.drew h').upd.heap h15 (fun y => y trivial),(Hp.drew h').upd.heap K12.pr (fun y => y trivial)⟩) ?_
   refine Mt.pf 0 ?_
   refine Mt.pu 1 ?_
   repeat' first | (apply Wl.loadF;exact rfl;exact rfl;(intro w' h';first | exact cell_of h'.1 rfl | exact cell_of h'.2.1 rfl | exact cell_of h'.2.2 rfl)) | apply Wl.nilB
   refine Mt.pu 2 ?_
   refine Wl.geq rfl rfl rfl (Wl.nilB ?_)
   refine Mt.pm 3 ?_
   refine Mt.po 4 ?_
   refine Mt.po 5 ?_
   refine Mt.po 6 ?_
   refine Mt.pu 7 ?_
   repeat' first | (apply Wl.pickF;exact rfl;exact rfl;exact ka;exact rfl) | apply Wl.nilB
   refine Mt.pm 8 ?_
   refine Mt.po 9 ?_
   refine Mt.po 10 ?_
   refine Mt.po 11 ?_
   refine Mt.pu 12 ?_
   repeat' first | (apply Wl.pickF;exact rfl;exact rfl;exact ka;exact rfl) | apply Wl.nilB
   refine Mt.pm 13 ?_
   refine Mt.po 14 ?_
   refine Mt.po 18 ?_
   refine Mt.po 21 ?_
   refine Mt.po 23 ?_
   refine Mt.po 25 ?_
   refine Mt.po 15 ?_
   refine Mt.po 19 ?_
   refine Mt.po 22 ?_
   refine Mt.po 24 ?_
   refine Mt.po 16 ?_
   refine Mt.po 17 ?_
   refine Mt.eff1 (i := 20) ki zg ?_
   repeat' first | (apply Wl.off;exact rfl;exact rfl;exact rfl;exact kq) | apply Wl.nil
   refine Mt.backE (fun _ h' => ⟨h'.upd.heap e3 (fun y => y trivial),h'.upd.heap h15 (fun y => y trivial),h'.upd.heap K12.pr (fun y => y trivial)⟩) ?_
   refine Mt.eff1 (i := 26) ki zg ?_
   repeat' first | (apply Wl.off;exact rfl;exact rfl;exact rfl;exact kq) | apply Wl.nil
   refine Mt.backE (fun _ h' => ⟨h'.upd.heap e3 (fun y => y trivial),h'.upd.heap h15 (fun y => y trivial),h'.upd.heap K12.pr (fun y => y trivial)⟩) ?_
   refine Mt.po 27 ?_
   refine Mt.pu 28 ?_
   repeat' first | (apply Wl.pickF;exact rfl;exact rfl;exact ka;exact rfl) | apply Wl.nilB
   refine Mt.toGt ki ?_
   repeat' first | refine Wl.move rfl rfl ?_ | (refine Wl.addI rfl rfl rfl ?_ ?_;constructor <;> omega) | apply Wl.nil | apply St.region | (apply St.condF;exact rfl;exact ka) | apply St.skip | apply Gt.next | apply Gt.inNormal
   refine Gt.reb (H' := []) fun w14 h14 => ⟨trivial,trivial,?_⟩
   have U14 : Upd (fun k => w10.heap.size ≤ k) w10 w14 := (u11.comp u12 (T := fun k => w10.heap.size ≤ k) fun k _ h => h.elim id fun h => by omega).comp h14.upd fun k _ h => h.elim id fun y => (y trivial).elim
   refine Gt.round (j + 1,w14) ⟨by simp only;omega,U14⟩ q5 kx (fun _ h => h)
  obtain rfl : j = tr'.length := by omega
  have hdj : decide ((tr'.length : Int) < (tr'.length : Int)) = false := decide_eq_false ze
  repeat' first | refine Wl.move rfl rfl ?_ | refine Wl.lss rfl rfl rfl ?_ | (refine Wl.addI rfl rfl rfl ?_ ?_;constructor <;> omega) | apply Wl.nil | apply St.seq | apply St.region | (apply St.condF;exact rfl;exact ka) | apply St.exit | apply Gt.next | apply Gt.thenExit | apply Gt.inNormal | apply Gt.inExit
  refine Gt.reb (H' := []) fun w12 h12 => ⟨trivial,trivial,?_⟩
  refine Gt.round ⟨w12,r + 1,P',lv',seen',tr',xs',pc',cf'⟩ ⟨by simp only;omega,K11.quiet h12⟩ q5 kx (fun _ h => h)
 obtain rfl : r = rl.length := by omega
 have hdr : decide ((rl.length : Int) < (rl.length : Int)) = false := decide_eq_false ze
 repeat' first | refine Wl.assign rfl rfl ?_ | refine Wl.lss rfl rfl rfl ?_ | apply Wl.nil | apply St.seq | apply St.region | (apply St.condF;exact rfl;exact ka) | apply St.ret | apply St.exit | apply Gt.next | apply Gt.thenExit | apply Gt.inExit | (apply Gt.out1;exact rfl;exact rfl;intro w' hp)
 exact ⟨rfl,Hp.on0 hp K.up⟩
end Go.Proofs.YtabbklpalbikdaaGreatDoor
end
section
namespace Go.Proofs.YtabbklpalbikdaaGreatDoor
open Go.RowKit Go.Pt Go.ChangeShapes Go.WideShapes Go.ChangeAt
def laid1 {H : Type} : List (String × DataW H) := [("math/bits.deBruijn32tab", Rows.laid_math_bits_deBruijn32tab)]
theorem laid1_eq : (Rows.laid_math_bits_deBruijn32tab : DataW Unit) = .agg (tabL.map fun (n : Int) => .lit (.int .u8 n)) := by kernel_rfl
theorem tabLaid {W : World} (h : laidMetH Tryz.prog laid1 W) : tabOk W := by
 intro r hr
 rw [MakeChecks.laidMetH_plain _ _ _ kj] at h
 obtain ⟨ps,⟨g,t,cs,fuel,p,q,hg,ht,hv,hd,_,_⟩,_,_⟩ := h
 obtain rfl := Option.some.inj ((show Tryz.prog.globalNamed "math/bits.deBruijn32tab" = some 0 by kernel_rfl).symm.trans hg)
 obtain rfl := Option.some.inj ((show (Tryz.prog.globals[0]?).map (·.type) = some 107 by kernel_rfl).symm.trans ht)
 rw [laid1_eq] at hd
 obtain ⟨xs,m,_,ex,_,hl,hel⟩ := DataW.trod_array Tryz.underlying107 hd
 have c5 : Tryz.prog.cellsOf 5 = 1 := by kernel_rfl
 have hE := hel r hr
 rw [c5,Nat.mul_one,List.getElem?_eq_getElem ze] at hE
 obtain ⟨z,e1,e2,_⟩ := DataW.trod_int Tryz.underlying5 hE
 have hlen : tabL.length = 32 := rfl
 have e3 : (xs.map (·.1)) = tabL.map fun (n : Int) => .lit (.int .u8 n) := (DataW.agg.inj (Prod.mk.inj ex).1).symm
 have e4 : (xs.map (·.1))[r]? = (tabL.map fun (n : Int) => (DataW.lit (.int .u8 n) : DataW Unit))[r]? := by rw [e3]
 rw [List.getElem?_map,List.getElem?_map,List.getElem?_eq_getElem (by omega : r < xs.length),List.getElem?_eq_getElem (by omega : r < tabL.length),e2] at e4
 have hz : z = tabL[r]'(by omega) := by
  simp only [Option.map_some,Option.some.injEq,DataW.lit.injEq,Lit.int.injEq,true_and] at e4
  exact e4
 refine ⟨tabL[r]'(by omega),List.getElem?_eq_getElem _,?_,?_⟩
 ·have : ∀ x ∈ tabL,(0 : Int) ≤ x ∧ x ≤ 31 := by decide
  exact this _ (List.getElem_mem _)
 ·rw [World.var?_cell hg hv r,← hz]
  have h0 : ((cs.toList.drop r).take 1)[0]? = some (.int .u8 z) := by rw [e1];rfl
  simpa using h0
end Go.Proofs.YtabbklpalbikdaaGreatDoor
end
