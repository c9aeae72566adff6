/-
 5 texts,one behind the other;each says what it proves. Conditions: as each text says.
-/
import Derived.Test.YtabbklpalbikdaaGreatDoorM09
import Derived.Test.YtabbklpalbikdaaGreatDoorM04
import Derived.Test.YtabbklpalbikdaaGreatDoorM02
import Derived.Test.YtabbklpalbikdaaGreatDoorRows
import Derived.WalkKit
import Derived.ProofKit
import Derived.LaidMore
import Derived.OpenShut
import Derived.ShutString
import Derived.ChangeOld
import Derived.Below
import Derived.MakeChecks
import Derived.Stop.Joined
set_option linter.unusedVariables false
set_option linter.unusedSimpArgs false
section
namespace Go.Proofs.YtabbklpalbikdaaGreatDoor
open Go.RowKit Go.Pt
theorem mTurn (base : Nat) (I : Mi) (M : Mv2) (w : World) (hM : MonS w base I M) :
  Calls Tryz.prog 22 #[.pointer (some ⟨I.m,0,none⟩)] w fun e w' => e = .returned (.int .i64 (turnV M.t)) ∧ Hp w [] w' := by
 have q2 : w.cell? ⟨I.m,2,none⟩ = some (.pointer (some ⟨I.wd,0,none⟩)) := cell_of hM.mm rfl
 have hTn := fun wq (k : WardS wq I.wd I.sa M.L M.t) => wTurn I.wd I.sa M.L M.t wq k
 change ∀ wq,WardS wq I.wd I.sa M.L M.t → Calls Tryz.prog 58 #[.pointer (some ⟨I.wd,0,none⟩)] wq (fun e w' => e = .returned (.int .i64 (turnV M.t)) ∧ Hp wq [] w') at hTn
 refine enter (args := [_]) (Γ := [(0,_)]) Tryz.func22 Tryz.ntmps22 rfl (of_decide_eq_true rfl) (.cons rfl .nil) ?_
 repeat' first | (apply Wl.loadO;exact rfl;exact rfl;exact zu;exact kr) | refine Wl.move rfl rfl ?_ | refine Wl.assign rfl rfl ?_ | refine Wl.nilCheck rfl rfl ?_ | refine Wl.fieldAddrZ rfl rfl ?_ | refine Wl.eqlPN rfl rfl rfl ?_ | apply Wl.nil | apply St.seq | apply St.region | (apply St.condF;exact rfl;exact ka) | apply St.skip | apply Gt.next
 apply Wl.callQ
 exact rfl
 (focus repeat constructor)
 ·intro wq hq
  exact hq.q (hTn wq (hM.ward.upd hq.upd (fun y => y trivial) (fun y => y trivial)))
 repeat' first | refine Wl.assign rfl rfl ?_ | apply Wl.nil | apply St.ret | apply Gt.next | (apply Gt.out1;exact rfl;exact rfl;intro w' hp)
 exact ⟨rfl,hp⟩
theorem mStatus (base : Nat) (I : Mi) (M : Mv2) (i : Nat) (x : Sta) (w : World) (hM : MonS w base I M) (hx : M.L[i]? = some x) :
  Calls Tryz.prog 18 #[.pointer (some ⟨I.m,0,none⟩),.int .i64 (i : Int)] w fun e w' => e = .returned (.agg x.cells.toArray) ∧ Hp w [] w' := by
 have q2 : w.cell? ⟨I.m,2,none⟩ = some (.pointer (some ⟨I.wd,0,none⟩)) := cell_of hM.mm rfl
 have lm := lt_of_block hM.mm
 have hxo : StaOk x := hM.ward.2.1 x (List.mem_of_getElem? hx)
 have hxl : x.cells.length = 35 := hxo.len
 have hx1 := hxo.one
 refine enter (args := [_,_]) (Γ := [(0,_),(1,_)]) Tryz.func18 Tryz.ntmps18 rfl (of_decide_eq_true rfl) (.cons rfl (.cons rfl .nil)) ?_
 repeat' first | (apply Wl.loadO;exact rfl;exact rfl;exact zu;exact kr) | refine Wl.move rfl rfl ?_ | refine Wl.nilCheck rfl rfl ?_ | refine Wl.fieldAddrZ rfl rfl ?_ | refine Wl.eqlPN rfl rfl rfl ?_ | (apply Wl.alloc;exact rfl;intro c hc ho) | apply Wl.nil | apply St.seq | apply St.region | (apply St.condF;exact rfl;exact ka) | apply St.skip | apply Gt.next
 apply Wl.callQ
 exact rfl
 (focus repeat constructor)
 ·intro wq hq
  exact hq.q (wStatus I.wd I.sa M.L M.t i x wq (hM.hp hq (by simp only [List.mem_cons,List.not_mem_nil,or_false,forall_eq];omega)).ward hx)
 repeat' first | (apply Wl.storeA (xs := x.cells);exact rfl;exact rfl;exact hxl;exact hx1;exact ke;exact .z (LOver.whole (by rw [hxl];rfl))) | (apply Gt.outC' (xs := x.cells);exact rfl;infer_instance;exact rfl;(exact .head _);exact LSub.whole' hxl;intro w' hp) | apply Wl.nil | apply St.ret | apply Gt.next
 exact ⟨rfl,hp.drop zx⟩
def stepsN (n : Int) : Int := ((n.tmod 60 + 60).tmod 60) + 1
theorem stepsN_rng (n : Int) : 1 ≤ stepsN n ∧ stepsN n ≤ 60 := by
 unfold stepsN
 have h1 : -60 < n.tmod 60 ∧ n.tmod 60 < 60 := by
  have := Int.tmod_lt_of_pos n (b := 60) zg
  have := Int.lt_tmod_of_pos n (b := 60) zg
  omega
 have h2 : 0 ≤ (n.tmod 60 + 60).tmod 60 := Int.tmod_nonneg _ zd
 have h3 := Int.tmod_lt_of_pos (n.tmod 60 + 60) (b := 60) zg
 omega
theorem stepsX (n : Int) (w : World) : Calls Tryz.prog 17 #[.int .i64 n] w fun e w' => e = .returned (.int .i64 (stepsN n)) ∧ Hp w [] w' := by
 have h1 : -60 < n.tmod 60 ∧ n.tmod 60 < 60 := by
  have := Int.tmod_lt_of_pos n (b := 60) zg
  have := Int.lt_tmod_of_pos n (b := 60) zg
  omega
 have h2 : 0 ≤ (n.tmod 60 + 60).tmod 60 := Int.tmod_nonneg _ zd
 have h3 := Int.tmod_lt_of_pos (n.tmod 60 + 60) (b := 60) zg
 refine enter (args := [_]) (Γ := [(0,_)]) Tryz.func17 Tryz.ntmps17 rfl (of_decide_eq_true rfl) (.cons rfl .nil) ?_
 repeat' first | refine Wl.move rfl rfl ?_ | refine Wl.assign rfl rfl ?_ | (refine Wl.addI rfl rfl rfl ?_ ?_;constructor <;> omega) | (apply Wl.rem;exact rfl;exact rfl;exact rfl;(first | decide | omega)) | apply Wl.nil | apply St.seq | apply St.region | apply St.ret | apply Gt.next | (apply Gt.out1;exact rfl;exact rfl;intro w' hp)
 exact ⟨rfl,hp⟩
end Go.Proofs.YtabbklpalbikdaaGreatDoor
end
section
namespace Go.Proofs.YtabbklpalbikdaaGreatDoor
open Go.RowKit Go.Pt
def ldF : LoadD := ⟨[2195,115],[],255,[]⟩
def ldR : LoadD := ⟨[1311763,4292866159],[],255,[]⟩
set_option maxRecDepth 100000 in
theorem fitLen : (runO (begE [ldF]) (begP [ldF]) 0 (staB [ldF] 0) 10).tr.length = 2 := by decide +kernel
set_option maxRecDepth 100000 in
theorem fitWhy : (runO (begE [ldF]) (begP [ldF]) 0 (staB [ldF] 0) 10).why = 3 := by decide +kernel
def cfB (i : Nat) : List Value := protC 4 (en4 (biasI i)) F0.cf 16
theorem rndMay {i : Nat} (hi : i < 3) : (biasI i).tmod 4 = 0 ∧ (biasI i + 4).tmod 4 = 0 ∧ inM (biasI i) 4 ∧ inM (biasI i + 4) 4 ∧ mayG (cfB i) (biasI i) 4 4 = true ∧ mayG (cfB i) (biasI i + 4) 4 4 = true := by
 have h : i = 0 ∨ i = 1 ∨ i = 2 := by omega
 rcases h with rfl | rfl | rfl <;> exact ⟨by decide,by decide,by decide +kernel,by decide +kernel,by decide +kernel,by decide +kernel⟩
theorem rndMem {n i : Nat} (hn : n ≤ 3) (hi : i < n) : loadX (loadF (List.replicate n ldR) n) (4096 + 12288 * i) 4 = 1311763 ∧ loadX (loadF (List.replicate n ldR) n) (4100 + 12288 * i) 4 = 4292866159 := by
 have h : (n = 1 ∧ i = 0) ∨ (n = 2 ∧ i = 0) ∨ (n = 2 ∧ i = 1) ∨ (n = 3 ∧ i = 0) ∨ (n = 3 ∧ i = 1) ∨ (n = 3 ∧ i = 2) := by omega
 rcases h with ⟨rfl,rfl⟩ | ⟨rfl,rfl⟩ | ⟨rfl,rfl⟩ | ⟨rfl,rfl⟩ | ⟨rfl,rfl⟩ | ⟨rfl,rfl⟩ <;> exact ⟨by decide +kernel,by decide +kernel⟩
def xRd (m : Nat) : List Value := xz.set 8 (.int .u32 (((m + 1) / 2 : Nat) : Int))
def pcRd (i m : Nat) : Int := biasI i + 4 * ((m % 2 : Nat) : Int)
theorem xRd_at (m : Nat) : (xRd m)[8]? = some (.int .u32 (((m + 1) / 2 : Nat) : Int)) := by
 unfold xRd
 rw [List.getElem?_set,if_pos rfl,if_pos zg]
theorem xRd_reg (m : Nat) : regI (xRd m) 8 = (((m + 1) / 2 : Nat) : Int) := by unfold regI;rw [show (8 : Int).toNat = 8 from rfl,xRd_at]
theorem dec19 : decF 1311763 = (19,8,8,0,1) := by decide +kernel
theorem dec3 : decF 4292866159 = (3,0,0,0,4294967292) := by decide +kernel
theorem rndEven {i m : Nat} (hi : i < 3) (he : m % 2 = 0) (hm : m < 100000) (D : DS) (hf : loadX D.f (4096 + 12288 * i) 4 = 1311763) :
  goR (cfB i) ⟨xRd m,biasI i,D⟩ = ⟨1311763,false,0,0,0,0,false,xRd (m + 1),biasI i + 4,D.f⟩ := by
 obtain ⟨a1,_,a3,_,a5,_⟩ := rndMay hi
 unfold goR stepF
 simp only
 rw [if_neg (by rw [a1];decide),if_pos a3,if_pos a5,show (biasI i - 2147483648).toNat = 4096 + 12288 * i by unfold biasI;omega,hf,dec19]
 unfold do5F doF
 simp only
 rw [if_neg zg,if_neg zg,if_neg zg,if_neg zg,if_neg zg,if_neg zg,if_pos zg,xRd_reg]
 have e1 : (reckF 19 (((m + 1) / 2 : Nat) : Int) 1).1 = (((m + 1 + 1) / 2 : Nat) : Int) := by
  unfold reckF
  rw [if_pos zg,IntKind.wrap_u32]
  simp only
  omega
 rw [e1]
 have e2 : setR (xRd m) 8 (((m + 1 + 1) / 2 : Nat) : Int) = xRd (m + 1) := by
  unfold setR xRd
  rw [if_neg zg,show (8 : Int).toNat = 8 from rfl,List.set_set]
 rw [e2]
 have e3 : pc4 (biasI i) = biasI i + 4 := by unfold pc4;rw [IntKind.wrap_u32];unfold biasI;omega
 rw [e3]
theorem rndOdd {i m : Nat} (hi : i < 3) (he : m % 2 = 1) (D : DS) (hf : loadX D.f (4100 + 12288 * i) 4 = 4292866159) :
  goR (cfB i) ⟨xRd m,biasI i + 4,D⟩ = ⟨4292866159,false,0,0,0,0,false,xRd (m + 1),biasI i,D.f⟩ := by
 obtain ⟨a1,a2,_,a4,_,a6⟩ := rndMay hi
 unfold goR stepF
 simp only
 rw [if_neg (by rw [a2];decide),if_pos a4,if_pos a6,show (biasI i + 4 - 2147483648).toNat = 4100 + 12288 * i by unfold biasI;omega,hf,dec3]
 unfold do5F doF
 simp only
 have e0 : IntKind.u32.wrap (biasI i + 4 + 4294967292) = biasI i := by rw [IntKind.wrap_u32];unfold biasI;omega
 rw [if_neg zg,if_pos zg,e0,if_neg (by rw [a1];decide)]
 have e2 : setR (xRd m) 0 (pc4 (biasI i + 4)) = xRd (m + 1) := by
  unfold setR xRd
  rw [if_pos rfl]
  rw [show (m + 1 + 1) / 2 = (m + 1) / 2 by omega]
 rw [e2]
theorem rndStep {i m n : Nat} (E : Pays) (hi : i < 3) (hm : m < 100000) (D : DS) (hf1 : loadX D.f (4096 + 12288 * i) 4 = 1311763) (hf2 : loadX D.f (4100 + 12288 * i) 4 = 4292866159) :
  oneF E n i (cfB i) ⟨xRd m,pcRd i m,D⟩ = ⟨0,0,pcRd i (m + 1),⟨xRd (m + 1),pcRd i (m + 1),D⟩⟩ := by
 by_cases he : m % 2 = 0
 ·have e1 : pcRd i m = biasI i := by unfold pcRd;rw [he];simp
  have e2 : pcRd i (m + 1) = biasI i + 4 := by unfold pcRd;rw [show (m + 1) % 2 = 1 by omega];rfl
  have hg := rndEven hi he hm D hf1
  rw [e1,e2,oneF_f (by rw [hg]),hg]
  rfl
 ·have e1 : pcRd i m = biasI i + 4 := by unfold pcRd;rw [show m % 2 = 1 by omega];rfl
  have e2 : pcRd i (m + 1) = biasI i := by unfold pcRd;rw [show (m + 1) % 2 = 0 by omega];simp
  have hg := rndOdd hi (by omega : m % 2 = 1) D hf2
  rw [e1,e2,oneF_f (by rw [hg]),hg]
  rfl
theorem rndRun {i n : Nat} (E : Pays) (hi : i < 3) (D : DS) (hf1 : loadX D.f (4096 + 12288 * i) 4 = 1311763) (hf2 : loadX D.f (4100 + 12288 * i) 4 = 4292866159) :
  ∀ (k m : Nat) (t : List Rz),m + k < 100000 → ∃ T,T.length = t.length + k ∧ runF E n i (cfB i) k ⟨xRd m,pcRd i m,D⟩ t = ⟨xRd (m + k),pcRd i (m + k),D,1,0,T⟩
 | 0,m,t,_ => ⟨t,rfl,rfl⟩
 | k + 1,m,t,h => by
  have h1 := rndStep (n := n) E hi (by omega : m < 100000) D hf1 hf2
  obtain ⟨T,hT,hr⟩ := rndRun E hi D hf1 hf2 k (m + 1) (t ++ [goR (cfB i) ⟨xRd m,pcRd i m,D⟩]) zd
  refine ⟨T,by rw [hT,List.length_append];simp;omega,?_⟩
  unfold runF
  rw [if_pos (by rw [h1]),h1]
  simp only
  rw [hr,show m + 1 + k = m + (k + 1) by omega]
end Go.Proofs.YtabbklpalbikdaaGreatDoor
end
section
namespace Go.Proofs.YtabbklpalbikdaaGreatDoor
open Go.RowKit Go.Pt
theorem FB0 : FB (fun _ => 0) := fun _ => ⟨by show (0 : Int) ≤ 0;decide,by show (0 : Int) < 256;decide⟩
theorem codeF_FB {f : Nat → Int} (h : FB f) (o : Nat) (l : List Int) : ∀ k,FB (codeF f o l k)
 | 0 => h
 | k + 1 => storeX_FB (codeF_FB h o l k) _ _ _
theorem loadF_FB (l : List LoadD) : ∀ i,FB (loadF l i)
 | 0 => FB0
 | i + 1 => putF_FB (codeF_FB (loadF_FB l i) _ _ _) _ _
theorem begP_ok (l : List LoadD) : DOk (begP l).D (begP l).L.length := by
 have hl : (begP l).L.length = l.length := by simp [begP]
 rw [hl]
 exact ⟨loadF_FB l _,fun _ => ⟨by show 0 ≤ 4;decide,fun x hx => by cases hx⟩,⟨by show (0 : Int) ≤ 0;decide,by show (0 : Int) ≤ 256;decide⟩,by show (0 : Int) ≤ 0;decide,by simp [begP],fun s hs => by rw [List.eq_of_mem_replicate hs];decide⟩
theorem LoadV.two {w : World} {g : Nat} {x : LoadD} (hx : x.data = [] ∧ x.regs = [] ∧ x.calls = 255) {a b : Int} (hc : x.code = [a,b]) (ha : 0 ≤ a ∧ a < 4294967296) (hb : 0 ≤ b ∧ b < 4294967296) (hg : w.heap[g]? = some (.cells #[.int .u32 a,.int .u32 b] 25 (0,0))) : LoadV w x (.slice (some ⟨g,0,none⟩) 2 2) (.slice none 0 0) (.slice none 0 0) where
 code := ⟨some ⟨g,0,none⟩,2,by rw [hc];rfl,fun i y hy => by
  rw [hc] at hy
  refine ⟨g,0,rfl,?_⟩
  match i,hy with
  | 0,hy => cases hy;exact ⟨cell_of hg rfl,ha⟩
  | 1,hy => cases hy;exact ⟨cell_of hg rfl,hb⟩⟩
 data := by rw [hx.1];exact Bs.nil w
 dlt := fun k hk => by cases hk
 regs := ⟨none,0,by rw [hx.2.1];rfl,fun i y hy => by rw [hx.2.1] at hy;cases hy⟩
 len := by rw [hc,hx.1,hx.2.1];exact ⟨by show 2 ≤ 1024;decide,by show 0 ≤ 4096;decide,by show 0 ≤ 1500;decide⟩
 cal := by rw [hx.2.2];exact ⟨by decide,by decide⟩
set_option maxRecDepth 100000 in
theorem fitTurn : (endP (begP [ldF]) 0 (staB [ldF] 0) (runO (begE [ldF]) (begP [ldF]) 0 (staB [ldF] 0) 10)).t = -1 := by decide +kernel
theorem fitSta : (endS (runO (begE [ldF]) (begP [ldF]) 0 (staB [ldF] 0) 10) (staB [ldF] 0)).s = 1 := by unfold endS;rw [fitWhy];rfl
set_option maxRecDepth 4000 in
set_option maxHeartbeats 8000000 in
theorem fit26 (w : World) (hT : tabOk w) : Calls Tryz.prog 14 #[] w fun e w' => e = .returned (.bool true) ∧ Upd (fun k => w.heap.size ≤ k) w w' := by
 refine enter (args := []) (Γ := []) Tryz.func14 Tryz.ntmps14 rfl (of_decide_eq_true rfl) .nil ?_
 repeat' first | refine Wl.assign rfl rfl ?_ | (apply Wl.buildS;exact rfl;exact kj;exact kc) | (apply Wl.lit;exact rfl;exact kj;exact rfl;exact rfl;exact ki;intro c hc ho) | apply Wl.nil | apply St.seq | apply St.region | apply Gt.next
 apply Wl.callC
 ·exact rfl
 ·repeat constructor
 intro wq hq
 have zq := hq.upd.size
 rename_i g hg og
 generalize c = c2 at *
 have hc2 : w.heap.size ≤ c2 := by assumption
 have hu0 : Upd (fun k => w.heap.size ≤ k) w wq := Hp.on2 hq (Upd.refl _ _) qa qa
 refine (begin26 (some ⟨c2,0,none⟩) 1 1 [ldF] wq rfl zg (fun i x hx => by
  match i,hx with
  | 0,hx =>
   cases hx
   exact ⟨c2,0,rfl,.slice (some ⟨g,0,none⟩) 2 2,.slice none 0 0,.slice none 0 0,fun q v hv => cell_of (hq.own.at (.head _)) (by rw [Nat.zero_mul,Nat.add_zero,Nat.zero_add];exact hv),LoadV.two ⟨rfl,rfl,rfl⟩ rfl zg zg (hq.own.at (.tail _ (.head _)))⟩) (hT.upd hu0 (Nat.not_le.2 hT.lt))).mono ?_
 rintro e w1 ⟨p,base,I,pv,ev,cf,rv,rfl,hp1,hM1,hE1,hb1,hpg,u1⟩
 have U1 : Upd (fun k => w.heap.size ≤ k) w w1 := hu0.comp u1 fun k _ hs => hs.elim id fun h => by omega
 have q0 : w1.cell? ⟨p,0,none⟩ = some (.pointer (some ⟨I.m,0,none⟩)) := cell_of hp1 rfl
 refine ⟨_,_,rfl,Hp.start w1,?_⟩
 clear hq
 repeat' first | (apply Wl.loadO;exact rfl;exact rfl;exact zu;exact kr) | refine Wl.move rfl rfl ?_ | refine Wl.assign rfl rfl ?_ | refine Wl.nilCheck rfl rfl ?_ | refine Wl.fieldAddr0 rfl rfl ?_ | refine Wl.eqlPN rfl rfl rfl ?_ | apply Wl.nil | apply St.seq | apply St.region | (apply St.condF;exact rfl;exact ka) | apply St.skip | apply Gt.next
 apply Wl.callC
 ·exact rfl
 ·repeat constructor
 intro wq hq
 have hMq := hM1.upd hq.upd fun b hb y => y trivial
 refine (mRun base I (begP [ldF]) pv ev (.slice none 0 0) (.slice none 0 0) [] xz 0 cf (begE [ldF]) 10 0 (staB [ldF] 0) wq hMq (by have := hq.upd.size;omega) (hE1.upd (hq.upd.mono fun _ _ y => (y trivial).elim)) (begP_ok [ldF]) rfl rfl zg).mono ?_
 rintro e w2 ⟨rfl,lv',seen',xs',pc',cf',hM2,_,u2,_,_⟩
 rw [show evV 0 (runO (begE [ldF]) (begP [ldF]) 0 (staB [ldF] 0) 10) = .agg #[.int .i64 0,.int .i64 2,.int .i64 3] by unfold evV;rw [fitLen,fitWhy];rfl]
 have u12 : Upd (fun k => base ≤ k) w1 w2 := (hq.upd.mono fun _ _ y => (y trivial).elim).comp u2 fun k _ hs => hs.elim id fun h => h.elim (fun h => (hMq.lt k h).1) fun h => by have := hq.upd.size;omega
 have U2 : Upd (fun k => w.heap.size ≤ k) w w2 := U1.comp u12 fun k _ hs => hs.elim id fun h => by omega
 have hp2 : w2.heap[p]? = some (.cells #[.pointer (some ⟨I.m,0,none⟩),rv] 39 (0,0)) := by
  have hoff := hMq.offF (hq.upd.heap hp1 fun y => y trivial) zg
  exact u2.heap (hq.upd.heap hp1 fun y => y trivial) fun h => h.elim (fun h => hoff p h rfl) fun h => absurd (lt_of_block (hq.upd.heap hp1 fun y => y trivial)) (Nat.not_lt.2 h)
 have q2 : w2.cell? ⟨p,0,none⟩ = some (.pointer (some ⟨I.m,0,none⟩)) := cell_of hp2 rfl
 have lp2 := lt_of_block hp2
 refine ⟨_,_,rfl,Hp.start w2,?_⟩
 clear hq
 have htv : turnV (endP (begP [ldF]) 0 (staB [ldF] 0) (runO (begE [ldF]) (begP [ldF]) 0 (staB [ldF] 0) 10)).t = -1 := by rw [fitTurn];rfl
 have hs1 := fitSta
 generalize hR : runO (begE [ldF]) (begP [ldF]) 0 (staB [ldF] 0) 10 = R at *
 repeat' first | (apply Wl.loadO;exact rfl;exact rfl;exact zu;exact kr) | (apply Wl.eqlG (la := [Lit.int .i64 0,Lit.int .i64 2,Lit.int .i64 3]) (lb := [Lit.int .i64 0,Lit.int .i64 2,Lit.int .i64 3]);exact rfl;exact rfl;exact rfl;(kernel_rfl);(kernel_rfl);(kernel_rfl);(kernel_rfl);(kernel_rfl);(kernel_rfl);exact (⟨fun _ => rfl,fun _ => rfl⟩ : true = true ↔ _ = _)) | refine Wl.move rfl rfl ?_ | (apply Wl.on;exact rfl;exact rfl;exact ka) | refine Wl.nilCheck rfl rfl ?_ | refine Wl.fieldAddr0 rfl rfl ?_ | (apply Wl.storeA;exact rfl;exact rfl;exact rfl;exact rfl;exact ke;exact kf) | (apply Wl.loadAH;exact rfl;exact rfl;exact ke;exact ke) | (apply Wl.buildS;exact rfl;exact kj;exact kc) | (apply Wl.alloc;exact rfl;intro c hc ho) | apply Wl.nil | apply St.seq | apply St.region | apply Gt.next
 apply Wl.callQ
 exact rfl
 (focus repeat constructor)
 ·intro wq hq
  exact hq.q (mTurn base I _ wq (hM2.hp hq (by simp only [List.mem_cons,List.not_mem_nil,or_false,forall_eq];omega)))
 have hdt : decide (turnV ((endP (begP [ldF]) 0 (staB [ldF] 0) R).mv pv ev lv' seen' R.tr xs' pc' cf').t = -1) = true := decide_eq_true htv
 repeat' first | (apply Wl.loadO;exact rfl;exact rfl;exact zu;exact kr) | refine Wl.move rfl rfl ?_ | (apply Wl.on;exact rfl;exact rfl;exact ka) | refine Wl.nilCheck rfl rfl ?_ | (apply Wl.pickT;exact rfl;exact rfl;exact ka;exact rfl) | refine Wl.fieldAddr0 rfl rfl ?_ | refine Wl.eql rfl rfl rfl ?_
 apply Wl.callQ
 exact rfl
 (focus repeat constructor)
 ·intro wq hq
  exact hq.q (mStatus base I _ 0 (endS R (staB [ldF] 0)) wq (hM2.hp hq (by simp only [List.mem_cons,List.not_mem_nil,or_false,forall_eq];omega)) rfl)
 have hds : decide ((endS R (staB [ldF] 0)).s = 1) = true := decide_eq_true hs1
 repeat' first | (apply Wl.fieldV (v := .int .i64 (endS R (staB [ldF] 0)).s);exact rfl;exact rfl;exact rfl) | refine Wl.assign rfl rfl ?_ | (apply Wl.on;exact rfl;exact rfl;exact ka) | (apply Wl.pickT;exact rfl;exact rfl;exact ka;exact rfl) | (apply Wl.eqlIs;exact rfl;exact rfl;exact rfl;exact kv) | apply Wl.nil | apply St.ret | apply Gt.next | (apply Gt.out1;exact rfl;exact rfl;intro w' hp)
 have zw2 := U2.size
 exact ⟨rfl,Hp.on1 hp U2 qa⟩
end Go.Proofs.YtabbklpalbikdaaGreatDoor
end
section
namespace Go.Pt
open Go.RowKit
theorem Wl.fieldVa2 {P : Program} {md : Md} {N : Nat} {ops : Array Oper} {rest : List Oper} {Γ : Env} {C : World → Prop} {Q : Exit → Act → World → Prop} {d : Nat} {ty : TypeId} {pos : String} {af : Array Edge} {x : Operand} {s i off ft n : Nat} [hf : Fld P s i off ft] [TyA P ft n] {cs xs : List Value} (hd : Nat.blt d N = true) (hx : ev Γ x = some (.agg cs.toArray)) (hv : LSub cs off n xs) (h : Wl rest P md ops N ((d,.agg xs.toArray) :: Γ) C Q) :
  Wl (⟨some d,.field s x i,ty,pos,af,none⟩ :: rest) P md ops N Γ C Q :=
 Wl.val hd (fun a w ha _ => by
  have h := hf.out
  unfold fieldB at h
  split at h <;> try cases h
  rename_i fs hfs
  cases e : fs[i]? with
  | none => rw [e] at h;cases h
  | some f =>
   rw [e] at h;simp at h
   obtain ⟨h1,h2,h3⟩ := h
   subst h1 h2
   obtain ⟨hv1,hv2⟩ := hv.out
   simp [execOp,ha.ev hx,Instr.field,run_underlying hfs,e,part,run_aggA (P := P) (t := f.type),run_sizeA (P := P) (t := f.type),asAgg]
   rw [← hv1]) h
theorem Wl.quoIs {P : Program} {md : Md} {N : Nat} {ops : Array Oper} {rest : List Oper} {Γ : Env} {C : World → Prop} {Q : Exit → Act → World → Prop} {d : Nat} {ty t u : TypeId} {pos : String} {af : Array Edge} {x y : Operand} {k : IntKind} {m n : Int} (z : Int) (hd : Nat.blt d N = true) (hx : ev Γ x = some (.int k m)) (hy : ev Γ y = some (.int k n)) (hn : n ≠ 0) (hz : k.wrap (m.tdiv n) = z) (h : Wl rest P md ops N ((d,.int k z) :: Γ) C Q) : Wl (⟨some d,.binOp .quo t x y u,ty,pos,af,none⟩ :: rest) P md ops N Γ C Q := by
 subst hz
 exact Wl.quo hd hx hy hn h
theorem Wl.indexV2 {P : Program} {md : Md} {N : Nat} {ops : Array Oper} {rest : List Oper} {Γ : Env} {C : World → Prop} {Q : Exit → Act → World → Prop} {d : Nat} {ty : TypeId} {pos : String} {af : Array Edge} {t e n b1 : TypeId} [ht : TyD P t (.array n e)] [hs : TyS P e 1 b1] [hc : TyC P e] {x i : Operand} {q : IntKind} {jj : Int} (j : Nat) {xs : List Value} {v : Value} (hd : Nat.blt d N = true) (hx : ev Γ x = some (.agg xs.toArray)) (hi : ev Γ i = some (.int q jj)) (hjj : jj = (j : Int))
  (hj : xs[j]? = some v) (hn : j < n) (h : Wl rest P md ops N ((d,v) :: Γ) C Q) : Wl (⟨some d,.index t x i,ty,pos,af,none⟩ :: rest) P md ops N Γ C Q := by
 subst hjj
 exact Wl.val hd (fun a w ha _ => by
  have hj' : xs.toArray[j]? = some v := by simpa using hj
  simp [execOp,ha.ev hx,ha.ev hi,Instr.index,asIntOf,run_underlying ht.out,hn,run_size (P := P) (t := e),part,run_aggC (P := P) (t := e),hj',hj]) h
end Go.Pt
namespace Go.Proofs.YtabbklpalbikdaaGreatDoor
open Go.RowKit Go.Pt
def rndP (n r : Nat) (m : Nat → Nat) : PS := ⟨(List.range n).map fun j => ⟨0,0,pcRd j (m j),xRd (m j)⟩,((r % n : Nat) : Int),(begP (List.replicate n ldR)).D⟩
theorem rndP_0 (n : Nat) (hn : 1 ≤ n) : begP (List.replicate n ldR) = rndP n 0 fun _ => 0 := by
 unfold rndP begP
 simp only [List.length_replicate,Nat.zero_mod]
 congr 1
 refine List.map_congr_left fun j hj => ?_
 have hj' := List.mem_range.1 hj
 unfold staB
 have e : ldD (List.replicate n ldR) j = ldR := by unfold ldD;rw [List.getD_eq_getElem?_getD,List.getElem?_replicate,if_pos hj'];rfl
 rw [e]
 show (⟨0,0,biasI j,xz⟩ : Sta) = ⟨0,0,pcRd j 0,xRd 0⟩
 have e2 : pcRd j 0 = biasI j := by unfold pcRd;simp
 rw [e2]
 rfl
theorem rndP_at {n r j : Nat} {m : Nat → Nat} (h : j < n) : (rndP n r m).L[j]? = some ⟨0,0,pcRd j (m j),xRd (m j)⟩ := by simp [rndP,h]
theorem passF_all {L : List Sta} {t : Nat} (ht : t < L.length) (h : ∀ x ∈ L,x.s = 0) : passF L t = (((t + 1) % L.length : Nat) : Int) := by
 unfold passF
 rw [if_neg zd,Int.toNat_natCast]
 obtain ⟨f,hf⟩ : ∃ f,L.length = f + 1 := ⟨L.length - 1,by omega⟩
 have hm : (t + 1) % L.length < L.length := Nat.mod_lt _ zd
 rw [hf]
 unfold passG
 rw [← hf,List.getElem?_eq_getElem hm,if_pos (by rw [Option.map_some,h _ (List.getElem_mem hm)])]
theorem rndEnd {n r k : Nat} {m : Nat → Nat} (hn : 1 ≤ n) (T : List Rz) : endP (rndP n r m) (r % n) ⟨0,0,pcRd (r % n) (m (r % n)),xRd (m (r % n))⟩ ⟨xRd (m (r % n) + k),pcRd (r % n) (m (r % n) + k),(rndP n r m).D,1,0,T⟩ = rndP n (r + 1) fun j => if j = r % n then m j + k else m j := by
 have hr : r % n < n := Nat.mod_lt _ zd
 unfold endP
 rw [endS1]
 have e0 : (xRd (m (r % n) + k)).set 0 (.int .u32 0) = xRd (m (r % n) + k) := rfl
 rw [e0]
 have eL : (rndP n r m).L.set (r % n) ⟨0,0,pcRd (r % n) (m (r % n) + k),xRd (m (r % n) + k)⟩ = (rndP n (r + 1) fun j => if j = r % n then m j + k else m j).L := by
  refine List.ext_getElem? fun q => ?_
  rw [List.getElem?_set]
  by_cases hq : q < n
  ·rw [rndP_at hq,rndP_at hq]
   by_cases e : r % n = q
   ·rw [if_pos e,if_pos (by simp [rndP];exact hr),if_pos e.symm,← e]
   ·rw [if_neg e,if_neg (fun e' => e e'.symm)]
  ·rw [List.getElem?_eq_none (by simp [rndP];omega),List.getElem?_eq_none (by simp [rndP];omega),if_neg zd]
 rw [eL,passF_all (by simp [rndP];exact hr) (fun x hx => by
  obtain ⟨j,_,rfl⟩ := List.mem_map.1 hx
  rfl)]
 have hl : (rndP n (r + 1) fun j => if j = r % n then m j + k else m j).L.length = n := by simp [rndP]
 rw [hl]
 unfold rndP
 simp only
 rw [Nat.mod_add_mod]
theorem rndD_ok (n r : Nat) (m : Nat → Nat) : DOk (rndP n r m).D (rndP n r m).L.length := by
 have h := begP_ok (List.replicate n ldR)
 have e : (begP (List.replicate n ldR)).L.length = (rndP n r m).L.length := by simp [begP,rndP]
 rw [e] at h
 exact h
def madeC (m : Nat → Nat) : List Value := [.int .i64 (m 0 : Nat),.int .i64 (m 1 : Nat),.int .i64 (m 2 : Nat)]
theorem madeC_at (m : Nat → Nat) {q : Nat} (h : q < 3) : (madeC m)[q]? = some (.int .i64 (m q : Nat)) := by
 have : q = 0 ∨ q = 1 ∨ q = 2 := by omega
 rcases this with rfl | rfl | rfl <;> rfl
theorem madeC_set (m : Nat → Nat) {q : Nat} (h : q < 3) (k : Nat) : LSet (madeC m) q (.int .i64 ((m q : Nat) + (k : Nat) : Int)) (madeC fun j => if j = q then m j + k else m j) := by
 have : q = 0 ∨ q = 1 ∨ q = 2 := by omega
 rcases this with rfl | rfl | rfl
 ·exact .z
 ·exact .s .z
 ·exact .s (.s .z)
structure RndT where
 (r : Nat) (w3 : World) (m : Nat → Nat) (lv seen : Value) (tr : List Rz) (xs : List Value) (pc : Int) (cf : Nat)
structure RndI (w : World) (base : Nat) (I : Mi) (n : Nat) (pv ev : Value) (p : Nat) (rv : Value) (w3 : World) (r : Nat) (m : Nat → Nat) (lv seen : Value) (tr : List Rz) (xs : List Value) (pc : Int) (cf : Nat) : Prop where
 mon : MonS w3 base I ((rndP n r m).mv pv ev lv seen tr xs pc cf)
 env : EnvS w3 base n pv ev (begE (List.replicate n ldR))
 up : Upd (fun k => w.heap.size ≤ k) w w3
 ge : w.heap.size ≤ base ∧ base ≤ w3.heap.size
 pr : w3.heap[p]? = some (.cells #[.pointer (some ⟨I.m,0,none⟩),rv] 39 (0,0))
theorem RndI.upd {w w3 w4 : World} {base n p r cf : Nat} {I : Mi} {pv ev rv lv seen : Value} {m : Nat → Nat} {tr : List Rz} {xs : List Value} {pc : Int} {S : Nat → Prop} (k : RndI w base I n pv ev p rv w3 r m lv seen tr xs pc cf) (u : Upd S w3 w4) (hm : ∀ b,MonF I ((rndP n r m).mv pv ev lv seen tr xs pc cf) b → ¬ S b) (hs : ∀ b,S b → base ≤ b) (hp : ¬ S p) : RndI w base I n pv ev p rv w4 r m lv seen tr xs pc cf :=
 ⟨k.mon.upd u hm,k.env.upd (u.mono fun b _ h => hs b h),k.up.comp u fun b _ h => h.elim id fun h => Nat.le_trans k.ge.1 (hs b h),⟨k.ge.1,Nat.le_trans k.ge.2 u.size⟩,u.heap k.pr hp⟩
def ldRow (g : Nat → Nat) (n : Nat) : List Value := ((List.range n).map fun j => loadC (.slice (some ⟨g j,0,none⟩) 2 2) (.slice none 0 0) (.slice none 0 0) ldR).flatten
theorem ldRow_succ (g : Nat → Nat) (n : Nat) : ldRow g (n + 1) = ldRow g n ++ loadC (.slice (some ⟨g n,0,none⟩) 2 2) (.slice none 0 0) (.slice none 0 0) ldR := by simp [ldRow,List.range_succ]
theorem ldRow_congr (g g' : Nat → Nat) (n : Nat) (h : ∀ j,j < n → g j = g' j) : ldRow g n = ldRow g' n := by
 unfold ldRow
 refine congrArg List.flatten (List.map_congr_left fun j hj => ?_)
 rw [h j (List.mem_range.1 hj)]
theorem ldRow_at (g : Nat → Nat) {n j q : Nat} (hj : j < n) (hq : q < 4) : (ldRow g n)[j * 4 + q]? = (loadC (.slice (some ⟨g j,0,none⟩) 2 2) (.slice none 0 0) (.slice none 0 0) ldR)[q]? :=
 flat_get (k := 4) (fun x hx => by obtain ⟨j,_,rfl⟩ := List.mem_map.1 hx;rfl) (by simp [hj]) hq
theorem tmod3 (n : Int) : 0 ≤ (n.tmod 3 + 3).tmod 3 ∧ (n.tmod 3 + 3).tmod 3 < 3 ∧ -3 < n.tmod 3 ∧ n.tmod 3 < 3 := by
 have h1 := Int.tmod_lt_of_pos n (b := 3) zg
 have h2 := Int.lt_tmod_of_pos n (b := 3) zg
 exact ⟨Int.tmod_nonneg _ zd,Int.tmod_lt_of_pos _ zg,h2,h1⟩
set_option maxHeartbeats 16000000 in
theorem round26 (n0 : Int) (v : Value) (l : List Int) (w : World) (hv : Is .i64 w v l) (hl : ∀ x ∈ l,I64 x) (hn0 : I64 n0) (hT : tabOk w) :
  Calls Tryz.prog 3 #[.int .i64 n0,v] w fun e w' => e = .returned (.bool true) ∧ Upd (fun k => w.heap.size ≤ k) w w' := by
 obtain ⟨va,vc,rfl,hvl,hvm⟩ := hv.shape
 unfold maxLen at hvm
 obtain ⟨t1,t2,t3,t4⟩ := tmod3 n0
 obtain ⟨n,hn⟩ : ∃ n : Nat,(n0.tmod 3 + 3).tmod 3 + 1 = (n : Int) := ⟨((n0.tmod 3 + 3).tmod 3 + 1).toNat,by omega⟩
 have hn3 : 1 ≤ n ∧ n ≤ 3 := by omega
 refine enter (args := [_,_]) (Γ := [(0,_),(1,_)]) Tryz.func3 Tryz.ntmps3 rfl (of_decide_eq_true rfl) (.cons rfl (.cons rfl .nil)) ?_
 repeat' first | refine Wl.assign rfl rfl ?_ | apply Wl.nil | apply St.seq | apply St.region | apply Gt.next
 apply Wl.callC
 ·exact rfl
 ·repeat constructor
 intro wq hq
 refine (fit26 wq (hT.upd hq.upd fun y => y trivial)).mono ?_
 rintro e w1 ⟨rfl,u1⟩
 have U1 : Upd (fun k => w.heap.size ≤ k) w w1 := (hq.upd.mono fun _ _ y => (y trivial).elim).comp u1 fun k _ hs => hs.elim id fun h => Nat.le_trans hq.upd.size h
 refine ⟨_,_,rfl,Hp.start w1,?_⟩
 clear hq u1
 by_cases h60 : 60 < l.length
 ·have hd60 : decide ((l.length : Int) > 60) = true := decide_eq_true zd
  repeat' first | refine Wl.move rfl rfl ?_ | refine Wl.assign rfl rfl ?_ | refine Wl.not rfl rfl ?_ | refine Wl.gtr rfl rfl rfl ?_ | (refine Wl.addI rfl rfl rfl ?_ ?_;constructor <;> omega) | (apply Wl.rem;exact rfl;exact rfl;exact rfl;(first | decide | omega)) | refine Wl.len rfl rfl ?_ | apply Wl.nil | apply St.seq | apply St.region | (apply St.condT;exact rfl;exact ka) | (apply St.condF;exact rfl;exact ka) | apply St.ret | apply St.skip | apply Gt.next | apply Gt.thenRet | (apply Gt.out1;exact rfl;exact rfl;intro w' hp)
  exact ⟨rfl,Hp.on0 hp U1⟩
 have hd60 : decide ((l.length : Int) > 60) = false := decide_eq_false zd
 repeat' first | refine Wl.move rfl rfl ?_ | refine Wl.assign rfl rfl ?_ | refine Wl.not rfl rfl ?_ | refine Wl.gtr rfl rfl rfl ?_ | (refine Wl.addI rfl rfl rfl ?_ ?_;constructor <;> omega) | (apply Wl.rem;exact rfl;exact rfl;exact rfl;(first | decide | omega)) | refine Wl.len rfl rfl ?_ | apply Wl.nil | apply St.seq | apply St.block | apply St.region | (apply St.condF;exact rfl;exact ka) | apply St.skip | apply Gt.next
 rw [hn]
 refine St.loop (σ := Nat × World × Value × (Nat → Nat)) (fun τ => τ.1 ≤ n ∧ Upd (fun k => w.heap.size ≤ k) w τ.2.1 ∧ τ.2.1.ownsRow w.heap.size 30 4 τ.2.2.1 τ.1 (ldRow τ.2.2.2 τ.1) ∧ ∀ j,j < τ.1 → w.heap.size ≤ τ.2.2.2 j ∧ τ.2.1.heap[τ.2.2.2 j]? = some (.cells #[.int .u32 1311763,.int .u32 4292866159] 25 (0,0)))
  (fun τ => [(0,.int .i64 (n : Int)),(1,.slice va l.length vc),(5,τ.2.2.1),(22,.int .i64 (n : Int)),(23,.int .i64 (τ.1 : Int))]) (fun τ => Hp τ.2.1 []) (fun τ => n - τ.1) (0,w1,.slice none 0 0,fun _ => 0) ⟨Nat.zero_le _,U1,World.ownsRow_nil _ _ _ _,fun j hj => by cases hj⟩ kw (fun _ h => h) ?_
 rintro ⟨i,w0,v5,g⟩ ⟨hi,hu0,hv5,hg⟩
 simp only at hi hu0 hv5 hg ⊢
 have s0 := hu0.size
 by_cases hlt : i < n
 ·have hd : decide ((i : Int) < (n : Int)) = true := decide_eq_true zd
  repeat' first | refine Wl.move rfl rfl ?_ | refine Wl.lss rfl rfl rfl ?_ | (apply Wl.buildS;exact rfl;exact kj;exact kc) | (apply Wl.lit;exact rfl;exact kj;exact rfl;exact rfl;exact ki;intro c hc ho) | apply Wl.nil | apply St.seq | apply St.block | apply St.region | (apply St.condT;exact rfl;exact ka) | apply St.skip | apply Gt.next
  rename_i cg hcg ocg
  generalize c = c28 at *
  have hc28 : w0.heap.size ≤ c28 := by assumption
  apply Wl.appendT (base := w.heap.size) (n := i) (m := 1) (sz := 4) (e := 30) (xs := ldRow g i)
  ·exact rfl
  ·exact rfl
  ·exact rfl
  ·assumption
  ·exact rfl
  ·exact hv5
  ·exact fun k hk => ⟨fun e => by have := (hv5.ge k hk).2;simp only at e;omega,trivial⟩
  ·exact rfl
  ·exact rfl
  ·decide
  ·unfold maxLen;omega
  ·omega
  ·exact s0
  intro v' w2 ho2 u2 _ hoff2
  repeat' first | refine Wl.move rfl rfl ?_ | refine Wl.assign rfl rfl ?_ | (refine Wl.addI rfl rfl rfl ?_ ?_;constructor <;> omega) | apply Wl.nil | apply St.region | apply Gt.next | apply Gt.inNormal
  refine Gt.reb (H' := []) fun w3 h3 => ⟨trivial,trivial,?_⟩
  have key : ∀ j,¬ Off [⟨cg,[],0⟩] j → w0.heap.size ≤ j := fun j hn => Classical.byContradiction fun hc => hn ⟨fun e => by simp only at e;omega,trivial⟩
  have u23 : Upd (fun k => v5.ownBlock = some k ∨ w0.heap.size ≤ k) w0 w3 := u2.comp h3.upd fun j hj hs => hs.elim (fun hs => hs.imp id (key j)) fun h => .inr (key j h)
  refine Gt.round (i + 1,w3,v',fun j => if j = i then cg else g j) ⟨by simp only;omega,hu0.comp u23 fun j hj hs => hs.elim id fun h => h.elim (fun h => (hv5.ge j h).1) fun h => Nat.le_trans s0 h,?_,?_⟩ qa kw (fun _ h => h)
  ·simp only
   rw [ldRow_succ,if_pos rfl,ldRow_congr _ g i (fun j hj => if_neg zd)]
   exact ownsRow_upd ho2 h3.upd fun j hj y => y (hoff2 j hj).1
  ·intro j hj
   simp only at hj ⊢
   by_cases e : j = i
   ·rw [if_pos e]
    exact ⟨by omega,h3.own.at (.head _)⟩
   ·rw [if_neg e]
    obtain ⟨h1,h2⟩ := hg j zd
    refine ⟨h1,u23.heap h2 fun hs => hs.elim (fun hk => (hv5.heap hk).elim fun _ hb => hne hb h2 zg rfl) fun h => absurd (lt_of_block h2) (Nat.not_lt.2 h)⟩
 obtain rfl : i = n := by omega
 have hd : decide ((i : Int) < (i : Int)) = false := decide_eq_false zd
 clear hlt hi
 obtain ⟨g5,cap5,J5,rfl,hg5,hb5⟩ := hv5.blk zd
 repeat' first | refine Wl.move rfl rfl ?_ | refine Wl.lss rfl rfl rfl ?_ | apply Wl.nil | apply St.seq | apply St.region | (apply St.condF;exact rfl;exact ka) | apply St.exit | apply Gt.next | apply Gt.thenExit | apply Gt.inExit
 apply Wl.callC
 ·exact rfl
 ·repeat constructor
 intro wq hq
 have zq := hq.upd.size
 have hLd : LoadsF wq (some ⟨g5,0,none⟩) (List.replicate i ldR) := fun j x hx => by
  have hj : j < i := by have := (List.getElem?_eq_some_iff.1 hx).1;simpa using this
  rw [List.getElem?_replicate,if_pos hj] at hx
  cases hx
  refine ⟨g5,0,rfl,.slice (some ⟨g j,0,none⟩) 2 2,.slice none 0 0,.slice none 0 0,fun q v hq' => ?_,LoadV.two ⟨rfl,rfl,rfl⟩ rfl zg zg (hq.upd.heap (hg j hj).2 fun y => y trivial)⟩
  have hq4 : q < 4 := (List.getElem?_eq_some_iff.1 hq').1
  have h := ldRow_at g hj hq4
  rw [hq'] at h
  refine hq.upd.cell (cell_of hb5 ?_) fun y => y trivial
  rw [Nat.zero_add,List.getElem?_append_left (List.getElem?_eq_some_iff.1 h).1]
  exact h
 refine (begin26 (some ⟨g5,0,none⟩) i cap5 (List.replicate i ldR) wq (List.length_replicate ..) hn3 hLd (hT.upd (hu0.comp hq.upd (T := fun k => w.heap.size ≤ k) fun k _ hs => hs.elim id fun y => (y trivial).elim) (Nat.not_le.2 hT.lt))).mono ?_
 rintro e w2 ⟨p,base,I,pv,ev,cf,rv,rfl,hp2,hM2,hE2,hb2,hpg,u2⟩
 have U2 : Upd (fun k => w.heap.size ≤ k) w w2 := (hu0.comp hq.upd (T := fun k => w.heap.size ≤ k) fun k _ hs => hs.elim id fun y => (y trivial).elim).comp u2 fun k _ hs => hs.elim id fun h => by omega
 refine ⟨_,_,rfl,Hp.start w2,?_⟩
 clear hq u2 hLd hg hv5 hb5
 rw [rndP_0 i hn3.1] at hM2
 repeat' first | refine Wl.move rfl rfl ?_ | refine Wl.assign rfl rfl ?_ | refine Wl.len rfl rfl ?_ | (apply Wl.alloc;exact rfl;intro c hc ho) | apply Wl.nil | apply St.seq | apply St.block | apply St.region | apply Gt.next
 generalize c = c7 at *
 have hc7 : w2.heap.size ≤ c7 := by assumption
 have z2 := U2.size
 have lp2 := lt_of_block hp2
 refine St.reb (H' := [⟨c7,madeC (fun _ => 0),33⟩]) fun w3 h3 => ⟨⟨h3.own.at (.head _),trivial⟩,⟨trivial,trivial⟩,?_⟩
 have u3 : Upd (fun k => w2.heap.size ≤ k) w2 w3 := Hp.on1 h3 (Upd.refl _ _) hc7
 have I3 : RndI w base I i pv ev p rv w3 0 (fun _ => 0) (.slice none 0 0) (.slice none 0 0) [] xz 0 cf := RndI.upd (w3 := w2) ⟨hM2,hE2,U2,⟨by omega,hb2.2⟩,hp2⟩ u3 (fun b hb => Nat.not_le.2 (hM2.lt b hb).2) (fun b hb => by omega) zd
 refine St.loop (σ := RndT) (fun τ => τ.r ≤ l.length ∧ (∀ j,τ.m j ≤ 60 * τ.r) ∧ RndI w base I i pv ev p rv τ.w3 τ.r τ.m τ.lv τ.seen τ.tr τ.xs τ.pc τ.cf ∧ τ.w3.heap[c7]? = some (.cells (madeC τ.m).toArray 33 (0,0)))
  (fun τ => [(0,.int .i64 (i : Int)),(6,.pointer (some ⟨p,0,none⟩)),(7,.pointer (some ⟨c7,0,none⟩)),(33,.slice va l.length vc),(34,.int .i64 (l.length : Int)),(35,.int .i64 (τ.r : Int))]) (fun τ => Hp τ.w3 [⟨c7,madeC τ.m,33⟩]) (fun τ => l.length - τ.r) ⟨0,w3,fun _ => 0,.slice none 0 0,.slice none 0 0,[],xz,0,cf⟩ ⟨Nat.zero_le _,fun j => Nat.zero_le _,I3,h3.own.at (.head _)⟩ kw (fun _ h => h) ?_
 clear I3 h3 u3 hM2 hE2 hp2
 rintro ⟨r,w3,m,lv,seen,tr,xs,pc,cf3⟩ ⟨hr,hm,I3,h7⟩
 simp only at hr hm I3 h7 ⊢
 have hl7 := lt_of_block h7
 have o7 := I3.mon.offF h7 zg
 have np7 : p ≠ c7 := hne I3.pr h7 zg
 have lp3 := lt_of_block I3.pr
 have hbase7 : base ≤ c7 := by omega
 by_cases hrl : r < l.length
 ·have hdr : decide ((r : Int) < (l.length : Int)) = true := decide_eq_true zd
  obtain ⟨vb,vo,rfl,hvc⟩ := hv.cells (fun e => by rw [e] at hrl;simp at hrl)
  have hvk := hvc r hrl
  have hvb : vb < w.heap.size := cell_old hvk
  have hk1 : w3.cell? ⟨vb,vo + (r : Int).toNat,none⟩ = some (.int .i64 l[r]) := by rw [Int.toNat_natCast];exact I3.up.cell hvk (Nat.not_le.2 hvb)
  have hI64 : I64 l[r] := hl _ (List.getElem_mem hrl)
  obtain ⟨kn,hkn⟩ : ∃ kn : Nat,stepsN l[r] = (kn : Int) := ⟨(stepsN l[r]).toNat,by have := stepsN_rng l[r];omega⟩
  have hknr : 1 ≤ kn ∧ kn ≤ 60 := by have := stepsN_rng l[r];omega
  have hstep : ∀ wq : World,Calls Tryz.prog 17 #[.int .i64 l[r]] wq fun e w' => e = .returned (.int .i64 (kn : Int)) ∧ Hp wq [] w' := fun wq => by rw [← hkn];exact stepsX _ wq
  have hri : r % i < i := Nat.mod_lt _ zd
  have hmr : m (r % i) ≤ 3600 := by have := hm (r % i);omega
  obtain ⟨hf1,hf2⟩ := rndMem hn3.2 hri
  obtain ⟨T,hT1,hR⟩ := rndRun (i := r % i) (n := (rndP i r m).L.length) (begE (List.replicate i ldR)) zd (rndP i r m).D (by show loadX (loadF (List.replicate i ldR) (List.replicate i ldR).length) _ 4 = _;rw [List.length_replicate];exact hf1) (by show loadX (loadF (List.replicate i ldR) (List.replicate i ldR).length) _ 4 = _;rw [List.length_replicate];exact hf2) kn (m (r % i)) [] zd
  have hT2 : T.length = kn := by rw [hT1];simp
  have hRO : runO (begE (List.replicate i ldR)) (rndP i r m) (r % i) ⟨0,0,pcRd (r % i) (m (r % i)),xRd (m (r % i))⟩ kn = ⟨xRd (m (r % i) + kn),pcRd (r % i) (m (r % i) + kn),(rndP i r m).D,1,0,T⟩ := hR
  have hLn : (rndP i r m).L.length = i := by simp [rndP]
  have hDok := rndD_ok i r m
  have hrun : ∀ wq : World,MonS wq base I ((rndP i r m).mv pv ev lv seen tr xs pc cf3) → EnvS wq base i pv ev (begE (List.replicate i ldR)) → base ≤ wq.heap.size → Calls Tryz.prog 16 #[.pointer (some ⟨I.m,0,none⟩),.int .i64 (kn : Int)] wq fun e w' => e = .returned (.agg #[.int .i64 ((r % i : Nat) : Int),.int .i64 (kn : Int),.int .i64 1]) ∧ ∃ lv' seen' xs' pc' cf',MonS w' base I ((rndP i (r + 1) (fun j => if j = r % i then m j + kn else m j)).mv pv ev lv' seen' T xs' pc' cf') ∧ Upd (KF wq I ((rndP i r m).mv pv ev lv seen tr xs pc cf3)) wq w' := fun wq hm he hb => by
   refine (mRun base I (rndP i r m) pv ev lv seen tr xs pc cf3 (begE (List.replicate i ldR)) kn (r % i) ⟨0,0,pcRd (r % i) (m (r % i)),xRd (m (r % i))⟩ wq hm hb (by rw [hLn];exact he) hDok rfl (rndP_at hri) ⟨hknr.1,by omega⟩).mono ?_
   rw [hRO,rndEnd hn3.1]
   rintro e w' ⟨rfl,lv',seen',xs',pc',cf',h1,_,h3,_,_⟩
   refine ⟨?_,lv',seen',xs',pc',cf',h1,h3⟩
   unfold evV
   simp only [hT2]
  repeat' first | (apply Wl.loadO;exact rfl;exact rfl;exact zu;exact kr) | refine Wl.move rfl rfl ?_ | refine Wl.assign rfl rfl ?_ | (apply Wl.on;exact rfl;exact rfl;exact ka) | (apply Wl.off;exact rfl;exact rfl;exact rfl;exact kt) | refine Wl.offU rfl rfl rfl ?_ | refine Wl.extract rfl rfl rfl ?_ | refine Wl.nilCheck rfl rfl ?_ | (apply Wl.pickT;exact rfl;exact rfl;exact ka;exact rfl) | (apply Wl.pickF;exact rfl;exact rfl;exact ka;exact rfl) | refine Wl.not rfl rfl ?_ | refine Wl.fieldAddr0 rfl rfl ?_ | refine Wl.fieldAddrZ rfl rfl ?_ | refine Wl.fieldAddr rfl rfl ?_ | (apply Wl.loadH;exact rfl;exact rfl;exact ke;exact rfl) | (apply Wl.loadO;exact rfl;exact rfl;(assumption);(repeat (first | exact trivial | refine ⟨by first | assumption | omega,?_⟩))) | refine Wl.eqlPN rfl rfl rfl ?_ | refine Wl.neqPN rfl rfl rfl ?_ | refine Wl.eqlNN rfl rfl rfl ?_ | refine Wl.neqNN rfl rfl rfl ?_ | (apply Wl.eqlIs;exact rfl;exact rfl;exact rfl;exact kv) | (apply Wl.neqIs;exact rfl;exact rfl;exact rfl;exact kv) | refine Wl.eql rfl rfl rfl ?_ | refine Wl.neq rfl rfl rfl ?_ | refine Wl.lss rfl rfl rfl ?_ | refine Wl.leq rfl rfl rfl ?_ | refine Wl.gtr rfl rfl rfl ?_ | refine Wl.geq rfl rfl rfl ?_ | (refine Wl.addI rfl rfl rfl ?_ ?_;constructor <;> omega) | (refine Wl.subI rfl rfl rfl ?_ ?_;constructor <;> omega) | (refine Wl.mulI rfl rfl rfl ?_ ?_;constructor <;> omega) | (refine Wl.addU rfl rfl rfl ?_ ?_;constructor <;> omega) | refine Wl.add rfl rfl rfl ?_ | refine Wl.sub' rfl rfl rfl ?_ | refine Wl.mul rfl rfl rfl ?_ | (apply Wl.quo;exact rfl;exact rfl;exact rfl;(first | decide | omega)) | (apply Wl.rem;exact rfl;exact rfl;exact rfl;(first | decide | omega)) | refine Wl.and rfl rfl rfl ?_ | refine Wl.or rfl rfl rfl ?_ | refine Wl.xor rfl rfl rfl ?_ | refine Wl.andNot rfl rfl rfl ?_ | (refine Wl.shl rfl rfl rfl ?_ ?_;omega) | (refine Wl.shr rfl rfl rfl ?_ ?_;omega) | (apply Wl.eqlBs;exact rfl;exact rfl;exact rfl;exact kv) | (apply Wl.neqBs;exact rfl;exact rfl;exact rfl;exact kv) | refine Wl.eqlB rfl rfl rfl ?_ | refine Wl.neqB rfl rfl rfl ?_ | refine Wl.eqlSB rfl rfl rfl ?_ | refine Wl.neqSB rfl rfl rfl ?_ | refine Wl.eqlS rfl rfl rfl ?_ | refine Wl.neqS rfl rfl rfl ?_ | (refine Wl.convI64 rfl rfl ?_ ?_;constructor <;> omega) | (refine Wl.convU64 rfl rfl ?_ ?_;constructor <;> omega) | (refine Wl.convU32 rfl rfl ?_ ?_;constructor <;> omega) | (refine Wl.convU8 rfl rfl ?_ ?_;constructor <;> omega) | refine Wl.convI rfl rfl ?_ | refine Wl.neg rfl rfl ?_ | refine Wl.compl rfl rfl ?_ | refine Wl.len rfl rfl ?_ | refine Wl.lenS rfl rfl ?_ | (apply Wl.store;exact rfl;exact rfl;exact rfl;exact ke;exact kx) | (apply Wl.storeA;exact rfl;exact rfl;exact rfl;exact rfl;exact ke;exact kf) | (apply Wl.loadAH;exact rfl;exact rfl;exact ke;exact ke) | (apply Wl.buildS;exact rfl;exact kj;exact kc) | (apply Wl.buildA;exact rfl;exact kj;exact kc) | (apply Wl.lit;exact rfl;exact kj;exact rfl;exact rfl;exact ki;intro c hc ho) | (apply Wl.boxA;exact rfl;exact rfl;intro c hc ho) | (apply Wl.box1;exact rfl;exact rfl;exact rfl;intro c hc ho) | (apply Wl.alloc;exact rfl;intro c hc ho) | (apply Wl.slice0;exact rfl;exact rfl;(first | exact BoundIs.no | exact BoundIs.yes rfl zd);(first | exact BoundIs.no | exact BoundIs.yes rfl zd);(first | exact fun _ => rfl | exact fun h => nomatch h);omega;omega) | (apply Wl.sliceFull;exact rfl;exact rfl;(first | exact BoundIs.no | exact BoundIs.yes rfl zd);(first | exact BoundIs.no | exact BoundIs.yes rfl zd);(first | exact BoundIs.no | exact BoundIs.yes rfl zd);(first | exact fun _ => rfl | exact fun h => nomatch h);omega;omega;omega) | (refine Wl.indexAddr1 rfl rfl rfl ?_ ?_;constructor <;> omega) | (refine Wl.indexAddr rfl rfl rfl ?_ ?_;constructor <;> omega) | (refine Wl.indexArr rfl rfl rfl ?_ ?_;constructor <;> omega) | apply Wl.nil | apply Wl.nilQ | apply Wl.nilM | apply St.block | apply St.region | (apply St.draw;exact mixed;(kernel_rfl);exact (fun _ h => Hp.drew h)) | (apply St.condT;exact rfl;exact ka) | (apply St.condF;exact rfl;exact ka) | apply St.ret | apply St.skip | apply St.exit | apply Gt.next | apply Gt.thenRet | apply Gt.thenExit | apply Gt.inNormal | apply Gt.inRet | apply Gt.inExit | (apply Gt.inOther;exact rfl) | (apply Gt.out1;exact rfl;exact rfl;intro w' hp) | (apply Gt.out2;exact rfl;exact rfl;exact rfl;intro w' hp) | (apply Gt.out3;exact rfl;exact rfl;exact rfl;exact rfl;intro w' hp) | (apply Gt.out4;exact rfl;exact rfl;exact rfl;exact rfl;exact rfl;intro w' hp) | (apply Gt.out0;exact rfl;intro w' hp) | (apply Gt.out0n;exact rfl;intro w' hp) | (apply Wl.splitP;exact rfl;exact rfl;all_goals (intros;try (exfalso;omega))) | (apply Wl.splitB;exact rfl;exact rfl;all_goals intros) | (apply St.condP;exact rfl;all_goals (intros;try (exfalso;omega))) | (apply St.condB;exact rfl;all_goals intros)
  apply St.seq
  repeat' first | refine Wl.lss rfl rfl rfl ?_ | apply Wl.nil | apply St.region | apply Gt.next
  apply St.seq
  repeat' first | (apply St.condT;exact rfl;exact ka) | apply St.skip | apply Gt.next
  apply St.seq
  repeat' first | apply St.block
  apply St.seq
  repeat' first | (apply Wl.loadO;exact rfl;exact rfl;exact zu;exact kr) | refine Wl.move rfl rfl ?_ | refine Wl.assign rfl rfl ?_ | (refine Wl.indexAddr1 rfl rfl rfl ?_ ?_;constructor <;> omega) | apply Wl.nil | apply St.region | apply Gt.next
  refine St.cut (σ := World × Nat × Value × Value × List Value × Int × Nat) (fun τ => RndI w base I i pv ev p rv τ.1 (r + 1) (fun j => if j = r % i then m j + kn else m j) τ.2.2.1 τ.2.2.2.1 T τ.2.2.2.2.1 τ.2.2.2.2.2.1 τ.2.2.2.2.2.2 ∧ τ.1.heap[c7]? = some (.cells (madeC m).toArray 33 (0,0)) ∧ τ.1.heap[τ.2.1]? = some (.cells #[.int .i64 ((r % i : Nat) : Int),.int .i64 (kn : Int),.int .i64 1] 35 (0,0)) ∧ base ≤ τ.2.1)
   (fun τ => [(0,.int .i64 (i : Int)),(6,.pointer (some ⟨p,0,none⟩)),(7,.pointer (some ⟨c7,0,none⟩)),(33,.slice (some ⟨vb,vo,none⟩) l.length vc),(34,.int .i64 (l.length : Int)),(35,.int .i64 (r : Int)),(8,.int .i64 (r : Int)),(9,.int .i64 l[r]),(10,.pointer (some ⟨τ.2.1,0,none⟩))]) (fun τ => Hp τ.1 [⟨τ.2.1,[.int .i64 ((r % i : Nat) : Int),.int .i64 (kn : Int),.int .i64 1],35⟩,⟨c7,madeC m,33⟩]) ?_ ?_
  ·refine St.tree (fun w' => w'.heap[p]? = some (.cells #[.pointer (some ⟨I.m,0,none⟩),rv] 39 (0,0))) mixed (fun _ h' => ⟨Hp.drew h',(Hp.drew h').upd.heap I3.pr fun y => y ⟨fun e => np7 e.symm,trivial⟩⟩) ?_
   refine Mt.pu 0 ?_
   repeat' first | refine Wl.move rfl rfl ?_ | apply Wl.nilM
   apply Mt.back
   refine Mt.pu 4 ?_
   repeat' first | refine Wl.move rfl rfl ?_ | apply Wl.nilM
   apply Mt.back
   refine Mt.pu 1 ?_
   repeat' first | refine Wl.nilCheck rfl rfl ?_ | apply Wl.nilM
   apply Mt.back
   refine Mt.pu 2 ?_
   repeat' first | refine Wl.fieldAddr0 rfl rfl ?_ | apply Wl.nilM
   apply Mt.back
   refine Mt.pu 3 ?_
   repeat' first | (apply Wl.loadF;exact rfl;exact rfl;(intro w' h';exact cell_of h' rfl)) | apply Wl.nilM
   apply Mt.back
   refine Mt.eff2 (i := 5) (j := 7) kg kz kz ?_ ?_
   ·apply Wl.callQ
    ·exact rfl
    ·repeat constructor
    ·intro wq hq
     exact hq.q (hstep wq)
    repeat' first | apply Wl.nil
    refine Mt.backE (fun w' h' => by first | exact h'.upd.heap I3.pr (fun y => y ⟨fun e => np7 e.symm,trivial⟩) | exact h'.upd.heap I3.pr (fun y => y ⟨fun e => by simp only at e;omega,fun e => np7 e.symm,trivial⟩) | exact h'.upd.heap I4.pr (fun y => y ⟨fun e => np7 e.symm,trivial⟩) | exact h'.upd.heap I4.pr (fun y => y ⟨fun e => by have := lt_of_block I4.pr;simp only at e;omega,fun e => np7 e.symm,trivial⟩)) ?_
    refine Mt.eff2 (i := 6) (j := 7) kg kz kz ?_ ?_
    ·apply Wl.callC
     ·exact rfl
     ·repeat constructor
     intro wq hq
     have zq := hq.upd.size
     have uq : Upd (fun b => b = c7) w3 wq := Hp.on1 hq (Upd.refl _ _) rfl
     have Iq := I3.upd uq (fun b hb hs => o7 b hb hs) (fun b hb => by omega) zd
     have h7q := hq.own.at (.head _)
     have o7q := Iq.mon.offF (b := c7) (t := 33) h7q zg
     have hlc7 := hq.own.lt (.head _)
     simp only at hlc7
     have opq := Iq.mon.offF Iq.pr zg
     have lpq := lt_of_block Iq.pr
     refine (hrun wq Iq.mon Iq.env Iq.ge.2).mono ?_
     rintro e w4 ⟨rfl,lv',seen',xs',pc',cf',hM4,u4⟩
     have I4 : RndI w base I i pv ev p rv w4 (r + 1) (fun j => if j = r % i then m j + kn else m j) lv' seen' T xs' pc' cf' := ⟨hM4,Iq.env.upd (u4.mono fun b _ h => h.elim (fun h => (Iq.mon.lt b h).1) fun h => by have := Iq.ge.2;omega),Iq.up.comp u4 fun b _ h => h.elim id fun h => h.elim (fun h => by have := (Iq.mon.lt b h).1;have := Iq.ge.1;omega) fun h => by have := Iq.ge;omega,⟨Iq.ge.1,Nat.le_trans Iq.ge.2 u4.size⟩,u4.heap Iq.pr fun h => h.elim (fun h => opq p h rfl) fun h => by omega⟩
     have hq4 := Hp.restD hq u4 (by simp only [List.mem_cons,List.not_mem_nil,or_false,forall_eq_or_imp,forall_eq];exact fun h => h.elim (fun h => o7q _ h rfl) (fun h => by omega))
     have z4 := u4.size
     have np74 : p ≠ c7 := np7
     refine ⟨_,_,rfl,hq4,?_⟩
     repeat' first | apply Wl.nil
     refine Mt.backE (fun w' h' => by first | exact h'.upd.heap I3.pr (fun y => y ⟨fun e => np7 e.symm,trivial⟩) | exact h'.upd.heap I3.pr (fun y => y ⟨fun e => by simp only at e;omega,fun e => np7 e.symm,trivial⟩) | exact h'.upd.heap I4.pr (fun y => y ⟨fun e => np7 e.symm,trivial⟩) | exact h'.upd.heap I4.pr (fun y => y ⟨fun e => by have := lt_of_block I4.pr;simp only at e;omega,fun e => np7 e.symm,trivial⟩)) ?_
     refine Mt.eff1 (i := 7) kg kz ?_
     repeat' first | (apply Wl.alloc;exact rfl;intro c hc ho) | apply Wl.nil
     generalize c = c10 at *
     have hc10 : w4.heap.size ≤ c10 := by assumption
     refine Mt.backE (fun w' h' => by first | exact h'.upd.heap I3.pr (fun y => y ⟨fun e => np7 e.symm,trivial⟩) | exact h'.upd.heap I3.pr (fun y => y ⟨fun e => by simp only at e;omega,fun e => np7 e.symm,trivial⟩) | exact h'.upd.heap I4.pr (fun y => y ⟨fun e => np7 e.symm,trivial⟩) | exact h'.upd.heap I4.pr (fun y => y ⟨fun e => by have := lt_of_block I4.pr;simp only at e;omega,fun e => np7 e.symm,trivial⟩)) ?_
     refine Mt.eff1 (i := 8) kg kz ?_
     apply Wl.storeA (xs := [.int .i64 ((r % i : Nat) : Int),.int .i64 (kn : Int),.int .i64 1])
     ·exact rfl
     ·exact rfl
     ·exact rfl
     ·exact rfl
     ·repeat constructor
     ·exact .z (LOver.whole rfl)
     repeat' first | apply Wl.nil
     refine Mt.backE (fun w' h' => by first | exact h'.upd.heap I3.pr (fun y => y ⟨fun e => np7 e.symm,trivial⟩) | exact h'.upd.heap I3.pr (fun y => y ⟨fun e => by simp only at e;omega,fun e => np7 e.symm,trivial⟩) | exact h'.upd.heap I4.pr (fun y => y ⟨fun e => np7 e.symm,trivial⟩) | exact h'.upd.heap I4.pr (fun y => y ⟨fun e => by have := lt_of_block I4.pr;simp only at e;omega,fun e => np7 e.symm,trivial⟩)) ?_
     refine Mt.toGt kg ?_
     refine Gt.reb (H' := [⟨c10,[.int .i64 ((r % i : Nat) : Int),.int .i64 (kn : Int),.int .i64 1],35⟩,⟨c7,madeC m,33⟩]) fun w5 h5 => ⟨⟨h5.own.at (.head _),h5.own.at (.tail _ (.head _)),trivial⟩,⟨⟨fun e => by simp only at e;omega,trivial⟩,trivial,trivial⟩,?_⟩
     have o74 := I4.mon.offF (b := c7) (t := 33) (hq4.own.at (.head _)) zg
     apply Gt.meet (w5,c10,lv',seen',xs',pc',cf')
     ·exact ⟨I4.upd (S := fun b => b = c10 ∨ b = c7) (Hp.on2 h5 (Upd.refl _ _) (.inl rfl) (.inr rfl)) (fun b hb hs => hs.elim (fun e => by have := (I4.mon.lt b hb).2;omega) (o74 b hb)) (fun b hb => by have := I3.ge.2;omega) (by have := lt_of_block I4.pr;omega),h5.own.at (.tail _ (.head _)),h5.own.at (.head _),by have := I3.ge.2;have := I4.ge.2;simp only;omega⟩
     ·repeat constructor
     ·exact fun _ h => h
    ·repeat' first | (apply Wl.alloc;exact rfl;intro c hc ho) | apply Wl.nil
     generalize c = c10 at *
     have hc10 : w3.heap.size ≤ c10 := by assumption
     refine Mt.backE (fun w' h' => by first | exact h'.upd.heap I3.pr (fun y => y ⟨fun e => np7 e.symm,trivial⟩) | exact h'.upd.heap I3.pr (fun y => y ⟨fun e => by simp only at e;omega,fun e => np7 e.symm,trivial⟩) | exact h'.upd.heap I4.pr (fun y => y ⟨fun e => np7 e.symm,trivial⟩) | exact h'.upd.heap I4.pr (fun y => y ⟨fun e => by have := lt_of_block I4.pr;simp only at e;omega,fun e => np7 e.symm,trivial⟩)) ?_
     refine Mt.eff1 (i := 6) kg kz ?_
     apply Wl.callC
     ·exact rfl
     ·repeat constructor
     intro wq hq
     have zq := hq.upd.size
     have uq : Upd (fun b => b = c10 ∨ b = c7) w3 wq := Hp.on2 hq (Upd.refl _ _) (.inl rfl) (.inr rfl)
     have Iq := I3.upd uq (fun b hb hs => hs.elim (fun e => by have := (I3.mon.lt b hb).2;omega) (o7 b hb)) (fun b hb => by omega) zd
     have h7q := hq.own.at (.tail _ (.head _))
     have o7q := Iq.mon.offF (b := c7) (t := 33) h7q zg
     have h10q := hq.own.at (.head _)
     have o10q := Iq.mon.offF (b := c10) (t := 35) h10q zg
     have hlc10 := hq.own.lt (.head _)
     simp only at hlc10
     have hlc7 := hq.own.lt (.tail _ (.head _))
     simp only at hlc7
     have opq := Iq.mon.offF Iq.pr zg
     have lpq := lt_of_block Iq.pr
     refine (hrun wq Iq.mon Iq.env Iq.ge.2).mono ?_
     rintro e w4 ⟨rfl,lv',seen',xs',pc',cf',hM4,u4⟩
     have I4 : RndI w base I i pv ev p rv w4 (r + 1) (fun j => if j = r % i then m j + kn else m j) lv' seen' T xs' pc' cf' := ⟨hM4,Iq.env.upd (u4.mono fun b _ h => h.elim (fun h => (Iq.mon.lt b h).1) fun h => by have := Iq.ge.2;omega),Iq.up.comp u4 fun b _ h => h.elim id fun h => h.elim (fun h => by have := (Iq.mon.lt b h).1;have := Iq.ge.1;omega) fun h => by have := Iq.ge;omega,⟨Iq.ge.1,Nat.le_trans Iq.ge.2 u4.size⟩,u4.heap Iq.pr fun h => h.elim (fun h => opq p h rfl) fun h => by omega⟩
     have hq4 := Hp.restD hq u4 (by simp only [List.mem_cons,List.not_mem_nil,or_false,forall_eq_or_imp,forall_eq];exact ⟨fun h => h.elim (fun h => o10q _ h rfl) (fun h => by omega),fun h => h.elim (fun h => o7q _ h rfl) (fun h => by omega)⟩)
     have z4 := u4.size
     have np74 : p ≠ c7 := np7
     refine ⟨_,_,rfl,hq4,?_⟩
     repeat' first | apply Wl.nil
     refine Mt.backE (fun w' h' => by first | exact h'.upd.heap I3.pr (fun y => y ⟨fun e => np7 e.symm,trivial⟩) | exact h'.upd.heap I3.pr (fun y => y ⟨fun e => by simp only at e;omega,fun e => np7 e.symm,trivial⟩) | exact h'.upd.heap I4.pr (fun y => y ⟨fun e => np7 e.symm,trivial⟩) | exact h'.upd.heap I4.pr (fun y => y ⟨fun e => by have := lt_of_block I4.pr;simp only at e;omega,fun e => np7 e.symm,trivial⟩)) ?_
     refine Mt.eff1 (i := 8) kg kz ?_
     apply Wl.storeA (xs := [.int .i64 ((r % i : Nat) : Int),.int .i64 (kn : Int),.int .i64 1])
     ·exact rfl
     ·exact rfl
     ·exact rfl
     ·exact rfl
     ·repeat constructor
     ·exact .z (LOver.whole rfl)
     repeat' first | apply Wl.nil
     refine Mt.backE (fun w' h' => by first | exact h'.upd.heap I3.pr (fun y => y ⟨fun e => np7 e.symm,trivial⟩) | exact h'.upd.heap I3.pr (fun y => y ⟨fun e => by simp only at e;omega,fun e => np7 e.symm,trivial⟩) | exact h'.upd.heap I4.pr (fun y => y ⟨fun e => np7 e.symm,trivial⟩) | exact h'.upd.heap I4.pr (fun y => y ⟨fun e => by have := lt_of_block I4.pr;simp only at e;omega,fun e => np7 e.symm,trivial⟩)) ?_
     refine Mt.toGt kg ?_
     refine Gt.reb (H' := [⟨c10,[.int .i64 ((r % i : Nat) : Int),.int .i64 (kn : Int),.int .i64 1],35⟩,⟨c7,madeC m,33⟩]) fun w5 h5 => ⟨⟨h5.own.at (.head _),h5.own.at (.tail _ (.head _)),trivial⟩,⟨⟨fun e => by simp only at e;omega,trivial⟩,trivial,trivial⟩,?_⟩
     have o74 := I4.mon.offF (b := c7) (t := 33) (hq4.own.at (.tail _ (.head _))) zg
     apply Gt.meet (w5,c10,lv',seen',xs',pc',cf')
     ·exact ⟨I4.upd (S := fun b => b = c10 ∨ b = c7) (Hp.on2 h5 (Upd.refl _ _) (.inl rfl) (.inr rfl)) (fun b hb hs => hs.elim (fun e => by have h10 := I4.mon.offF (b := c10) (t := 35) (hq4.own.at (.head _)) zg;exact h10 b hb e) (o74 b hb)) (fun b hb => by have := I3.ge.2;omega) (by have := lt_of_block I4.pr;(have : p < w3.heap.size := lp3;omega)),h5.own.at (.tail _ (.head _)),h5.own.at (.head _),by have := I3.ge.2;have := I4.ge.2;simp only;omega⟩
     ·repeat constructor
     ·exact fun _ h => h
   ·repeat' first | (apply Wl.alloc;exact rfl;intro c hc ho) | apply Wl.nil
    generalize c = c10 at *
    have hc10 : w3.heap.size ≤ c10 := by assumption
    refine Mt.backE (fun w' h' => by first | exact h'.upd.heap I3.pr (fun y => y ⟨fun e => np7 e.symm,trivial⟩) | exact h'.upd.heap I3.pr (fun y => y ⟨fun e => by simp only at e;omega,fun e => np7 e.symm,trivial⟩) | exact h'.upd.heap I4.pr (fun y => y ⟨fun e => np7 e.symm,trivial⟩) | exact h'.upd.heap I4.pr (fun y => y ⟨fun e => by have := lt_of_block I4.pr;simp only at e;omega,fun e => np7 e.symm,trivial⟩)) ?_
    refine Mt.eff1 (i := 5) kg kz ?_
    apply Wl.callQ
    ·exact rfl
    ·repeat constructor
    ·intro wq hq
     exact hq.q (hstep wq)
    repeat' first | apply Wl.nil
    refine Mt.backE (fun w' h' => by first | exact h'.upd.heap I3.pr (fun y => y ⟨fun e => np7 e.symm,trivial⟩) | exact h'.upd.heap I3.pr (fun y => y ⟨fun e => by simp only at e;omega,fun e => np7 e.symm,trivial⟩) | exact h'.upd.heap I4.pr (fun y => y ⟨fun e => np7 e.symm,trivial⟩) | exact h'.upd.heap I4.pr (fun y => y ⟨fun e => by have := lt_of_block I4.pr;simp only at e;omega,fun e => np7 e.symm,trivial⟩)) ?_
    refine Mt.eff1 (i := 6) kg kz ?_
    apply Wl.callC
    ·exact rfl
    ·repeat constructor
    intro wq hq
    have zq := hq.upd.size
    have uq : Upd (fun b => b = c10 ∨ b = c7) w3 wq := Hp.on2 hq (Upd.refl _ _) (.inl rfl) (.inr rfl)
    have Iq := I3.upd uq (fun b hb hs => hs.elim (fun e => by have := (I3.mon.lt b hb).2;omega) (o7 b hb)) (fun b hb => by omega) zd
    have h7q := hq.own.at (.tail _ (.head _))
    have o7q := Iq.mon.offF (b := c7) (t := 33) h7q zg
    have h10q := hq.own.at (.head _)
    have o10q := Iq.mon.offF (b := c10) (t := 35) h10q zg
    have hlc10 := hq.own.lt (.head _)
    simp only at hlc10
    have hlc7 := hq.own.lt (.tail _ (.head _))
    simp only at hlc7
    have opq := Iq.mon.offF Iq.pr zg
    have lpq := lt_of_block Iq.pr
    refine (hrun wq Iq.mon Iq.env Iq.ge.2).mono ?_
    rintro e w4 ⟨rfl,lv',seen',xs',pc',cf',hM4,u4⟩
    have I4 : RndI w base I i pv ev p rv w4 (r + 1) (fun j => if j = r % i then m j + kn else m j) lv' seen' T xs' pc' cf' := ⟨hM4,Iq.env.upd (u4.mono fun b _ h => h.elim (fun h => (Iq.mon.lt b h).1) fun h => by have := Iq.ge.2;omega),Iq.up.comp u4 fun b _ h => h.elim id fun h => h.elim (fun h => by have := (Iq.mon.lt b h).1;have := Iq.ge.1;omega) fun h => by have := Iq.ge;omega,⟨Iq.ge.1,Nat.le_trans Iq.ge.2 u4.size⟩,u4.heap Iq.pr fun h => h.elim (fun h => opq p h rfl) fun h => by omega⟩
    have hq4 := Hp.restD hq u4 (by simp only [List.mem_cons,List.not_mem_nil,or_false,forall_eq_or_imp,forall_eq];exact ⟨fun h => h.elim (fun h => o10q _ h rfl) (fun h => by omega),fun h => h.elim (fun h => o7q _ h rfl) (fun h => by omega)⟩)
    have z4 := u4.size
    have np74 : p ≠ c7 := np7
    refine ⟨_,_,rfl,hq4,?_⟩
    repeat' first | apply Wl.nil
    refine Mt.backE (fun w' h' => by first | exact h'.upd.heap I3.pr (fun y => y ⟨fun e => np7 e.symm,trivial⟩) | exact h'.upd.heap I3.pr (fun y => y ⟨fun e => by simp only at e;omega,fun e => np7 e.symm,trivial⟩) | exact h'.upd.heap I4.pr (fun y => y ⟨fun e => np7 e.symm,trivial⟩) | exact h'.upd.heap I4.pr (fun y => y ⟨fun e => by have := lt_of_block I4.pr;simp only at e;omega,fun e => np7 e.symm,trivial⟩)) ?_
    refine Mt.eff1 (i := 8) kg kz ?_
    apply Wl.storeA (xs := [.int .i64 ((r % i : Nat) : Int),.int .i64 (kn : Int),.int .i64 1])
    ·exact rfl
    ·exact rfl
    ·exact rfl
    ·exact rfl
    ·repeat constructor
    ·exact .z (LOver.whole rfl)
    repeat' first | apply Wl.nil
    refine Mt.backE (fun w' h' => by first | exact h'.upd.heap I3.pr (fun y => y ⟨fun e => np7 e.symm,trivial⟩) | exact h'.upd.heap I3.pr (fun y => y ⟨fun e => by simp only at e;omega,fun e => np7 e.symm,trivial⟩) | exact h'.upd.heap I4.pr (fun y => y ⟨fun e => np7 e.symm,trivial⟩) | exact h'.upd.heap I4.pr (fun y => y ⟨fun e => by have := lt_of_block I4.pr;simp only at e;omega,fun e => np7 e.symm,trivial⟩)) ?_
    refine Mt.toGt kg ?_
    refine Gt.reb (H' := [⟨c10,[.int .i64 ((r % i : Nat) : Int),.int .i64 (kn : Int),.int .i64 1],35⟩,⟨c7,madeC m,33⟩]) fun w5 h5 => ⟨⟨h5.own.at (.head _),h5.own.at (.tail _ (.head _)),trivial⟩,⟨⟨fun e => by simp only at e;omega,trivial⟩,trivial,trivial⟩,?_⟩
    have o74 := I4.mon.offF (b := c7) (t := 33) (hq4.own.at (.tail _ (.head _))) zg
    apply Gt.meet (w5,c10,lv',seen',xs',pc',cf')
    ·exact ⟨I4.upd (S := fun b => b = c10 ∨ b = c7) (Hp.on2 h5 (Upd.refl _ _) (.inl rfl) (.inr rfl)) (fun b hb hs => hs.elim (fun e => by have h10 := I4.mon.offF (b := c10) (t := 35) (hq4.own.at (.head _)) zg;exact h10 b hb e) (o74 b hb)) (fun b hb => by have := I3.ge.2;omega) (by have := lt_of_block I4.pr;(have : p < w3.heap.size := lp3;omega)),h5.own.at (.tail _ (.head _)),h5.own.at (.head _),by have := I3.ge.2;have := I4.ge.2;simp only;omega⟩
    ·repeat constructor
    ·exact fun _ h => h
  rintro ⟨w4,c10,lv4,seen4,xs4,pc4',cf4⟩ ⟨I4,h74,h104,hb10⟩
  simp only at I4 h74 h104 hb10 ⊢
  have o74 := I4.mon.offF h74 zg
  have o104 := I4.mon.offF h104 zg
  have n710 : c7 ≠ c10 := hne h74 h104 zg
  have np4 : p ≠ c7 := np7
  have np10 : p ≠ c10 := hne I4.pr h104 zg
  have hrem : (r : Int).tmod (i : Int) = ((r % i : Nat) : Int) := by rw [Int.tmod_eq_emod_of_nonneg zd];exact (Int.natCast_emod r i).symm
  have hmc : (madeC m)[0 + ((r % i : Nat) : Int).toNat * 1]? = some (.int .i64 (m (r % i) : Nat)) := by rw [Int.toNat_natCast,Nat.mul_one,Nat.zero_add];exact madeC_at m zd
  have hms : LSet (madeC m) (0 + ((r % i : Nat) : Int).toNat * 1) (.int .i64 ((m (r % i) : Nat) + (kn : Nat) : Int)) (madeC (fun j => if j = r % i then m j + kn else m j)) := by rw [Int.toNat_natCast,Nat.mul_one,Nat.zero_add];exact madeC_set m zd kn
  have hri3 : ((r % i : Nat) : Int) < 3 := by omega
  refine St.cut (σ := World) (fun τ => Upd (fun b => b = c10 ∨ b = c7) w4 τ ∧ τ.heap[c7]? = some (.cells (madeC (fun j => if j = r % i then m j + kn else m j)).toArray 33 (0,0)) ∧ τ.heap[c10]? = some (.cells #[.int .i64 ((r % i : Nat) : Int),.int .i64 (kn : Int),.int .i64 1] 35 (0,0)))
   (fun _ => [(0,.int .i64 (i : Int)),(6,.pointer (some ⟨p,0,none⟩)),(7,.pointer (some ⟨c7,0,none⟩)),(33,.slice (some ⟨vb,vo,none⟩) l.length vc),(34,.int .i64 (l.length : Int)),(35,.int .i64 (r : Int)),(8,.int .i64 (r : Int)),(9,.int .i64 l[r]),(10,.pointer (some ⟨c10,0,none⟩))]) (fun τ => Hp τ [⟨c10,[.int .i64 ((r % i : Nat) : Int),.int .i64 (kn : Int),.int .i64 1],35⟩,⟨c7,madeC (fun j => if j = r % i then m j + kn else m j),33⟩]) ?_ ?_
  ·refine St.tree (fun _ => True) mixed (fun _ h' => ⟨Hp.drew h',trivial⟩) ?_
   refine Mt.pu 0 ?_
   repeat' first | refine Wl.move rfl rfl ?_ | apply Wl.nilM
   apply Mt.back
   refine Mt.pu 1 ?_
   repeat' first | refine Wl.move rfl rfl ?_ | apply Wl.nilM
   apply Mt.back
   refine Mt.pu 5 ?_
   repeat' first | refine Wl.move rfl rfl ?_ | apply Wl.nilM
   apply Mt.back
   refine Mt.pu 2 ?_
   repeat' first | (apply Wl.remIs (z := ((r % i : Nat) : Int));exact rfl;exact rfl;exact rfl;omega;exact hrem) | apply Wl.nilM
   apply Mt.back
   refine Mt.pu 3 ?_
   repeat' first | (refine Wl.indexArr rfl rfl rfl ?_ ?_;constructor <;> omega) | apply Wl.nilM
   apply Mt.back
   refine Mt.eff2 (i := 4) (j := 6) kg kz kz ?_ ?_
   ·apply Wl.loadH
    ·exact rfl
    ·exact rfl
    ·repeat constructor
    ·exact hmc
    repeat' first | apply Wl.nil
    refine Mt.backE (fun _ _ => trivial) ?_
    refine Mt.eff1 (i := 6) kg kz ?_
    apply Wl.callQ
    ·exact rfl
    ·repeat constructor
    ·intro wq hq
     exact hq.q (hstep wq)
    repeat' first | apply Wl.nil
    refine Mt.backE (fun _ _ => trivial) ?_
    refine Mt.pu 7 ?_
    repeat' first | (refine Wl.addI rfl rfl rfl ?_ ?_;constructor <;> omega) | apply Wl.nilM
    apply Mt.back
    refine Mt.pu 8 ?_
    repeat' first | (refine Wl.indexArr rfl rfl rfl ?_ ?_;constructor <;> omega) | apply Wl.nilM
    apply Mt.back
    refine Mt.eff1 (i := 9) kg kz ?_
    apply Wl.store
    ·exact rfl
    ·exact rfl
    ·exact rfl
    ·repeat constructor
    ·exact hms
    repeat' first | apply Wl.nil
    refine Mt.backE (fun _ _ => trivial) ?_
    refine Mt.toGt kg ?_
    refine Gt.reb (H' := [⟨c10,[.int .i64 ((r % i : Nat) : Int),.int .i64 (kn : Int),.int .i64 1],35⟩,⟨c7,madeC (fun j => if j = r % i then m j + kn else m j),33⟩]) fun w5 h5 => ⟨⟨h5.own.at (.head _),h5.own.at (.tail _ (.head _)),trivial⟩,⟨⟨n710,trivial⟩,trivial,trivial⟩,?_⟩
    apply Gt.meet w5
    ·exact ⟨Hp.on2 h5 (Upd.refl _ _) (.inl rfl) (.inr rfl),h5.own.at (.tail _ (.head _)),h5.own.at (.head _)⟩
    ·repeat constructor
    ·exact fun _ h => h
   ·apply Wl.callQ
    ·exact rfl
    ·repeat constructor
    ·intro wq hq
     exact hq.q (hstep wq)
    repeat' first | apply Wl.nil
    refine Mt.backE (fun _ _ => trivial) ?_
    refine Mt.eff1 (i := 4) kg kz ?_
    apply Wl.loadH
    ·exact rfl
    ·exact rfl
    ·repeat constructor
    ·exact hmc
    repeat' first | apply Wl.nil
    refine Mt.backE (fun _ _ => trivial) ?_
    refine Mt.pu 7 ?_
    repeat' first | (refine Wl.addI rfl rfl rfl ?_ ?_;constructor <;> omega) | apply Wl.nilM
    apply Mt.back
    refine Mt.pu 8 ?_
    repeat' first | (refine Wl.indexArr rfl rfl rfl ?_ ?_;constructor <;> omega) | apply Wl.nilM
    apply Mt.back
    refine Mt.eff1 (i := 9) kg kz ?_
    apply Wl.store
    ·exact rfl
    ·exact rfl
    ·exact rfl
    ·repeat constructor
    ·exact hms
    repeat' first | apply Wl.nil
    refine Mt.backE (fun _ _ => trivial) ?_
    refine Mt.toGt kg ?_
    refine Gt.reb (H' := [⟨c10,[.int .i64 ((r % i : Nat) : Int),.int .i64 (kn : Int),.int .i64 1],35⟩,⟨c7,madeC (fun j => if j = r % i then m j + kn else m j),33⟩]) fun w5 h5 => ⟨⟨h5.own.at (.head _),h5.own.at (.tail _ (.head _)),trivial⟩,⟨⟨n710,trivial⟩,trivial,trivial⟩,?_⟩
    apply Gt.meet w5
    ·exact ⟨Hp.on2 h5 (Upd.refl _ _) (.inl rfl) (.inr rfl),h5.own.at (.tail _ (.head _)),h5.own.at (.head _)⟩
    ·repeat constructor
    ·exact fun _ h => h
  rintro w5 ⟨u5,h75,h105⟩
  have I5 := I4.upd u5 (fun b hb hs => hs.elim (o104 b hb) (o74 b hb)) (fun b hb => by omega) (fun hs => hs.elim np10 np4)
  repeat' first | apply St.seq
  refine St.tree (fun w' => w'.heap[c10]? = some (.cells #[.int .i64 ((r % i : Nat) : Int),.int .i64 (kn : Int),.int .i64 1] 35 (0,0))) mixed (fun _ h' => ⟨Hp.drew h',(Hp.drew h').own.at (.head _)⟩) ?_
  refine Mt.pu 0 ?_
  repeat' first | refine Wl.fieldAddr0 rfl rfl ?_ | apply Wl.nilM
  apply Mt.back
  refine Mt.pu 2 ?_
  repeat' first | refine Wl.move rfl rfl ?_ | apply Wl.nilM
  apply Mt.back
  refine Mt.pu 3 ?_
  repeat' first | refine Wl.move rfl rfl ?_ | apply Wl.nilM
  apply Mt.back
  refine Mt.pu 1 ?_
  repeat' first | (apply Wl.loadF;exact rfl;exact rfl;(intro w' h';exact cell_of h' rfl)) | apply Wl.nilM
  apply Mt.back
  refine Mt.pu 4 ?_
  repeat' first | (apply Wl.remIs (z := ((r % i : Nat) : Int));exact rfl;exact rfl;exact rfl;omega;exact hrem) | apply Wl.nilM
  apply Mt.back
  refine Mt.pu 5 ?_
  repeat' first | (apply Wl.neqIs;exact rfl;exact rfl;exact rfl;exact kv) | apply Wl.nilM
  apply Mt.back
  refine Mt.pu 6 ?_
  repeat' first | refine Wl.move rfl rfl ?_ | apply Wl.nilM
  apply Mt.back
  refine Mt.pu 7 ?_
  repeat' first | (apply Wl.on;exact rfl;exact rfl;exact ka) | refine Wl.fieldAddrZ rfl rfl ?_ | apply Wl.nilM
  apply Mt.back
  refine Mt.pu 8 ?_
  repeat' first | (apply Wl.loadF;exact rfl;exact rfl;(intro w' h';exact cell_of h' rfl)) | (apply Wl.on;exact rfl;exact rfl;exact ka) | apply Wl.nilM
  apply Mt.back
  refine Mt.pu 9 ?_
  repeat' first | (apply Wl.on;exact rfl;exact rfl;exact ka) | (apply Wl.neqIs;exact rfl;exact rfl;exact rfl;exact kv) | apply Wl.nilM
  apply Mt.back
  refine Mt.pu 10 ?_
  repeat' first | (apply Wl.pickF;exact rfl;exact rfl;exact ka;exact rfl) | apply Wl.nilM
  apply Mt.back
  refine Mt.pu 11 ?_
  repeat' first | refine Wl.move rfl rfl ?_ | apply Wl.nilM
  apply Mt.back
  refine Mt.pu 12 ?_
  repeat' first | (apply Wl.on;exact rfl;exact rfl;exact ka) | refine Wl.fieldAddrZ rfl rfl ?_ | apply Wl.nilM
  apply Mt.back
  refine Mt.pu 14 ?_
  repeat' first | refine Wl.move rfl rfl ?_ | (apply Wl.on;exact rfl;exact rfl;exact ka) | apply Wl.nilM
  apply Mt.back
  refine Mt.pu 13 ?_
  repeat' first | (apply Wl.loadF;exact rfl;exact rfl;(intro w' h';exact cell_of h' rfl)) | (apply Wl.on;exact rfl;exact rfl;exact ka) | apply Wl.nilM
  apply Mt.back
  refine Mt.eff1 (i := 15) kg kz ?_
  apply Wl.on
  ·exact rfl
  ·exact rfl
  ·first | with_reducible rfl | with_reducible assumption | decide
  apply Wl.callQ
  ·exact rfl
  ·repeat constructor
  ·intro wq hq
   exact hq.q (hstep wq)
  repeat' first | apply Wl.nil
  refine Mt.backE (fun _ h' => h'.own.at (.head _)) ?_
  refine Mt.pu 16 ?_
  repeat' first | (apply Wl.on;exact rfl;exact rfl;exact ka) | (apply Wl.neqIs;exact rfl;exact rfl;exact rfl;exact kv) | apply Wl.nilM
  apply Mt.back
  refine Mt.pu 17 ?_
  repeat' first | (apply Wl.pickF;exact rfl;exact rfl;exact ka;exact rfl) | apply Wl.nilM
  apply Mt.back
  refine Mt.toGt kg ?_
  repeat' first | refine Wl.move rfl rfl ?_ | (refine Wl.addI rfl rfl rfl ?_ ?_;constructor <;> omega) | apply Wl.nil | apply St.region | (apply St.condF;exact rfl;exact ka) | apply St.skip | apply Gt.next | apply Gt.inNormal
  refine Gt.reb (H' := [⟨c7,madeC (fun j => if j = r % i then m j + kn else m j),33⟩]) fun w6 h6 => ⟨⟨h6.own.at (.tail _ (.head _)),trivial⟩,⟨trivial,trivial⟩,?_⟩
  have u6 : Upd (fun b => b = c10 ∨ b = c7) w5 w6 := Hp.on2 h6 (Upd.refl _ _) (.inl rfl) (.inr rfl)
  refine Gt.round ⟨r + 1,w6,(fun j => if j = r % i then m j + kn else m j),lv4,seen4,T,xs4,pc4',cf4⟩ ⟨by simp only;omega,fun j => ?_,I5.upd u6 (fun b hb hs => hs.elim (o104 b hb) (o74 b hb)) (fun b hb => by omega) (fun hs => hs.elim np10 np4),h6.own.at (.tail _ (.head _))⟩ qa kw (fun _ h => h)
  simp only
  have := hm j
  split <;> omega
 obtain rfl : r = l.length := by omega
 have hdr : decide ((l.length : Int) < (l.length : Int)) = false := decide_eq_false zd
 repeat' first | refine Wl.move rfl rfl ?_ | refine Wl.lss rfl rfl rfl ?_ | apply Wl.nil | apply St.seq | apply St.block | apply St.region | (apply St.condF;exact rfl;exact ka) | apply St.exit | apply Gt.next | apply Gt.thenExit | apply Gt.inExit
 refine St.loop (σ := Nat) (fun j => j ≤ i) (fun j => [(0,.int .i64 (i : Int)),(6,.pointer (some ⟨p,0,none⟩)),(7,.pointer (some ⟨c7,0,none⟩)),(75,.int .i64 (i : Int)),(76,.int .i64 (j : Int))]) (fun _ => Hp w3 [⟨c7,madeC m,33⟩]) (fun j => i - j) 0 (Nat.zero_le _) kw (fun _ h => h) ?_
 intro j hj
 by_cases hjl : j < i
 ·have hdj : decide ((j : Int) < (i : Int)) = true := decide_eq_true zd
  have hj3 : (j : Int) < 3 := by omega
  have hmj : m j ≤ 3600 := by have := hm j;omega
  have hmc : (madeC m)[0 + ((j : Nat) : Int).toNat * 1]? = some (.int .i64 (m j : Nat)) := by rw [Int.toNat_natCast,Nat.mul_one,Nat.zero_add];exact madeC_at m zd
  have hqz : IntKind.i64.wrap ((((m j : Nat) : Int) + 1).tdiv 2) = (((m j + 1) / 2 : Nat) : Int) := by rw [Int.tdiv_eq_ediv_of_nonneg zd,IntKind.wrap_i64];omega
  have hz32 : (((m j + 1) / 2 : Nat) : Int) < 4294967296 := by omega
  have hxr : (xRd (m j)).length = 32 := by unfold xRd;rw [List.length_set];rfl
  repeat' first | refine Wl.move rfl rfl ?_ | refine Wl.assign rfl rfl ?_ | refine Wl.lss rfl rfl rfl ?_ | apply Wl.nil | apply St.seq | apply St.block | apply St.region | (apply St.condT;exact rfl;exact ka) | apply St.skip | apply Gt.next
  refine St.tree (fun w' => w'.heap[p]? = some (.cells #[.pointer (some ⟨I.m,0,none⟩),rv] 39 (0,0)) ∧ w'.heap[c7]? = some (.cells (madeC m).toArray 33 (0,0))) mixed (fun _ h' => ⟨Hp.drew h',(Hp.drew h').upd.heap I3.pr (fun y => y ⟨fun e => np7 e.symm,trivial⟩),(Hp.drew h').own.at (.head _)⟩) ?_
  refine Mt.pu 0 ?_
  repeat' first | refine Wl.move rfl rfl ?_ | apply Wl.nilM
  apply Mt.back
  refine Mt.pu 4 ?_
  repeat' first | refine Wl.move rfl rfl ?_ | apply Wl.nilM
  apply Mt.back
  refine Mt.pu 8 ?_
  repeat' first | refine Wl.move rfl rfl ?_ | apply Wl.nilM
  apply Mt.back
  refine Mt.pu 1 ?_
  repeat' first | refine Wl.nilCheck rfl rfl ?_ | apply Wl.nilM
  apply Mt.back
  refine Mt.pu 9 ?_
  repeat' first | (refine Wl.indexArr rfl rfl rfl ?_ ?_;constructor <;> omega) | apply Wl.nilM
  apply Mt.back
  refine Mt.pu 2 ?_
  repeat' first | refine Wl.fieldAddr0 rfl rfl ?_ | apply Wl.nilM
  apply Mt.back
  refine Mt.pu 10 ?_
  repeat' first | (apply Wl.loadF;exact rfl;exact rfl;(intro w' h';first | exact cell_of h'.1 rfl | exact cell_of h'.2 hmc)) | apply Wl.nilM
  apply Mt.back
  refine Mt.pu 3 ?_
  repeat' first | (apply Wl.loadF;exact rfl;exact rfl;(intro w' h';first | exact cell_of h'.1 rfl | exact cell_of h'.2 hmc)) | apply Wl.nilM
  apply Mt.back
  refine Mt.pu 11 ?_
  repeat' first | (refine Wl.addI rfl rfl rfl ?_ ?_;constructor <;> omega) | apply Wl.nilM
  apply Mt.back
  refine Mt.pu 12 ?_
  repeat' first | (apply Wl.quoIs (((m j + 1) / 2 : Nat) : Int);exact rfl;exact rfl;exact rfl;(decide);exact hqz) | apply Wl.nilM
  apply Mt.back
  refine Mt.pu 13 ?_
  repeat' first | (refine Wl.convU32 rfl rfl ?_ ?_;constructor <;> omega) | apply Wl.nilM
  apply Mt.back
  refine Mt.eff1 (i := 5) kg kz ?_
  apply Wl.callQ
  ·exact rfl
  ·repeat constructor
  ·intro wq hq
   exact hq.q (mStatus base I _ j ⟨0,0,pcRd j (m j),xRd (m j)⟩ wq (I3.mon.upd (S := fun b => b = c7) (Hp.on1 hq (Upd.refl _ _) rfl) o7) (rndP_at (r := l.length) hjl))
  repeat' first | apply Wl.nil
  refine Mt.backE (fun _ h' => ⟨h'.upd.heap I3.pr (fun y => y ⟨fun e => np7 e.symm,trivial⟩),h'.own.at (.head _)⟩) ?_
  refine Mt.pu 6 ?_
  repeat' first | (apply Wl.fieldVa2 (xs := xRd (m j));exact rfl;exact rfl;exact .s (.s (.s (LSub.whole' hxr)))) | apply Wl.nilM
  apply Mt.back
  refine Mt.pu 7 ?_
  repeat' first | (apply Wl.indexV2 8;exact rfl;exact rfl;exact rfl;exact rfl;exact xRd_at (m j);(decide)) | apply Wl.nilM
  apply Mt.back
  refine Mt.pu 14 ?_
  repeat' first | (apply Wl.neqIs;exact rfl;exact rfl;exact rfl;exact kv) | apply Wl.nilM
  apply Mt.back
  refine Mt.toGt kg ?_
  repeat' first | refine Wl.move rfl rfl ?_ | (refine Wl.addI rfl rfl rfl ?_ ?_;constructor <;> omega) | apply Wl.nil | apply St.region | (apply St.condF;exact rfl;exact ka) | apply St.skip | apply Gt.next | apply Gt.inNormal
  refine Gt.round (j + 1) zd zd kw (fun _ h => h)
 obtain rfl : j = i := by omega
 have hdj : decide ((j : Int) < (j : Int)) = false := decide_eq_false zd
 repeat' first | refine Wl.assign rfl rfl ?_ | refine Wl.lss rfl rfl rfl ?_ | apply Wl.nil | apply St.seq | apply St.region | (apply St.condF;exact rfl;exact ka) | apply St.ret | apply St.exit | apply Gt.next | apply Gt.thenExit | apply Gt.inExit | (apply Gt.out1;exact rfl;exact rfl;intro w' hp)
 exact ⟨rfl,Hp.on1 hp I3.up qa⟩
end Go.Proofs.YtabbklpalbikdaaGreatDoor
end
section
namespace Go.Proofs.YtabbklpalbikdaaGreatDoor
open Go.RowKit Go.Pt Go.ChangeShapes Go.WideShapes Go.ChangeAt
def laid1 {H : Type} : List (String × DataW H) := [("math/bits.deBruijn32tab", Rows.laid_math_bits_deBruijn32tab)]
theorem laid1_eq : (Rows.laid_math_bits_deBruijn32tab : DataW Unit) = .agg (tabL.map fun (n : Int) => .lit (.int .u8 n)) := by kernel_rfl
theorem tabLaid {W : World} (h : laidMetH Tryz.prog laid1 W) : tabOk W := by
 intro r hr
 rw [MakeChecks.laidMetH_plain _ _ _ kh] at h
 obtain ⟨ps,⟨g,t,cs,fuel,p,q,hg,ht,hv,hd,_,_⟩,_,_⟩ := h
 obtain rfl := Option.some.inj ((show Tryz.prog.globalNamed "math/bits.deBruijn32tab" = some 0 by kernel_rfl).symm.trans hg)
 obtain rfl := Option.some.inj ((show (Tryz.prog.globals[0]?).map (·.type) = some 107 by kernel_rfl).symm.trans ht)
 rw [laid1_eq] at hd
 obtain ⟨xs,m,_,ex,_,hl,hel⟩ := DataW.trod_array Tryz.underlying107 hd
 have c5 : Tryz.prog.cellsOf 5 = 1 := by kernel_rfl
 have hE := hel r hr
 rw [c5,Nat.mul_one,List.getElem?_eq_getElem zd] at hE
 obtain ⟨z,e1,e2,_⟩ := DataW.trod_int Tryz.underlying5 hE
 have hlen : tabL.length = 32 := rfl
 have e3 : (xs.map (·.1)) = tabL.map fun (n : Int) => .lit (.int .u8 n) := (DataW.agg.inj (Prod.mk.inj ex).1).symm
 have e4 : (xs.map (·.1))[r]? = (tabL.map fun (n : Int) => (DataW.lit (.int .u8 n) : DataW Unit))[r]? := by rw [e3]
 rw [List.getElem?_map,List.getElem?_map,List.getElem?_eq_getElem (by omega : r < xs.length),List.getElem?_eq_getElem (by omega : r < tabL.length),e2] at e4
 have hz : z = tabL[r]'(by omega) := by
  simp only [Option.map_some,Option.some.injEq,DataW.lit.injEq,Lit.int.injEq,true_and] at e4
  exact e4
 refine ⟨tabL[r]'(by omega),List.getElem?_eq_getElem _,?_,?_⟩
 ·have : ∀ x ∈ tabL,(0 : Int) ≤ x ∧ x ≤ 31 := by decide
  exact this _ (List.getElem_mem _)
 ·rw [World.var?_cell hg hv r,← hz]
  have h0 : ((cs.toList.drop r).take 1)[0]? = some (.int .u8 z) := by rw [e1];rfl
  simpa using h0
end Go.Proofs.YtabbklpalbikdaaGreatDoor
end
