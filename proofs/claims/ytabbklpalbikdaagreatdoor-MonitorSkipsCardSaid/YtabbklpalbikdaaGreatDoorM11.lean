/-
 2 texts,one behind the other;each says what it proves. Conditions: as each text says.
-/
import Derived.Test.YtabbklpalbikdaaGreatDoorM10
import Derived.Test.YtabbklpalbikdaaGreatDoorM02
import Derived.Test.YtabbklpalbikdaaGreatDoorRows
import Derived.WalkKit
import Derived.ProofKit
import Derived.LaidMore
import Derived.OpenShut
import Derived.ShutString
import Derived.ChangeOld
import Derived.Below
import Derived.MakeChecks
import Derived.Stop.Joined
set_option linter.unusedVariables false
set_option linter.unusedSimpArgs false
section
namespace Go.Proofs.YtabbklpalbikdaaGreatDoor
open Go.RowKit Go.Pt
theorem Wl.min2 {P : Program} {md : Md} {ops : Array Oper} {N : Nat} {rest : List Oper} {Γ : Env} {C : World → Prop} {Q : Exit → Act → World → Prop} {d : Nat} {ty : TypeId} {pos : String} {af : Array Edge} {x y : Operand} {t u : TypeId} {k : IntKind} {m n : Int}
  (hd : Nat.blt d N = true) (hx : ev Γ x = some (.int k m)) (hy : ev Γ y = some (.int k n)) (h : Wl rest P md ops N ((d,.int k (if n < m then n else m)) :: Γ) C Q) :
  Wl (⟨some d,.call { callee := .builtin .min,args := #[x,y],argTypes := #[t,u] },ty,pos,af,none⟩ :: rest) P md ops N Γ C Q :=
 Wl.val hd (fun a w ha _ => by simp [execOp,resolve,invoke,builtin,Builtin.min_,Builtin.min2,ha.ev hx,ha.ev hy];try (split <;> simp_all)) h
theorem LoadsO.upd {w w' : World} {a : Option Addr} {l : List LoadD} {S : Nat → Prop} (h : LoadsO w a l) (u : Upd S w w') (hs : ∀ k,k < w.heap.size → ¬ S k) : LoadsO w' a l := fun i x hx => by
 obtain ⟨b,o,e,v0,v1,v3,h1,h2⟩ := h i x hx
 exact ⟨b,o,e,v0,v1,v3,fun q v hq => u.cell (h1 q v hq) (hs _ (cell_old (h1 q v hq))),h2.code.upd u hs,h2.data.upd u fun k _ hk _ => hs k hk,h2.regs.upd u hs,h2.big,h2.cal⟩
theorem tmod5 (n : Int) : 0 ≤ (n.tmod 5 + 5).tmod 5 ∧ (n.tmod 5 + 5).tmod 5 < 5 ∧ -5 < n.tmod 5 ∧ n.tmod 5 < 5 := by
 have h1 := Int.tmod_lt_of_pos n (b := 5) zg
 have h2 := Int.lt_tmod_of_pos n (b := 5) zg
 exact ⟨Int.tmod_nonneg _ zd,Int.tmod_lt_of_pos _ zg,h2,h1⟩
def skP (l : List LoadD) (k : Nat) : PS := ⟨(begP l).L,((k % l.length : Nat) : Int),(begP l).D⟩
theorem skP_len (l : List LoadD) (k : Nat) : (skP l k).L.length = l.length := by simp [skP,begP]
theorem skP_0 (l : List LoadD) : begP l = skP l 0 := by unfold skP;rw [Nat.zero_mod];rfl
theorem skP_next (l : List LoadD) (k : Nat) (hl : 1 ≤ l.length) : passF (skP l k).L (skP l k).t = (skP l (k + 1)).t := by
 have hlen := skP_len l k
 have hm : k % l.length < l.length := Nat.mod_lt _ zd
 show passF (skP l k).L ((k % l.length : Nat) : Int) = (((k + 1) % l.length : Nat) : Int)
 rw [passF_all (by rw [hlen];exact hm) (fun x hx => by obtain ⟨j,_,rfl⟩ := List.mem_map.1 hx;rfl),hlen,Nat.mod_add_mod]
structure SkJ (w : World) (base : Nat) (I : Mi) (l : List LoadD) (pv ev : Value) (p : Nat) (rv : Value) (svb svc c8 cM : Nat) (iv bv lv : Value) (svJ : List Value) (P2 : PS) (vs : List Value) (T : List Rz) (w5 : World) (c10 : Nat) (lv' seen' : Value) (xs' : List Value) (pc' : Int) (cf' : Nat) : Prop where
 mon : MonS w5 base I (P2.mv pv ev lv' seen' T xs' pc' cf')
 up : Upd (fun k => w.heap.size ≤ k) w w5
 ge : w.heap.size ≤ base ∧ base ≤ w5.heap.size
 pr : w5.heap[p]? = some (.cells #[.pointer (some ⟨I.m,0,none⟩),rv] 39 (0,0))
 st : w5.heap[c8]? = some (.cells ([.int .i64 (turnV ((skP l 0).t)),.slice (some ⟨svb,0,none⟩) l.length svc,iv,bv,lv,.pointer (some ⟨cM,0,none⟩)] : List Value).toArray 54 (0,0))
 sr : w5.heap[svb]? = some (.cells ((stas (begP l).L).flatten ++ svJ).toArray 44 (0,0))
 ea : w5.heap[c10]? = some (.cells vs.toArray 35 (0,0))
structure SkI (w : World) (base : Nat) (I : Mi) (l : List LoadD) (pv ev : Value) (p : Nat) (rv : Value) (svb svc c8 cM : Nat) (iv bv lv : Value) (svJ : List Value) (cf : Nat) (w5 : World) (k : Nat) : Prop where
 mon : MonS w5 base I ((skP l k).mv pv ev (.slice none 0 0) (.slice none 0 0) [] xz 0 cf)
 env : EnvS w5 base l.length pv ev (begE l)
 up : Upd (fun k => w.heap.size ≤ k) w w5
 ge : w.heap.size ≤ base ∧ base ≤ w5.heap.size
 pr : w5.heap[p]? = some (.cells #[.pointer (some ⟨I.m,0,none⟩),rv] 39 (0,0))
 st : w5.heap[c8]? = some (.cells ([.int .i64 (turnV ((skP l 0).t)),.slice (some ⟨svb,0,none⟩) l.length svc,iv,bv,lv,.pointer (some ⟨cM,0,none⟩)] : List Value).toArray 54 (0,0))
 sr : w5.heap[svb]? = some (.cells ((stas (begP l).L).flatten ++ svJ).toArray 44 (0,0))
 nf : ∀ b,MonF I ((skP l k).mv pv ev (.slice none 0 0) (.slice none 0 0) [] xz 0 cf) b → b ≠ svb ∧ b ≠ c8 ∧ b ≠ p
set_option maxHeartbeats 16000000 in
theorem skips26 (a : Option Addr) (cl : Nat) (l : List LoadD) (n0 sk : Int) (w : World) (hn : l.length ≤ 140737488355328) (hL : LoadsO w a l) (hn0 : I64 n0) (hsk : I64 sk) (hT : tabOk w) :
  Calls Tryz.prog 4 #[.slice a l.length cl,.int .i64 n0,.int .i64 sk] w fun e w' => e = .returned (.bool true) ∧ Upd (fun k => w.heap.size ≤ k) w w' := by
 obtain ⟨t1,t2,t3,t4⟩ := tmod5 sk
 obtain ⟨s,hs⟩ : ∃ s : Nat,(sk.tmod 5 + 5).tmod 5 = (s : Int) := ⟨((sk.tmod 5 + 5).tmod 5).toNat,by omega⟩
 have hs5 : s < 5 := by omega
 refine enter (args := [_,_,_]) (Γ := [(0,_),(1,_),(2,_)]) Tryz.func4 Tryz.ntmps4 rfl (of_decide_eq_true rfl) (.cons rfl (.cons rfl (.cons rfl .nil))) ?_
 repeat' first | refine Wl.assign rfl rfl ?_ | apply Wl.nil | apply St.seq | apply St.region | apply Gt.next
 apply Wl.callC
 ·exact rfl
 ·repeat constructor
 intro wq hq
 refine (fit26 wq (hT.upd hq.upd fun y => y trivial)).mono ?_
 rintro e w1 ⟨rfl,u1⟩
 have U1 : Upd (fun k => w.heap.size ≤ k) w w1 := (hq.upd.mono fun _ _ y => (y trivial).elim).comp u1 fun k _ hs => hs.elim id fun h => Nat.le_trans hq.upd.size h
 refine ⟨_,_,rfl,Hp.start w1,?_⟩
 clear hq u1
 repeat' first | refine Wl.move rfl rfl ?_ | refine Wl.not rfl rfl ?_ | apply Wl.nil | apply St.seq | apply St.region | (apply St.condF;exact rfl;exact ka) | apply St.skip | apply Gt.next
 apply Wl.callC
 ·exact rfl
 ·repeat constructor
 intro wq hq
 have Uq : Upd (fun k => w.heap.size ≤ k) w wq := U1.comp hq.upd fun k _ hs => hs.elim id fun y => (y trivial).elim
 refine (small26 a cl l wq hn (hL.upd Uq fun k hk => Nat.not_le.2 hk)).mono ?_
 rintro e w2 ⟨⟨z,rfl,hz⟩,u2⟩
 have U2 : Upd (fun k => w.heap.size ≤ k) w w2 := Uq.comp u2 fun k _ hs => hs.elim id fun h => Nat.le_trans Uq.size h
 refine ⟨_,_,rfl,Hp.start w2,?_⟩
 clear hq u2 Uq U1 w1 wq
 cases z
 ·repeat' first | refine Wl.assign rfl rfl ?_ | refine Wl.not rfl rfl ?_ | apply Wl.nil | apply St.seq | apply St.region | (apply St.condT;exact rfl;exact ka) | apply St.ret | apply Gt.next | apply Gt.thenRet | (apply Gt.out1;exact rfl;exact rfl;intro w' hp)
  exact ⟨rfl,Hp.on0 hp U2⟩
 obtain ⟨⟨hl1,hl3⟩,hsm⟩ := hz rfl
 repeat' first | refine Wl.move rfl rfl ?_ | refine Wl.not rfl rfl ?_ | apply Wl.nil | apply St.seq | apply St.region | (apply St.condF;exact rfl;exact ka) | apply St.skip | apply Gt.next
 apply Wl.callC
 ·exact rfl
 ·repeat constructor
 intro wq hq
 have Uq : Upd (fun k => w.heap.size ≤ k) w wq := U2.comp hq.upd fun k _ hs => hs.elim id fun y => (y trivial).elim
 refine (begin26 a l.length cl l wq rfl ⟨hl1,hl3⟩ ((hL.upd Uq fun k hk => Nat.not_le.2 hk).small hsm) (hT.upd Uq (Nat.not_le.2 hT.lt))).mono ?_
 rintro e w3 ⟨p,base,I,pv,ev,cf,rv,rfl,hp3,hM3,hE3,hb3,hpg,u3⟩
 have U3 : Upd (fun k => w.heap.size ≤ k) w w3 := Uq.comp u3 fun k _ hs => hs.elim id fun h => Nat.le_trans Uq.size h
 refine ⟨_,_,rfl,Hp.start w3,?_⟩
 have hb3' : w.heap.size ≤ base := Nat.le_trans Uq.size hb3.1
 have hb32 := hb3.2
 have hpg' : w.heap.size ≤ p := Nat.le_trans Uq.size hpg
 clear hb3 hpg hq u3 Uq U2 w2 wq
 rw [skP_0] at hM3
 have hp0 : w3.cell? ⟨p,0,none⟩ = some (.pointer (some ⟨I.m,0,none⟩)) := cell_of hp3 rfl
 repeat' first | (apply Wl.loadO;exact rfl;exact rfl;exact zt;exact kq) | refine Wl.move rfl rfl ?_ | refine Wl.assign rfl rfl ?_ | refine Wl.nilCheck rfl rfl ?_ | refine Wl.fieldAddr0 rfl rfl ?_ | refine Wl.eqlPN rfl rfl rfl ?_ | (refine Wl.addI rfl rfl rfl ?_ ?_;constructor <;> omega) | (apply Wl.rem;exact rfl;exact rfl;exact rfl;exact qp) | apply Wl.nil | apply St.seq | apply St.region | (apply St.condF;exact rfl;exact ka) | apply St.skip | apply Gt.next
 rw [hs]
 apply Wl.callC
 ·exact rfl
 ·repeat constructor
 intro wq hq
 have zq := hq.upd.size
 refine (mState0 base I _ wq (hM3.upd (S := fun _ => False) (hq.upd.mono fun _ _ y => y trivial) fun _ _ y => y) zd (fun i => rfl) (show (0 : Nat) ≤ 1000 by decide)).mono ?_
 rintro e w4 ⟨sv,iv,bv,lv4,cM4,rfl,hSt,hcM,u4⟩
 have U34 : Upd (fun k => w3.heap.size ≤ k) w3 w4 := (hq.upd.mono fun _ _ y => (y trivial).elim).comp u4 fun k _ hs => hs.elim id fun h => by omega
 have hSs := hSt.s
 have z4 := U34.size
 have hM4 := hM3.upd U34 (fun b hb => Nat.not_le.2 (hM3.lt b hb).2)
 have hE4 := hE3.upd (U34.mono fun b _ h => by omega)
 have hp4 := U34.heap hp3 (Nat.not_le.2 (lt_of_block hp3))
 have U4 : Upd (fun k => w.heap.size ≤ k) w w4 := U3.comp U34 fun k _ hs => hs.elim id fun h => Nat.le_trans U3.size h
 have hsvL : ((skP l 0).mv pv ev (.slice none 0 0) (.slice none 0 0) [] xz 0 cf).L.length = l.length := skP_len l 0
 obtain ⟨svb,svc,svJ,hsv,hsvg,hsvh⟩ := hSs.blk (by rw [hsvL];omega)
 rw [hsvL] at hsv
 subst hsv
 refine ⟨_,_,rfl,Hp.start w4,?_⟩
 have hsvb : wq.heap.size ≤ svb := hsvg
 obtain ⟨ia,ic,hiv,_⟩ := row_cut hSt.i
 obtain ⟨ba,bc,hbv,_⟩ := row_cut hSt.b
 obtain ⟨la,lc,hlv,_⟩ := row_cut hSt.l
 subst hiv hbv hlv
 clear hq u4 hSs
 repeat' first | (apply Wl.storeA (xs := [.int .i64 (turnV ((skP l 0).t)),.slice (some ⟨svb,0,none⟩) l.length svc,.slice ia ((skP l 0).mv pv ev (.slice none 0 0) (.slice none 0 0) [] xz 0 cf).L.length ic,.slice ba ((skP l 0).mv pv ev (.slice none 0 0) (.slice none 0 0) [] xz 0 cf).L.length bc,.slice la ((skP l 0).mv pv ev (.slice none 0 0) (.slice none 0 0) [] xz 0 cf).ll.length lc,.pointer (some ⟨cM4,0,none⟩)]);exact rfl;exact rfl;exact rfl;exact rfl;exact ke;exact .z (LOver.whole rfl)) | refine Wl.move rfl rfl ?_ | (apply Wl.alloc;exact rfl;intro c hc ho) | apply Wl.nil | apply St.seq | apply St.block | apply St.region | apply Gt.next
 generalize c = c8 at *
 have hc8 : w4.heap.size ≤ c8 := by assumption
 refine St.reb (H' := []) fun w5 h5 => ⟨trivial,trivial,?_⟩
 have u5 : Upd (fun k => w4.heap.size ≤ k) w4 w5 := Hp.on1 h5 (Upd.refl _ _) hc8
 have K5 : SkI w base I l pv ev p rv svb svc c8 cM4 _ _ _ svJ cf w5 0 := ⟨hM4.upd u5 fun b hb => Nat.not_le.2 (hM4.lt b hb).2,hE4.upd (u5.mono fun b _ h => by omega),U4.comp u5 fun k _ hs => hs.elim id fun h => by have := U4.size;omega,⟨hb3',by have := u5.size;omega⟩,u5.heap hp4 (Nat.not_le.2 (lt_of_block hp4)),h5.own.at (.head _),u5.heap hsvh (Nat.not_le.2 (lt_of_block hsvh)),fun b hb => ⟨fun e => by have := (hM3.lt b hb).2;omega,fun e => by have := (hM3.lt b hb).2;omega,hM3.offF hp3 zg b hb⟩⟩
 refine St.loop (σ := Nat × World) (fun τ => τ.1 ≤ s ∧ SkI w base I l pv ev p rv svb svc c8 cM4 _ _ _ svJ cf τ.2 τ.1) (fun τ => [(0,.slice a l.length cl),(1,.int .i64 n0),(2,.int .i64 (s : Int)),(7,.pointer (some ⟨p,0,none⟩)),(8,.pointer (some ⟨c8,0,none⟩)),(31,.int .i64 (s : Int)),(32,.int .i64 (τ.1 : Int))]) (fun τ => Hp τ.2 []) (fun τ => s - τ.1) (0,w5) ⟨Nat.zero_le _,K5⟩ kw (fun _ h => h) ?_
 clear h5 u5 K5
 rintro ⟨k,w5⟩ ⟨hk,K5⟩
 simp only at hk K5 ⊢
 have hp0' : w5.cell? ⟨p,0,none⟩ = some (.pointer (some ⟨I.m,0,none⟩)) := cell_of K5.pr rfl
 by_cases hks : k < s
 ·have hdk : decide ((k : Int) < (s : Int)) = true := decide_eq_true zd
  repeat' first | (apply Wl.loadO;exact rfl;exact rfl;exact zt;exact kq) | refine Wl.move rfl rfl ?_ | refine Wl.nilCheck rfl rfl ?_ | refine Wl.fieldAddr0 rfl rfl ?_ | refine Wl.lss rfl rfl rfl ?_ | apply Wl.nil | apply St.seq | apply St.block | apply St.region | (apply St.condT;exact rfl;exact ka) | apply St.skip | apply Gt.next
  apply Wl.callC
  ·exact rfl
  ·repeat constructor
  intro wq hq
  have hMq := K5.mon.upd (S := fun _ => False) (hq.upd.mono fun _ _ y => y trivial) fun _ _ y => y
  refine (mSkip base I _ wq hMq (by show ((k % l.length : Nat) : Int) < ((skP l k).L.length : Int);rw [skP_len];have := Nat.mod_lt k (show 0 < l.length by omega);omega)).mono ?_
  rintro e w6 ⟨rfl,hM6,u6⟩
  have hM6' : MonS w6 base I ((skP l (k + 1)).mv pv ev (.slice none 0 0) (.slice none 0 0) [] xz 0 cf) := by
   have e : passF ((skP l k).mv pv ev (.slice none 0 0) (.slice none 0 0) [] xz 0 cf).L ((skP l k).mv pv ev (.slice none 0 0) (.slice none 0 0) [] xz 0 cf).t = (skP l (k + 1)).t := skP_next l k hl1
   rw [e] at hM6
   exact hM6
  have U56 : Upd (fun b => b = I.wd) w5 w6 := (hq.upd.mono fun _ _ y => (y trivial).elim).comp u6 fun b _ h => h.elim id id
  have lwd := (K5.mon.lt I.wd (.inr (.inr (.inr (.inl rfl))))).1
  obtain ⟨nw1,nw2,nw3⟩ := K5.nf I.wd (.inr (.inr (.inr (.inl rfl))))
  have K6 : SkI w base I l pv ev p rv svb svc c8 cM4 _ _ _ svJ cf w6 (k + 1) := ⟨hM6',K5.env.upd (U56.mono fun b _ h => by omega),K5.up.comp U56 fun b _ h => h.elim id fun h => by have := K5.ge.1;omega,⟨K5.ge.1,Nat.le_trans K5.ge.2 U56.size⟩,U56.heap K5.pr (Ne.symm nw3),U56.heap K5.st (Ne.symm nw2),U56.heap K5.sr (Ne.symm nw1),K5.nf⟩
  refine ⟨_,_,rfl,Hp.start w6,?_⟩
  repeat' first | refine Wl.move rfl rfl ?_ | (refine Wl.addI rfl rfl rfl ?_ ?_;constructor <;> omega) | apply Wl.nil | apply St.region | apply Gt.next | apply Gt.inNormal
  refine Gt.reb (H' := []) fun w7 h7 => ⟨trivial,trivial,?_⟩
  have u7 : Upd (fun _ => False) w6 w7 := h7.upd.mono fun _ _ y => y trivial
  refine Gt.round (k + 1,w7) ⟨by simp only;omega,K6.mon.upd u7 (fun _ _ y => y),K6.env.upd (u7.mono fun _ _ y => y.elim),K6.up.comp u7 fun b _ h => h.elim id False.elim,⟨K6.ge.1,Nat.le_trans K6.ge.2 u7.size⟩,u7.heap K6.pr id,u7.heap K6.st id,u7.heap K6.sr id,K6.nf⟩ qa kw (fun _ h => h)
 obtain rfl : k = s := by omega
 have hdk : decide ((k : Int) < (k : Int)) = false := decide_eq_false zd
 repeat' first | refine Wl.lss rfl rfl rfl ?_ | apply Wl.nil | apply St.seq | apply St.region | (apply St.condF;exact rfl;exact ka) | apply St.exit | apply Gt.next | apply Gt.thenExit | apply Gt.inExit
 have hrem : (k : Int).tmod (l.length : Int) = ((k % l.length : Nat) : Int) := by rw [Int.tmod_eq_emod_of_nonneg zd];exact (Int.natCast_emod k l.length).symm
 have hml : k % l.length < l.length := Nat.mod_lt _ zd
 have htv : turnV ((k % l.length : Nat) : Int) = ((k % l.length : Nat) : Int) := by unfold turnV;rw [if_neg zd]
 refine St.tree (fun w' => w'.heap[p]? = some (.cells #[.pointer (some ⟨I.m,0,none⟩),rv] 39 (0,0))) mixed (fun _ h' => ⟨Hp.drew h',(Hp.drew h').upd.heap K5.pr fun y => y trivial⟩) ?_
 refine Mt.pu 0 ?_
 refine Wl.move rfl rfl (Wl.nilB ?_)
 refine Mt.pu 5 ?_
 refine Wl.move rfl rfl (Wl.nilB ?_)
 refine Mt.pu 6 ?_
 refine Wl.move rfl rfl (Wl.nilB ?_)
 refine Mt.pu 1 ?_
 refine Wl.nilCheck rfl rfl (Wl.nilB ?_)
 refine Mt.pu 7 ?_
 refine Wl.len rfl rfl (Wl.nilB ?_)
 refine Mt.pu 2 ?_
 refine Wl.fieldAddr0 rfl rfl (Wl.nilB ?_)
 refine Mt.pu 8 ?_
 repeat' first | (apply Wl.remIs (z := ((k % l.length : Nat) : Int));exact rfl;exact rfl;exact rfl;omega;exact hrem) | apply Wl.nilB
 refine Mt.pu 3 ?_
 repeat' first | (apply Wl.loadF;exact rfl;exact rfl;(intro w' h';exact cell_of h' rfl)) | apply Wl.nilB
 refine Mt.eff1 (i := 4) kh kz ?_
 apply Wl.callQ
 ·exact rfl
 ·repeat constructor
 ·intro wq hq
  refine (mTurn base I _ wq (K5.mon.upd (S := fun _ => False) (hq.upd.mono fun _ _ y => y trivial) fun _ _ y => y)).mono ?_
  rintro e wr ⟨rfl,hr⟩
  exact ⟨congrArg _ (congrArg _ htv),hq.keep hr⟩
 repeat' first | apply Wl.nil
 refine Mt.backE (fun w' h' => by first | exact h'.upd.heap K5.pr fun y => y trivial | exact h'.upd.heap K6.pr fun y => y trivial) ?_
 refine Mt.pu 9 ?_
 refine Wl.neqIs rfl rfl rfl rfl (Wl.nilB ?_)
 refine Mt.pu 10 ?_
 refine Wl.move rfl rfl (Wl.nilB ?_)
 refine Mt.pu 11 ?_
 repeat' first | refine Wl.move rfl rfl ?_ | (apply Wl.on;exact rfl;exact rfl;exact ka) | apply Wl.nilB
 refine Mt.pu 15 ?_
 repeat' first | refine Wl.move rfl rfl ?_ | (apply Wl.on;exact rfl;exact rfl;exact ka) | apply Wl.nilB
 refine Mt.pu 12 ?_
 repeat' first | (apply Wl.on;exact rfl;exact rfl;exact ka) | refine Wl.nilCheck rfl rfl ?_ | apply Wl.nilB
 refine Mt.pu 13 ?_
 repeat' first | (apply Wl.on;exact rfl;exact rfl;exact ka) | refine Wl.fieldAddr0 rfl rfl ?_ | apply Wl.nilB
 refine Mt.pu 14 ?_
 repeat' first | (apply Wl.loadF;exact rfl;exact rfl;(intro w' h';exact cell_of h' rfl)) | (apply Wl.on;exact rfl;exact rfl;exact ka) | apply Wl.nilB
 refine Mt.eff1 (i := 16) kh kz ?_
 apply Wl.on
 ·exact rfl
 ·exact rfl
 ·exact rfl
 apply Wl.min2
 ·exact rfl
 ·exact rfl
 ·exact rfl
 repeat' first | apply Wl.nil
 refine Mt.backE (fun w' h' => by first | exact h'.upd.heap K5.pr fun y => y trivial | exact h'.upd.heap K6.pr fun y => y trivial) ?_
 refine Mt.eff1 (i := 17) kh kz ?_
 apply Wl.on
 ·exact rfl
 ·exact rfl
 ·exact rfl
 apply Wl.callC
 ·exact rfl
 ·repeat constructor
 intro wq hq
 refine (mRunNo base I _ _ wq (K5.mon.upd (S := fun _ => False) (hq.upd.mono fun _ _ y => y trivial) fun _ _ y => y) (by split <;> omega)).mono ?_
 rintro e w6 ⟨rfl,hM6,u6⟩
 have U56 : Upd (fun b => w5.heap.size ≤ b) w5 w6 := (hq.upd.mono fun _ _ y => (y trivial).elim).comp u6 fun b _ h => h.elim id fun h => by have := hq.upd.size;omega
 have lp5 := lt_of_block K5.pr
 have l85 := lt_of_block K5.st
 have ls5 := lt_of_block K5.sr
 have K6 : SkI w base I l pv ev p rv svb svc c8 cM4 _ _ _ svJ cf w6 k := ⟨hM6,K5.env.upd (U56.mono fun b _ h => Nat.le_trans K5.ge.2 h),K5.up.comp U56 fun b _ h => h.elim id fun h => Nat.le_trans K5.up.size h,⟨K5.ge.1,Nat.le_trans K5.ge.2 U56.size⟩,U56.heap K5.pr (Nat.not_le.2 lp5),U56.heap K5.st (Nat.not_le.2 l85),U56.heap K5.sr (Nat.not_le.2 ls5),K5.nf⟩
 have hp06 : w6.cell? ⟨p,0,none⟩ = some (.pointer (some ⟨I.m,0,none⟩)) := cell_of K6.pr rfl
 refine ⟨_,_,rfl,Hp.start w6,?_⟩
 repeat' first | apply Wl.nil
 refine Mt.backE (fun w' h' => by first | exact h'.upd.heap K5.pr fun y => y trivial | exact h'.upd.heap K6.pr fun y => y trivial) ?_
 refine Mt.pu 18 ?_
 repeat' first | (apply Wl.fieldV (cs := [.int .i64 (-1),.int .i64 0,.int .i64 0]);exact rfl;exact rfl;exact rfl) | (apply Wl.on;exact rfl;exact rfl;exact ka) | apply Wl.nilB
 refine Mt.pu 19 ?_
 repeat' first | refine Wl.neqIs rfl rfl rfl rfl ?_ | (apply Wl.on;exact rfl;exact rfl;exact ka) | apply Wl.nilB
 refine Mt.pu 20 ?_
 repeat' first | (apply Wl.pickF;exact rfl;exact rfl;exact ka;exact rfl) | apply Wl.nilB
 refine Mt.toGt kh ?_
 repeat' first | (apply Wl.loadO;exact rfl;exact rfl;exact zt;exact kq) | refine Wl.move rfl rfl ?_ | refine Wl.nilCheck rfl rfl ?_ | refine Wl.fieldAddr0 rfl rfl ?_ | apply St.seq | apply St.region | (apply St.condF;exact rfl;exact ka) | apply St.skip | apply Gt.next
 apply Wl.callQ
 ·exact rfl
 ·repeat constructor
 ·intro wq hq
  refine (mTurn base I _ wq (K6.mon.upd (S := fun _ => False) (hq.upd.mono fun _ _ y => y trivial) fun _ _ y => y)).mono ?_
  rintro e wr ⟨rfl,hr⟩
  exact ⟨congrArg _ (congrArg _ htv),hq.keep hr⟩
 repeat' first | refine Wl.assign rfl rfl ?_ | apply Wl.nil | apply Gt.next
 clear K5 hM6 u6 U56
 obtain ⟨kn,hkn⟩ : ∃ kn : Nat,stepsN n0 = (kn : Int) := ⟨(stepsN n0).toNat,by have := stepsN_rng n0;omega⟩
 have hknr : 1 ≤ kn ∧ kn ≤ 60 := by have := stepsN_rng n0;omega
 have hstep : ∀ wq : World,Calls Tryz.prog 17 #[.int .i64 n0] wq fun e w' => e = .returned (.int .i64 (kn : Int)) ∧ Hp wq [] w' := fun wq => by rw [← hkn];exact stepsX _ wq
 obtain ⟨x,hx⟩ : ∃ x,(skP l k).L[k % l.length]? = some x := ⟨_,List.getElem?_eq_getElem (by rw [skP_len];exact hml)⟩
 obtain ⟨R,hR⟩ : ∃ R,runO (begE l) (skP l k) (k % l.length) x kn = R := ⟨_,rfl⟩
 have hDok : DOk (skP l k).D (skP l k).L.length := begP_ok l
 have hrun : ∀ wq : World,MonS wq base I ((skP l k).mv pv ev (.slice none 0 0) (.slice none 0 0) [] xz 0 cf) → EnvS wq base l.length pv ev (begE l) → base ≤ wq.heap.size → Calls Tryz.prog 16 #[.pointer (some ⟨I.m,0,none⟩),.int .i64 (kn : Int)] wq fun e w' => e = .returned (evV (k % l.length) R) ∧ ∃ lv' seen' xs' pc' cf',MonS w' base I ((endP (skP l k) (k % l.length) x R).mv pv ev lv' seen' R.tr xs' pc' cf') ∧ Upd (KF wq I ((skP l k).mv pv ev (.slice none 0 0) (.slice none 0 0) [] xz 0 cf)) wq w' := fun wq hm he hb => by
  refine (mRun base I (skP l k) pv ev (.slice none 0 0) (.slice none 0 0) [] xz 0 cf (begE l) kn (k % l.length) x wq hm hb (by rw [skP_len];exact he) hDok rfl hx ⟨hknr.1,by omega⟩).mono ?_
  rw [hR]
  rintro e w' ⟨rfl,lv',seen',xs',pc',cf',h1,_,h3,_,_⟩
  exact ⟨rfl,lv',seen',xs',pc',cf',h1,h3⟩
 refine St.cut (σ := World × Nat × Value × Value × List Value × Int × Nat) (fun τ => SkJ w base I l pv ev p rv svb svc c8 cM4 (.slice ia ((skP l 0).mv pv ev (.slice none 0 0) (.slice none 0 0) [] xz 0 cf).L.length ic) (.slice ba ((skP l 0).mv pv ev (.slice none 0 0) (.slice none 0 0) [] xz 0 cf).L.length bc) (.slice la ((skP l 0).mv pv ev (.slice none 0 0) (.slice none 0 0) [] xz 0 cf).ll.length lc) svJ (endP (skP l k) (k % l.length) x R) [.int .i64 ((k % l.length : Nat) : Int),.int .i64 (R.tr.length : Int),.int .i64 R.why] R.tr τ.1 τ.2.1 τ.2.2.1 τ.2.2.2.1 τ.2.2.2.2.1 τ.2.2.2.2.2.1 τ.2.2.2.2.2.2) (fun τ => [(0,.slice a l.length cl),(1,.int .i64 n0),(2,.int .i64 (k : Int)),(7,.pointer (some ⟨p,0,none⟩)),(8,.pointer (some ⟨c8,0,none⟩)),(9,.int .i64 ((k % l.length : Nat) : Int)),(10,.pointer (some ⟨τ.2.1,0,none⟩))]) (fun τ => Hp τ.1 []) ?_ ?_
 ·have lp6 := lt_of_block K6.pr
  have l86 := lt_of_block K6.st
  have ls6 := lt_of_block K6.sr
  refine St.tree (fun w' => w'.heap[p]? = some (.cells #[.pointer (some ⟨I.m,0,none⟩),rv] 39 (0,0))) mixed (fun _ h' => ⟨Hp.drew h',(Hp.drew h').upd.heap K6.pr fun y => y trivial⟩) ?_
  refine Mt.pu 0 ?_
  refine Wl.move rfl rfl (Wl.nilB ?_)
  refine Mt.pu 4 ?_
  refine Wl.move rfl rfl (Wl.nilB ?_)
  refine Mt.pu 1 ?_
  refine Wl.nilCheck rfl rfl (Wl.nilB ?_)
  refine Mt.pu 2 ?_
  refine Wl.fieldAddr0 rfl rfl (Wl.nilB ?_)
  refine Mt.pu 3 ?_
  repeat' first | (apply Wl.loadF;exact rfl;exact rfl;(intro w' h';exact cell_of h' rfl)) | apply Wl.nilB
  refine Mt.eff2 (i := 5) (j := 7) kh kz kz ?_ ?_
  ·apply Wl.callQ
   ·exact rfl
   ·repeat constructor
   ·intro wq hq
    exact hq.q (hstep wq)
   repeat' first | apply Wl.nil
   refine Mt.backE (fun w' h' => by first | exact h'.upd.heap K6.pr (fun y => y trivial) | exact h'.upd.heap K6.pr (fun y => y ⟨fun e => by simp only at e;omega,trivial⟩) | exact h'.upd.heap pr7 (fun y => y trivial) | exact h'.upd.heap pr7 (fun y => y ⟨fun e => by simp only at e;omega,trivial⟩)) ?_
   refine Mt.eff2 (i := 6) (j := 7) kh kz kz ?_ ?_
   ·apply Wl.callC
    ·exact rfl
    ·repeat constructor
    intro wq hq
    have zq := hq.upd.size
    have uq : Upd (fun _ => False) w6 wq := hq.upd.mono fun _ _ y => y trivial
    have Mq := K6.mon.upd uq (fun _ _ y => y)
    have Eq := K6.env.upd (uq.mono fun b _ h => h.elim)
    have prq := uq.heap K6.pr id
    have stq := uq.heap K6.st id
    have srq := uq.heap K6.sr id
    refine (hrun wq Mq Eq (Nat.le_trans K6.ge.2 zq)).mono ?_
    rintro e w7 ⟨rfl,lv',seen',xs',pc',cf',hM7,u7⟩
    have pr7 := u7.heap prq (fun h => h.elim (fun h => (K6.nf p h).2.2 rfl) fun h => absurd (lt_of_block prq) (Nat.not_lt.2 h))
    have st7 := u7.heap stq (fun h => h.elim (fun h => (K6.nf c8 h).2.1 rfl) fun h => absurd (lt_of_block stq) (Nat.not_lt.2 h))
    have sr7 := u7.heap srq (fun h => h.elim (fun h => (K6.nf svb h).1 rfl) fun h => absurd (lt_of_block srq) (Nat.not_lt.2 h))
    have U7 : Upd (fun k => w.heap.size ≤ k) w w7 := (K6.up.comp uq (T := fun k => w.heap.size ≤ k) fun b _ h => h.elim id fun h => h.elim).comp u7 fun b _ h => h.elim id fun h => h.elim (fun h => by have := (Mq.lt b h).1;have := K6.ge.1;omega) fun h => by have := K6.up.size;omega
    have z7 := u7.size
    refine ⟨_,_,rfl,Hp.start w7,?_⟩
    repeat' first | apply Wl.nil
    refine Mt.backE (fun w' h' => by first | exact h'.upd.heap K6.pr (fun y => y trivial) | exact h'.upd.heap K6.pr (fun y => y ⟨fun e => by simp only at e;omega,trivial⟩) | exact h'.upd.heap pr7 (fun y => y trivial) | exact h'.upd.heap pr7 (fun y => y ⟨fun e => by simp only at e;omega,trivial⟩)) ?_
    refine Mt.eff1 (i := 7) kh kz ?_
    repeat' first | (apply Wl.alloc;exact rfl;intro c hc ho) | apply Wl.nil
    generalize c = c10 at *
    have hc10 : w7.heap.size ≤ c10 := by assumption
    refine Mt.backE (fun w' h' => by first | exact h'.upd.heap K6.pr (fun y => y trivial) | exact h'.upd.heap K6.pr (fun y => y ⟨fun e => by simp only at e;omega,trivial⟩) | exact h'.upd.heap pr7 (fun y => y trivial) | exact h'.upd.heap pr7 (fun y => y ⟨fun e => by simp only at e;omega,trivial⟩)) ?_
    refine Mt.eff1 (i := 8) kh kz ?_
    apply Wl.storeA (xs := [.int .i64 ((k % l.length : Nat) : Int),.int .i64 (R.tr.length : Int),.int .i64 R.why])
    ·exact rfl
    ·exact rfl
    ·exact rfl
    ·exact rfl
    ·repeat constructor
    ·exact .z (LOver.whole rfl)
    repeat' first | apply Wl.nil
    refine Mt.backE (fun w' h' => by first | exact h'.upd.heap K6.pr (fun y => y trivial) | exact h'.upd.heap K6.pr (fun y => y ⟨fun e => by simp only at e;omega,trivial⟩) | exact h'.upd.heap pr7 (fun y => y trivial) | exact h'.upd.heap pr7 (fun y => y ⟨fun e => by simp only at e;omega,trivial⟩)) ?_
    refine Mt.toGt kh ?_
    refine Gt.reb (H' := []) fun w8 h8 => ⟨trivial,trivial,?_⟩
    have u8 : Upd (fun b => b = c10) w7 w8 := Hp.on1 h8 (Upd.refl _ _) rfl
    have z8 := u8.size
    apply Gt.meet (w8,c10,lv',seen',xs',pc',cf')
    ·exact ⟨hM7.upd u8 (fun b hb e => (by have := (hM7.lt b hb).2;omega)),U7.comp u8 (fun b _ h => h.elim id fun h => by have := K6.up.size;omega),⟨K6.ge.1,by have := K6.ge.2;simp only;omega⟩,u8.heap pr7 zd,u8.heap st7 zd,u8.heap sr7 zd,h8.own.at (.head _)⟩
    ·repeat constructor
    ·exact fun _ h => h
   ·repeat' first | (apply Wl.alloc;exact rfl;intro c hc ho) | apply Wl.nil
    generalize c = c10 at *
    have hc10 : w6.heap.size ≤ c10 := by assumption
    refine Mt.backE (fun w' h' => by first | exact h'.upd.heap K6.pr (fun y => y trivial) | exact h'.upd.heap K6.pr (fun y => y ⟨fun e => by simp only at e;omega,trivial⟩) | exact h'.upd.heap pr7 (fun y => y trivial) | exact h'.upd.heap pr7 (fun y => y ⟨fun e => by simp only at e;omega,trivial⟩)) ?_
    refine Mt.eff1 (i := 6) kh kz ?_
    apply Wl.callC
    ·exact rfl
    ·repeat constructor
    intro wq hq
    have zq := hq.upd.size
    have uq : Upd (fun b => b = c10) w6 wq := Hp.on1 hq (Upd.refl _ _) rfl
    have Mq := K6.mon.upd uq (fun b hb e => by have := (K6.mon.lt b hb).2;omega)
    have Eq := K6.env.upd (uq.mono fun b _ h => by have := K6.ge.2;omega)
    have prq := uq.heap K6.pr zd
    have stq := uq.heap K6.st zd
    have srq := uq.heap K6.sr zd
    have h10q := hq.own.at (.head _)
    have o10q := Mq.offF (b := c10) (t := 35) h10q zg
    have hlc10 := hq.own.lt (.head _)
    simp only at hlc10
    refine (hrun wq Mq Eq (Nat.le_trans K6.ge.2 zq)).mono ?_
    rintro e w7 ⟨rfl,lv',seen',xs',pc',cf',hM7,u7⟩
    have pr7 := u7.heap prq (fun h => h.elim (fun h => (K6.nf p h).2.2 rfl) fun h => absurd (lt_of_block prq) (Nat.not_lt.2 h))
    have st7 := u7.heap stq (fun h => h.elim (fun h => (K6.nf c8 h).2.1 rfl) fun h => absurd (lt_of_block stq) (Nat.not_lt.2 h))
    have sr7 := u7.heap srq (fun h => h.elim (fun h => (K6.nf svb h).1 rfl) fun h => absurd (lt_of_block srq) (Nat.not_lt.2 h))
    have U7 : Upd (fun k => w.heap.size ≤ k) w w7 := (K6.up.comp uq (T := fun k => w.heap.size ≤ k) fun b _ h => h.elim id fun h => by have := K6.up.size;omega).comp u7 fun b _ h => h.elim id fun h => h.elim (fun h => by have := (Mq.lt b h).1;have := K6.ge.1;omega) fun h => by have := K6.up.size;omega
    have z7 := u7.size
    have hq7 := Hp.restD hq u7 qm
    refine ⟨_,_,rfl,hq7,?_⟩
    repeat' first | apply Wl.nil
    refine Mt.backE (fun w' h' => by first | exact h'.upd.heap K6.pr (fun y => y trivial) | exact h'.upd.heap K6.pr (fun y => y ⟨fun e => by simp only at e;omega,trivial⟩) | exact h'.upd.heap pr7 (fun y => y trivial) | exact h'.upd.heap pr7 (fun y => y ⟨fun e => by simp only at e;omega,trivial⟩)) ?_
    refine Mt.eff1 (i := 8) kh kz ?_
    apply Wl.storeA (xs := [.int .i64 ((k % l.length : Nat) : Int),.int .i64 (R.tr.length : Int),.int .i64 R.why])
    ·exact rfl
    ·exact rfl
    ·exact rfl
    ·exact rfl
    ·repeat constructor
    ·exact .z (LOver.whole rfl)
    repeat' first | apply Wl.nil
    refine Mt.backE (fun w' h' => by first | exact h'.upd.heap K6.pr (fun y => y trivial) | exact h'.upd.heap K6.pr (fun y => y ⟨fun e => by simp only at e;omega,trivial⟩) | exact h'.upd.heap pr7 (fun y => y trivial) | exact h'.upd.heap pr7 (fun y => y ⟨fun e => by simp only at e;omega,trivial⟩)) ?_
    refine Mt.toGt kh ?_
    refine Gt.reb (H' := []) fun w8 h8 => ⟨trivial,trivial,?_⟩
    have u8 : Upd (fun b => b = c10) w7 w8 := Hp.on1 h8 (Upd.refl _ _) rfl
    have z8 := u8.size
    apply Gt.meet (w8,c10,lv',seen',xs',pc',cf')
    ·exact ⟨hM7.upd u8 (fun b hb e => (by have h10 := hM7.offF (b := c10) (t := 35) (hq7.own.at (.head _)) zg;exact h10 b hb e)),U7.comp u8 (fun b _ h => h.elim id fun h => by have := K6.up.size;omega),⟨K6.ge.1,by have := K6.ge.2;simp only;omega⟩,u8.heap pr7 zd,u8.heap st7 zd,u8.heap sr7 zd,h8.own.at (.head _)⟩
    ·repeat constructor
    ·exact fun _ h => h
  ·repeat' first | (apply Wl.alloc;exact rfl;intro c hc ho) | apply Wl.nil
   generalize c = c10 at *
   have hc10 : w6.heap.size ≤ c10 := by assumption
   refine Mt.backE (fun w' h' => by first | exact h'.upd.heap K6.pr (fun y => y trivial) | exact h'.upd.heap K6.pr (fun y => y ⟨fun e => by simp only at e;omega,trivial⟩) | exact h'.upd.heap pr7 (fun y => y trivial) | exact h'.upd.heap pr7 (fun y => y ⟨fun e => by simp only at e;omega,trivial⟩)) ?_
   refine Mt.eff1 (i := 5) kh kz ?_
   apply Wl.callQ
   ·exact rfl
   ·repeat constructor
   ·intro wq hq
    exact hq.q (hstep wq)
   repeat' first | apply Wl.nil
   refine Mt.backE (fun w' h' => by first | exact h'.upd.heap K6.pr (fun y => y trivial) | exact h'.upd.heap K6.pr (fun y => y ⟨fun e => by simp only at e;omega,trivial⟩) | exact h'.upd.heap pr7 (fun y => y trivial) | exact h'.upd.heap pr7 (fun y => y ⟨fun e => by simp only at e;omega,trivial⟩)) ?_
   refine Mt.eff1 (i := 6) kh kz ?_
   apply Wl.callC
   ·exact rfl
   ·repeat constructor
   intro wq hq
   have zq := hq.upd.size
   have uq : Upd (fun b => b = c10) w6 wq := Hp.on1 hq (Upd.refl _ _) rfl
   have Mq := K6.mon.upd uq (fun b hb e => by have := (K6.mon.lt b hb).2;omega)
   have Eq := K6.env.upd (uq.mono fun b _ h => by have := K6.ge.2;omega)
   have prq := uq.heap K6.pr zd
   have stq := uq.heap K6.st zd
   have srq := uq.heap K6.sr zd
   have h10q := hq.own.at (.head _)
   have o10q := Mq.offF (b := c10) (t := 35) h10q zg
   have hlc10 := hq.own.lt (.head _)
   simp only at hlc10
   refine (hrun wq Mq Eq (Nat.le_trans K6.ge.2 zq)).mono ?_
   rintro e w7 ⟨rfl,lv',seen',xs',pc',cf',hM7,u7⟩
   have pr7 := u7.heap prq (fun h => h.elim (fun h => (K6.nf p h).2.2 rfl) fun h => absurd (lt_of_block prq) (Nat.not_lt.2 h))
   have st7 := u7.heap stq (fun h => h.elim (fun h => (K6.nf c8 h).2.1 rfl) fun h => absurd (lt_of_block stq) (Nat.not_lt.2 h))
   have sr7 := u7.heap srq (fun h => h.elim (fun h => (K6.nf svb h).1 rfl) fun h => absurd (lt_of_block srq) (Nat.not_lt.2 h))
   have U7 : Upd (fun k => w.heap.size ≤ k) w w7 := (K6.up.comp uq (T := fun k => w.heap.size ≤ k) fun b _ h => h.elim id fun h => by have := K6.up.size;omega).comp u7 fun b _ h => h.elim id fun h => h.elim (fun h => by have := (Mq.lt b h).1;have := K6.ge.1;omega) fun h => by have := K6.up.size;omega
   have z7 := u7.size
   have hq7 := Hp.restD hq u7 qm
   refine ⟨_,_,rfl,hq7,?_⟩
   repeat' first | apply Wl.nil
   refine Mt.backE (fun w' h' => by first | exact h'.upd.heap K6.pr (fun y => y trivial) | exact h'.upd.heap K6.pr (fun y => y ⟨fun e => by simp only at e;omega,trivial⟩) | exact h'.upd.heap pr7 (fun y => y trivial) | exact h'.upd.heap pr7 (fun y => y ⟨fun e => by simp only at e;omega,trivial⟩)) ?_
   refine Mt.eff1 (i := 8) kh kz ?_
   apply Wl.storeA (xs := [.int .i64 ((k % l.length : Nat) : Int),.int .i64 (R.tr.length : Int),.int .i64 R.why])
   ·exact rfl
   ·exact rfl
   ·exact rfl
   ·exact rfl
   ·repeat constructor
   ·exact .z (LOver.whole rfl)
   repeat' first | apply Wl.nil
   refine Mt.backE (fun w' h' => by first | exact h'.upd.heap K6.pr (fun y => y trivial) | exact h'.upd.heap K6.pr (fun y => y ⟨fun e => by simp only at e;omega,trivial⟩) | exact h'.upd.heap pr7 (fun y => y trivial) | exact h'.upd.heap pr7 (fun y => y ⟨fun e => by simp only at e;omega,trivial⟩)) ?_
   refine Mt.toGt kh ?_
   refine Gt.reb (H' := []) fun w8 h8 => ⟨trivial,trivial,?_⟩
   have u8 : Upd (fun b => b = c10) w7 w8 := Hp.on1 h8 (Upd.refl _ _) rfl
   have z8 := u8.size
   apply Gt.meet (w8,c10,lv',seen',xs',pc',cf')
   ·exact ⟨hM7.upd u8 (fun b hb e => (by have h10 := hM7.offF (b := c10) (t := 35) (hq7.own.at (.head _)) zg;exact h10 b hb e)),U7.comp u8 (fun b _ h => h.elim id fun h => by have := K6.up.size;omega),⟨K6.ge.1,by have := K6.ge.2;simp only;omega⟩,u8.heap pr7 zd,u8.heap st7 zd,u8.heap sr7 zd,h8.own.at (.head _)⟩
   ·repeat constructor
   ·exact fun _ h => h
 have hbo : ∀ z ∈ (begP l).L,StaOk z := K6.mon.ward.2.1
 have hxs : x.s = 0 := by obtain ⟨q,_,rfl⟩ := List.mem_map.1 (List.mem_of_getElem? hx);rfl
 have hw4 : R.why = 1 ∨ R.why = 2 ∨ R.why = 3 ∨ R.why = 4 := by rw [← hR];unfold runO;exact runF_why _ _ _
 have hln : R.why = 1 → R.tr.length = kn := by
  rw [← hR]
  unfold runO
  intro h
  have := (runF_len (E := begE l) (n := (skP l k).L.length) (who := k % l.length) (cf := cfOf (begE l) (k % l.length)) kn ⟨x.xs,x.p,(skP l k).D⟩ []).2.2 h
  simpa using this
 have hLe : (endP (skP l k) (k % l.length) x R).L = (skP l k).L.set (k % l.length) (endS R x) := rfl
 have hxe : (endP (skP l k) (k % l.length) x R).L[k % l.length]? = some (endS R x) := by rw [hLe,List.getElem?_set,if_pos rfl,if_pos (by rw [skP_len];exact hml)]
 clear hR hrun K6 hT hL hsm 
 rintro ⟨w5,c10,lv',seen',xs',pc',cf'⟩ J
 simp only at J ⊢
 have hp05 : w5.cell? ⟨p,0,none⟩ = some (.pointer (some ⟨I.m,0,none⟩)) := cell_of J.pr rfl
 have l85 := lt_of_block J.st
 have ls5 := lt_of_block J.sr
 have l10 := lt_of_block J.ea
 repeat' first | refine Wl.move rfl rfl ?_ | refine Wl.len rfl rfl ?_ | apply Wl.nil | apply St.seq | apply St.block | apply St.region | apply Gt.next
 refine St.loop (σ := Nat) (fun j => j ≤ l.length) (fun j => [(0,.slice a l.length cl),(1,.int .i64 n0),(7,.pointer (some ⟨p,0,none⟩)),(8,.pointer (some ⟨c8,0,none⟩)),(9,.int .i64 ((k % l.length : Nat) : Int)),(10,.pointer (some ⟨c10,0,none⟩)),(74,.int .i64 (l.length : Int)),(75,.int .i64 (j : Int))]) (fun _ => Hp w5 []) (fun j => l.length - j) 0 (Nat.zero_le _) kw (fun _ h => h) ?_
 intro j hj
 by_cases hjl : j < l.length
 ·have hdj : decide ((j : Int) < (l.length : Int)) = true := decide_eq_true zd
  repeat' first | refine Wl.move rfl rfl ?_ | refine Wl.assign rfl rfl ?_ | refine Wl.lss rfl rfl rfl ?_ | apply Wl.nil | apply St.seq | apply St.block | apply St.region | (apply St.condT;exact rfl;exact ka) | apply St.skip | apply Gt.next
  obtain ⟨y,hy⟩ : ∃ y,(begP l).L[j]? = some y := ⟨_,List.getElem?_eq_getElem (by rw [show (begP l).L = (skP l 0).L from rfl,skP_len];exact hjl)⟩
  have hyo := hbo y (List.mem_of_getElem? hy)
  have hyl := hyo.len
  have hys : y.s = 0 := by obtain ⟨q,_,rfl⟩ := List.mem_map.1 (List.mem_of_getElem? hy);rfl
  have hcell : ∀ q v,y.cells[q]? = some v → ((stas (begP l).L).flatten ++ svJ)[0 + ((j : Nat) : Int).toNat * 35 + q]? = some v := fun q v hv => by
   have hq : q < 35 := by rw [← hyl];exact (List.getElem?_eq_some_iff.1 hv).1
   have h := flat_get (k := 35) (L := stas (begP l).L) (fun x hx => by obtain ⟨z,hz,rfl⟩ := List.mem_map.1 hx;exact (hbo z hz).len) (show (stas (begP l).L)[j]? = some y.cells by unfold stas;rw [List.getElem?_map,hy];rfl) hq
   rw [hv] at h
   rw [Int.toNat_natCast,Nat.zero_add,List.getElem?_append_left (List.getElem?_eq_some_iff.1 h).1]
   exact h
  by_cases hjw : j = k % l.length
  ·have hdw : decide ((j : Int) ≠ ((k % l.length : Nat) : Int)) = false := decide_eq_false fun h => h zd
   refine St.tree (fun w' => w'.heap[p]? = some (.cells #[.pointer (some ⟨I.m,0,none⟩),rv] 39 (0,0)) ∧ w'.heap[c8]? = some (.cells ([.int .i64 (turnV ((skP l 0).t)),.slice (some ⟨svb,0,none⟩) l.length svc,.slice ia ((skP l 0).mv pv ev (.slice none 0 0) (.slice none 0 0) [] xz 0 cf).L.length ic,.slice ba ((skP l 0).mv pv ev (.slice none 0 0) (.slice none 0 0) [] xz 0 cf).L.length bc,.slice la ((skP l 0).mv pv ev (.slice none 0 0) (.slice none 0 0) [] xz 0 cf).ll.length lc,.pointer (some ⟨cM4,0,none⟩)] : List Value).toArray 54 (0,0)) ∧ w'.heap[svb]? = some (.cells ((stas (begP l).L).flatten ++ svJ).toArray 44 (0,0))) mixed (fun _ h' => ⟨Hp.drew h',(Hp.drew h').upd.heap J.pr (fun y => y trivial),(Hp.drew h').upd.heap J.st (fun y => y trivial),(Hp.drew h').upd.heap J.sr (fun y => y trivial)⟩) ?_
   refine Mt.pu 0 ?_
   refine Wl.move rfl rfl (Wl.nilB ?_)
   refine Mt.pu 1 ?_
   refine Wl.move rfl rfl (Wl.nilB ?_)
   refine Mt.pu 2 ?_
   refine Wl.neq rfl rfl rfl (Wl.nilB ?_)
   refine Mt.pu 3 ?_
   refine Wl.move rfl rfl (Wl.nilB ?_)
   refine Mt.pu 4 ?_
   repeat' first | (apply Wl.off;exact rfl;exact rfl;exact rfl;exact kg) | apply Wl.nilB
   refine Mt.pu 8 ?_
   repeat' first | (apply Wl.off;exact rfl;exact rfl;exact rfl;exact kg) | apply Wl.nilB
   refine Mt.pu 10 ?_
   repeat' first | (apply Wl.off;exact rfl;exact rfl;exact rfl;exact kg) | apply Wl.nilB
   refine Mt.pu 12 ?_
   repeat' first | (apply Wl.off;exact rfl;exact rfl;exact rfl;exact kg) | apply Wl.nilB
   refine Mt.pu 5 ?_
   repeat' first | (apply Wl.off;exact rfl;exact rfl;exact rfl;exact kg) | apply Wl.nilB
   refine Mt.pu 11 ?_
   repeat' first | (apply Wl.off;exact rfl;exact rfl;exact rfl;exact kg) | apply Wl.nilB
   refine Mt.pu 6 ?_
   repeat' first | (apply Wl.off;exact rfl;exact rfl;exact rfl;exact kg) | apply Wl.nilB
   refine Mt.pu 13 ?_
   repeat' first | (apply Wl.off;exact rfl;exact rfl;exact rfl;exact kg) | apply Wl.nilB
   refine Mt.pu 7 ?_
   repeat' first | (apply Wl.off;exact rfl;exact rfl;exact rfl;exact kg) | apply Wl.nilB
   refine Mt.pu 14 ?_
   repeat' first | (apply Wl.off;exact rfl;exact rfl;exact rfl;exact kg) | apply Wl.nilB
   refine Mt.eff1 (i := 9) kh kz ?_
   repeat' first | (apply Wl.off;exact rfl;exact rfl;exact rfl;exact kg) | apply Wl.nil
   refine Mt.backE (fun _ h' => ⟨h'.upd.heap J.pr (fun y => y trivial),h'.upd.heap J.st (fun y => y trivial),h'.upd.heap J.sr (fun y => y trivial)⟩) ?_
   refine Mt.pu 15 ?_
   repeat' first | (apply Wl.off;exact rfl;exact rfl;exact rfl;exact kg) | apply Wl.nilB
   refine Mt.pu 16 ?_
   repeat' first | (apply Wl.pickF;exact rfl;exact rfl;exact ka;exact rfl) | apply Wl.nilB
   refine Mt.toGt kh ?_
   repeat' first | refine Wl.move rfl rfl ?_ | (refine Wl.addI rfl rfl rfl ?_ ?_;constructor <;> omega) | apply Wl.nil | apply St.region | (apply St.condF;exact rfl;exact ka) | apply St.skip | apply Gt.next | apply Gt.inNormal
   refine Gt.round (j + 1) zd zd kw (fun _ h => h)
  have hdw : decide ((j : Int) ≠ ((k % l.length : Nat) : Int)) = true := decide_eq_true fun h => hjw zd
  have hye : (endP (skP l k) (k % l.length) x R).L[j]? = some y := by rw [hLe,List.getElem?_set_ne (Ne.symm hjw)];exact hy
  refine St.tree (fun w' => w'.heap[p]? = some (.cells #[.pointer (some ⟨I.m,0,none⟩),rv] 39 (0,0)) ∧ w'.heap[c8]? = some (.cells ([.int .i64 (turnV ((skP l 0).t)),.slice (some ⟨svb,0,none⟩) l.length svc,.slice ia ((skP l 0).mv pv ev (.slice none 0 0) (.slice none 0 0) [] xz 0 cf).L.length ic,.slice ba ((skP l 0).mv pv ev (.slice none 0 0) (.slice none 0 0) [] xz 0 cf).L.length bc,.slice la ((skP l 0).mv pv ev (.slice none 0 0) (.slice none 0 0) [] xz 0 cf).ll.length lc,.pointer (some ⟨cM4,0,none⟩)] : List Value).toArray 54 (0,0)) ∧ w'.heap[svb]? = some (.cells ((stas (begP l).L).flatten ++ svJ).toArray 44 (0,0))) mixed (fun _ h' => ⟨Hp.drew h',(Hp.drew h').upd.heap J.pr (fun y => y trivial),(Hp.drew h').upd.heap J.st (fun y => y trivial),(Hp.drew h').upd.heap J.sr (fun y => y trivial)⟩) ?_
  refine Mt.pu 0 ?_
  refine Wl.move rfl rfl (Wl.nilB ?_)
  refine Mt.pu 1 ?_
  refine Wl.move rfl rfl (Wl.nilB ?_)
  refine Mt.pu 2 ?_
  refine Wl.neq rfl rfl rfl (Wl.nilB ?_)
  refine Mt.pu 3 ?_
  refine Wl.move rfl rfl (Wl.nilB ?_)
  refine Mt.pu 4 ?_
  repeat' first | refine Wl.move rfl rfl ?_ | (apply Wl.on;exact rfl;exact rfl;exact ka) | apply Wl.nilB
  refine Mt.pu 8 ?_
  repeat' first | refine Wl.move rfl rfl ?_ | (apply Wl.on;exact rfl;exact rfl;exact ka) | apply Wl.nilB
  refine Mt.pu 10 ?_
  repeat' first | (apply Wl.on;exact rfl;exact rfl;exact ka) | refine Wl.fieldAddrZ rfl rfl ?_ | apply Wl.nilB
  refine Mt.pu 12 ?_
  repeat' first | refine Wl.move rfl rfl ?_ | (apply Wl.on;exact rfl;exact rfl;exact ka) | apply Wl.nilB
  refine Mt.pu 5 ?_
  repeat' first | (apply Wl.on;exact rfl;exact rfl;exact ka) | refine Wl.nilCheck rfl rfl ?_ | apply Wl.nilB
  refine Mt.pu 11 ?_
  repeat' first | (apply Wl.loadF;exact rfl;exact rfl;(intro w' h';first | exact cell_of h'.1 rfl | exact cell_of h'.2.1 rfl)) | (apply Wl.on;exact rfl;exact rfl;exact ka) | apply Wl.nilB
  refine Mt.pu 6 ?_
  repeat' first | (apply Wl.on;exact rfl;exact rfl;exact ka) | refine Wl.fieldAddr0 rfl rfl ?_ | apply Wl.nilB
  refine Mt.pu 13 ?_
  repeat' first | (apply Wl.on;exact rfl;exact rfl;exact ka) | (refine Wl.indexAddr rfl rfl rfl ?_ ?_;constructor <;> omega) | apply Wl.nilB
  refine Mt.pu 7 ?_
  repeat' first | (apply Wl.loadF;exact rfl;exact rfl;(intro w' h';first | exact cell_of h'.1 rfl | exact cell_of h'.2.1 rfl)) | (apply Wl.on;exact rfl;exact rfl;exact ka) | apply Wl.nilB
  refine Mt.pu 14 ?_
  repeat' first | (apply Wl.loadAF (xs := y.cells);exact rfl;exact rfl;exact hyl;(intro w' h' q v hv;rw [addLit];exact cell_of h'.2.2 (hcell q v hv))) | (apply Wl.on;exact rfl;exact rfl;exact ka) | apply Wl.nilB
  refine Mt.eff1 (i := 9) kh kz ?_
  apply Wl.on
  ·exact rfl
  ·exact rfl
  ·first | with_reducible rfl | with_reducible assumption | decide
  apply Wl.callQ
  ·exact rfl
  ·repeat constructor
  ·intro wq hq
   exact hq.q (mStatus base I _ j y wq (J.mon.upd (S := fun _ => False) (hq.upd.mono fun _ _ y => y trivial) fun _ _ y => y) hye)
  repeat' first | apply Wl.nil
  refine Mt.backE (fun _ h' => ⟨h'.upd.heap J.pr (fun y => y trivial),h'.upd.heap J.st (fun y => y trivial),h'.upd.heap J.sr (fun y => y trivial)⟩) ?_
  refine Mt.pu 15 ?_
  repeat' first | (apply Wl.neqSta (s := y) hyo (by rw [hys];decide);exact rfl;exact rfl;exact rfl) | (apply Wl.on;exact rfl;exact rfl;exact ka) | apply Wl.nilB
  refine Mt.pu 16 ?_
  repeat' first | (apply Wl.pickT;exact rfl;exact rfl;exact ka;exact rfl) | apply Wl.nilB
  refine Mt.toGt kh ?_
  repeat' first | refine Wl.move rfl rfl ?_ | (refine Wl.addI rfl rfl rfl ?_ ?_;constructor <;> omega) | apply Wl.nil | apply St.region | (apply St.condF;exact rfl;exact ka) | apply St.skip | apply Gt.next | apply Gt.inNormal
  refine Gt.round (j + 1) zd zd kw (fun _ h => h)
 obtain rfl : j = l.length := by omega
 have hdj : decide ((l.length : Int) < (l.length : Int)) = false := decide_eq_false zd
 repeat' first | (apply Wl.loadO;exact rfl;exact rfl;exact zt;exact kq) | refine Wl.move rfl rfl ?_ | refine Wl.nilCheck rfl rfl ?_ | refine Wl.fieldAddr0 rfl rfl ?_ | refine Wl.lss rfl rfl rfl ?_ | apply Wl.nil | apply St.seq | apply St.region | (apply St.condF;exact rfl;exact ka) | apply St.exit | apply Gt.next | apply Gt.thenExit | apply Gt.inExit
 have hxo : StaOk (endS R x) := J.mon.ward.2.1 _ (List.mem_of_getElem? hxe)
 have hxl : (endS R x).cells.length = 35 := hxo.len
 have hx1 := hxo.one
 apply Wl.callQ
 exact rfl
 (focus repeat constructor)
 ·intro wq hq
  exact hq.q (mStatus base I _ (k % l.length) (endS R x) wq (J.mon.upd (S := fun _ => False) (hq.upd.mono fun _ _ y => y trivial) fun _ _ y => y) hxe)
 repeat' first | (apply Wl.storeA (xs := (endS R x).cells);exact rfl;exact rfl;exact hxl;exact hx1;exact ke;exact .z (LOver.whole (by rw [hxl];rfl))) | (apply Wl.alloc;exact rfl;intro c hc ho) | apply Wl.nil | apply St.seq | apply Gt.next
 generalize c = c12 at *
 have hc12 : w5.heap.size ≤ c12 := by assumption
 have hse : (endS R x).cells[0]? = some (.int .i64 (if R.why = 4 then 2 else if R.why = 3 then 1 else x.s)) := rfl
 rw [hxs] at hse
 have ea := J.ea
 rcases hw4 with h1 | h1 | h1 | h1
 ·rw [h1,hln h1] at ea
  rw [h1] at hse
  replace hse : (endS R x).cells[0]? = some (.int .i64 0) := hse
  refine St.tree (fun w' => w'.heap[c10]? = some (.cells ([.int .i64 ((k % l.length : Nat) : Int),.int .i64 (kn : Int),.int .i64 1] : List Value).toArray 35 (0,0)) ∧ w'.heap[c12]? = some (.cells (endS R x).cells.toArray 44 (0,0))) mixed (fun _ h' => ⟨Hp.drew h',(Hp.drew h').upd.heap ea (fun y => y ⟨fun e => by simp only at e;omega,trivial⟩),(Hp.drew h').own.at (.head _)⟩) ?_
  refine Mt.pu 0 ?_
  refine Wl.fieldAddr0 rfl rfl (Wl.nilB ?_)
  refine Mt.pu 2 ?_
  refine Wl.move rfl rfl (Wl.nilB ?_)
  refine Mt.pu 1 ?_
  repeat' first | (apply Wl.loadF;exact rfl;exact rfl;(intro w' h';first | exact cell_of h'.1 rfl | exact cell_of h'.2 hse)) | apply Wl.nilB
  refine Mt.pu 3 ?_
  repeat' first | (apply Wl.eqlIs;exact rfl;exact rfl;exact rfl;exact kv) | apply Wl.nilB
  refine Mt.pu 4 ?_
  refine Wl.move rfl rfl (Wl.nilB ?_)
  refine Mt.pu 5 ?_
  repeat' first | (apply Wl.on;exact rfl;exact rfl;exact ka) | refine Wl.fieldAddrZ rfl rfl ?_ | apply Wl.nilB
  refine Mt.pu 8 ?_
  repeat' first | (apply Wl.on;exact rfl;exact rfl;exact ka) | refine Wl.fieldAddr0 rfl rfl ?_ | apply Wl.nilB
  refine Mt.pu 6 ?_
  repeat' first | (apply Wl.loadF;exact rfl;exact rfl;(intro w' h';first | exact cell_of h'.1 rfl | exact cell_of h'.2 hse)) | (apply Wl.on;exact rfl;exact rfl;exact ka) | apply Wl.nilB
  refine Mt.pu 9 ?_
  repeat' first | (apply Wl.loadF;exact rfl;exact rfl;(intro w' h';first | exact cell_of h'.1 rfl | exact cell_of h'.2 hse)) | (apply Wl.on;exact rfl;exact rfl;exact ka) | apply Wl.nilB
  refine Mt.pu 7 ?_
  repeat' first | (apply Wl.on;exact rfl;exact rfl;exact ka) | refine Wl.eql rfl rfl rfl ?_ | apply Wl.nilB
  refine Mt.pu 10 ?_
  repeat' first | (apply Wl.on;exact rfl;exact rfl;exact ka) | refine Wl.eql rfl rfl rfl ?_ | apply Wl.nilB
  refine Mt.pu 11 ?_
  repeat' first | (apply Wl.on;exact rfl;exact rfl;exact ka) | refine Wl.eqlB rfl rfl rfl ?_ | apply Wl.nilB
  refine Mt.pu 12 ?_
  repeat' first | (apply Wl.pickT;exact rfl;exact rfl;exact ka;exact rfl) | apply Wl.nilB
  refine Mt.pu 13 ?_
  refine Wl.move rfl rfl (Wl.nilB ?_)
  refine Mt.pu 14 ?_
  repeat' first | (apply Wl.on;exact rfl;exact rfl;exact ka) | refine Wl.fieldAddrZ rfl rfl ?_ | apply Wl.nilB
  refine Mt.pu 17 ?_
  repeat' first | (apply Wl.on;exact rfl;exact rfl;exact ka) | refine Wl.fieldAddr0 rfl rfl ?_ | apply Wl.nilB
  refine Mt.pu 15 ?_
  repeat' first | (apply Wl.loadF;exact rfl;exact rfl;(intro w' h';first | exact cell_of h'.1 rfl | exact cell_of h'.2 hse)) | (apply Wl.on;exact rfl;exact rfl;exact ka) | apply Wl.nilB
  refine Mt.pu 18 ?_
  repeat' first | (apply Wl.loadF;exact rfl;exact rfl;(intro w' h';first | exact cell_of h'.1 rfl | exact cell_of h'.2 hse)) | (apply Wl.on;exact rfl;exact rfl;exact ka) | apply Wl.nilB
  refine Mt.pu 16 ?_
  repeat' first | (apply Wl.on;exact rfl;exact rfl;exact ka) | refine Wl.eql rfl rfl rfl ?_ | apply Wl.nilB
  refine Mt.pu 19 ?_
  repeat' first | (apply Wl.on;exact rfl;exact rfl;exact ka) | refine Wl.eql rfl rfl rfl ?_ | apply Wl.nilB
  refine Mt.pu 20 ?_
  repeat' first | (apply Wl.on;exact rfl;exact rfl;exact ka) | refine Wl.eqlB rfl rfl rfl ?_ | apply Wl.nilB
  refine Mt.pu 21 ?_
  repeat' first | (apply Wl.pickT;exact rfl;exact rfl;exact ka;exact rfl) | apply Wl.nilB
  refine Mt.pu 22 ?_
  refine Wl.move rfl rfl (Wl.nilB ?_)
  refine Mt.pu 23 ?_
  repeat' first | (apply Wl.on;exact rfl;exact rfl;exact ka) | refine Wl.fieldAddrZ rfl rfl ?_ | apply Wl.nilB
  refine Mt.pu 24 ?_
  repeat' first | (apply Wl.loadF;exact rfl;exact rfl;(intro w' h';first | exact cell_of h'.1 rfl | exact cell_of h'.2 hse)) | (apply Wl.on;exact rfl;exact rfl;exact ka) | apply Wl.nilB
  refine Mt.pu 25 ?_
  repeat' first | (apply Wl.on;exact rfl;exact rfl;exact ka) | (apply Wl.neqIs;exact rfl;exact rfl;exact rfl;exact kv) | apply Wl.nilB
  refine Mt.pu 26 ?_
  repeat' first | refine Wl.move rfl rfl ?_ | (apply Wl.on;exact rfl;exact rfl;exact ka) | apply Wl.nilB
  refine Mt.pu 27 ?_
  repeat' first | (apply Wl.on;exact rfl;exact rfl;exact ka) | refine Wl.fieldAddrZ rfl rfl ?_ | apply Wl.nilB
  refine Mt.pu 29 ?_
  repeat' first | refine Wl.move rfl rfl ?_ | (apply Wl.on;exact rfl;exact rfl;exact ka) | apply Wl.nilB
  refine Mt.pu 28 ?_
  repeat' first | (apply Wl.loadF;exact rfl;exact rfl;(intro w' h';first | exact cell_of h'.1 rfl | exact cell_of h'.2 hse)) | (apply Wl.on;exact rfl;exact rfl;exact ka) | apply Wl.nilB
  refine Mt.eff1 (i := 30) kh kz ?_
  apply Wl.on
  ·exact rfl
  ·exact rfl
  ·first | with_reducible rfl | with_reducible assumption | decide
  apply Wl.callQ
  ·exact rfl
  ·repeat constructor
  ·intro wq hq
   exact hq.q (hstep wq)
  repeat' first | apply Wl.nil
  refine Mt.backE (fun _ h' => ⟨h'.upd.heap ea (fun y => y ⟨fun e => by simp only at e;omega,trivial⟩),h'.own.at (.head _)⟩) ?_
  refine Mt.pu 31 ?_
  repeat' first | (apply Wl.on;exact rfl;exact rfl;exact ka) | (apply Wl.eqlIs;exact rfl;exact rfl;exact rfl;exact kv) | apply Wl.nilB
  refine Mt.pu 32 ?_
  repeat' first | (apply Wl.on;exact rfl;exact rfl;exact ka) | (apply Wl.pickF;exact rfl;exact rfl;exact ka;exact rfl) | apply Wl.nilB
  refine Mt.pu 33 ?_
  repeat' first | (apply Wl.pickT;exact rfl;exact rfl;exact ka;exact rfl) | apply Wl.nilB
  refine Mt.pu 34 ?_
  refine Wl.assign rfl rfl (Wl.nilB ?_)
  refine Mt.toGt kh ?_
  repeat' first | apply St.ret | apply Gt.next | (apply Gt.out1;exact rfl;exact rfl;intro w' hp)
  exact ⟨rfl,Hp.on1 hp J.up j6⟩
 ·rw [h1] at ea
  rw [h1] at hse
  replace hse : (endS R x).cells[0]? = some (.int .i64 0) := hse
  refine St.tree (fun w' => w'.heap[c10]? = some (.cells ([.int .i64 ((k % l.length : Nat) : Int),.int .i64 (R.tr.length : Int),.int .i64 2] : List Value).toArray 35 (0,0)) ∧ w'.heap[c12]? = some (.cells (endS R x).cells.toArray 44 (0,0))) mixed (fun _ h' => ⟨Hp.drew h',(Hp.drew h').upd.heap ea (fun y => y ⟨fun e => by simp only at e;omega,trivial⟩),(Hp.drew h').own.at (.head _)⟩) ?_
  refine Mt.pu 0 ?_
  refine Wl.fieldAddr0 rfl rfl (Wl.nilB ?_)
  refine Mt.pu 2 ?_
  refine Wl.move rfl rfl (Wl.nilB ?_)
  refine Mt.pu 1 ?_
  repeat' first | (apply Wl.loadF;exact rfl;exact rfl;(intro w' h';first | exact cell_of h'.1 rfl | exact cell_of h'.2 hse)) | apply Wl.nilB
  refine Mt.pu 3 ?_
  repeat' first | (apply Wl.eqlIs;exact rfl;exact rfl;exact rfl;exact kv) | apply Wl.nilB
  refine Mt.pu 4 ?_
  refine Wl.move rfl rfl (Wl.nilB ?_)
  refine Mt.pu 5 ?_
  repeat' first | (apply Wl.on;exact rfl;exact rfl;exact ka) | refine Wl.fieldAddrZ rfl rfl ?_ | apply Wl.nilB
  refine Mt.pu 8 ?_
  repeat' first | (apply Wl.on;exact rfl;exact rfl;exact ka) | refine Wl.fieldAddr0 rfl rfl ?_ | apply Wl.nilB
  refine Mt.pu 6 ?_
  repeat' first | (apply Wl.loadF;exact rfl;exact rfl;(intro w' h';first | exact cell_of h'.1 rfl | exact cell_of h'.2 hse)) | (apply Wl.on;exact rfl;exact rfl;exact ka) | apply Wl.nilB
  refine Mt.pu 9 ?_
  repeat' first | (apply Wl.loadF;exact rfl;exact rfl;(intro w' h';first | exact cell_of h'.1 rfl | exact cell_of h'.2 hse)) | (apply Wl.on;exact rfl;exact rfl;exact ka) | apply Wl.nilB
  refine Mt.pu 7 ?_
  repeat' first | (apply Wl.on;exact rfl;exact rfl;exact ka) | refine Wl.eql rfl rfl rfl ?_ | apply Wl.nilB
  refine Mt.pu 10 ?_
  repeat' first | (apply Wl.on;exact rfl;exact rfl;exact ka) | refine Wl.eql rfl rfl rfl ?_ | apply Wl.nilB
  refine Mt.pu 11 ?_
  repeat' first | (apply Wl.on;exact rfl;exact rfl;exact ka) | refine Wl.eqlB rfl rfl rfl ?_ | apply Wl.nilB
  refine Mt.pu 12 ?_
  repeat' first | (apply Wl.pickT;exact rfl;exact rfl;exact ka;exact rfl) | apply Wl.nilB
  refine Mt.pu 13 ?_
  refine Wl.move rfl rfl (Wl.nilB ?_)
  refine Mt.pu 14 ?_
  repeat' first | (apply Wl.on;exact rfl;exact rfl;exact ka) | refine Wl.fieldAddrZ rfl rfl ?_ | apply Wl.nilB
  refine Mt.pu 17 ?_
  repeat' first | (apply Wl.on;exact rfl;exact rfl;exact ka) | refine Wl.fieldAddr0 rfl rfl ?_ | apply Wl.nilB
  refine Mt.pu 15 ?_
  repeat' first | (apply Wl.loadF;exact rfl;exact rfl;(intro w' h';first | exact cell_of h'.1 rfl | exact cell_of h'.2 hse)) | (apply Wl.on;exact rfl;exact rfl;exact ka) | apply Wl.nilB
  refine Mt.pu 18 ?_
  repeat' first | (apply Wl.loadF;exact rfl;exact rfl;(intro w' h';first | exact cell_of h'.1 rfl | exact cell_of h'.2 hse)) | (apply Wl.on;exact rfl;exact rfl;exact ka) | apply Wl.nilB
  refine Mt.pu 16 ?_
  repeat' first | (apply Wl.on;exact rfl;exact rfl;exact ka) | refine Wl.eql rfl rfl rfl ?_ | apply Wl.nilB
  refine Mt.pu 19 ?_
  repeat' first | (apply Wl.on;exact rfl;exact rfl;exact ka) | refine Wl.eql rfl rfl rfl ?_ | apply Wl.nilB
  refine Mt.pu 20 ?_
  repeat' first | (apply Wl.on;exact rfl;exact rfl;exact ka) | refine Wl.eqlB rfl rfl rfl ?_ | apply Wl.nilB
  refine Mt.pu 21 ?_
  repeat' first | (apply Wl.pickT;exact rfl;exact rfl;exact ka;exact rfl) | apply Wl.nilB
  refine Mt.pu 22 ?_
  refine Wl.move rfl rfl (Wl.nilB ?_)
  refine Mt.pu 23 ?_
  repeat' first | (apply Wl.on;exact rfl;exact rfl;exact ka) | refine Wl.fieldAddrZ rfl rfl ?_ | apply Wl.nilB
  refine Mt.pu 24 ?_
  repeat' first | (apply Wl.loadF;exact rfl;exact rfl;(intro w' h';first | exact cell_of h'.1 rfl | exact cell_of h'.2 hse)) | (apply Wl.on;exact rfl;exact rfl;exact ka) | apply Wl.nilB
  refine Mt.pu 25 ?_
  repeat' first | (apply Wl.on;exact rfl;exact rfl;exact ka) | refine Wl.neq rfl rfl rfl ?_ | apply Wl.nilB
  refine Mt.pu 26 ?_
  repeat' first | refine Wl.move rfl rfl ?_ | (apply Wl.on;exact rfl;exact rfl;exact ka) | apply Wl.nilB
  refine Mt.pu 27 ?_
  repeat' first | (apply Wl.off;exact rfl;exact rfl;exact rfl;exact kg) | apply Wl.nilB
  refine Mt.pu 29 ?_
  repeat' first | (apply Wl.off;exact rfl;exact rfl;exact rfl;exact kg) | apply Wl.nilB
  refine Mt.pu 28 ?_
  repeat' first | (apply Wl.off;exact rfl;exact rfl;exact rfl;exact kg) | apply Wl.nilB
  refine Mt.eff1 (i := 30) kh kz ?_
  repeat' first | (apply Wl.off;exact rfl;exact rfl;exact rfl;exact kg) | apply Wl.nil
  refine Mt.backE (fun _ h' => ⟨h'.upd.heap ea (fun y => y ⟨fun e => by simp only at e;omega,trivial⟩),h'.own.at (.head _)⟩) ?_
  refine Mt.pu 31 ?_
  repeat' first | (apply Wl.off;exact rfl;exact rfl;exact rfl;exact kg) | apply Wl.nilB
  refine Mt.pu 32 ?_
  repeat' first | (apply Wl.on;exact rfl;exact rfl;exact ka) | (apply Wl.pickT;exact rfl;exact rfl;exact ka;exact rfl) | apply Wl.nilB
  refine Mt.pu 33 ?_
  repeat' first | (apply Wl.pickT;exact rfl;exact rfl;exact ka;exact rfl) | apply Wl.nilB
  refine Mt.pu 34 ?_
  refine Wl.assign rfl rfl (Wl.nilB ?_)
  refine Mt.toGt kh ?_
  repeat' first | apply St.ret | apply Gt.next | (apply Gt.out1;exact rfl;exact rfl;intro w' hp)
  exact ⟨rfl,Hp.on1 hp J.up j6⟩
 ·rw [h1] at ea
  rw [h1] at hse
  replace hse : (endS R x).cells[0]? = some (.int .i64 1) := hse
  refine St.tree (fun w' => w'.heap[c10]? = some (.cells ([.int .i64 ((k % l.length : Nat) : Int),.int .i64 (R.tr.length : Int),.int .i64 3] : List Value).toArray 35 (0,0)) ∧ w'.heap[c12]? = some (.cells (endS R x).cells.toArray 44 (0,0))) mixed (fun _ h' => ⟨Hp.drew h',(Hp.drew h').upd.heap ea (fun y => y ⟨fun e => by simp only at e;omega,trivial⟩),(Hp.drew h').own.at (.head _)⟩) ?_
  refine Mt.pu 0 ?_
  refine Wl.fieldAddr0 rfl rfl (Wl.nilB ?_)
  refine Mt.pu 2 ?_
  refine Wl.move rfl rfl (Wl.nilB ?_)
  refine Mt.pu 1 ?_
  repeat' first | (apply Wl.loadF;exact rfl;exact rfl;(intro w' h';first | exact cell_of h'.1 rfl | exact cell_of h'.2 hse)) | apply Wl.nilB
  refine Mt.pu 3 ?_
  repeat' first | (apply Wl.eqlIs;exact rfl;exact rfl;exact rfl;exact kv) | apply Wl.nilB
  refine Mt.pu 4 ?_
  refine Wl.move rfl rfl (Wl.nilB ?_)
  refine Mt.pu 5 ?_
  repeat' first | (apply Wl.on;exact rfl;exact rfl;exact ka) | refine Wl.fieldAddrZ rfl rfl ?_ | apply Wl.nilB
  refine Mt.pu 8 ?_
  repeat' first | (apply Wl.on;exact rfl;exact rfl;exact ka) | refine Wl.fieldAddr0 rfl rfl ?_ | apply Wl.nilB
  refine Mt.pu 6 ?_
  repeat' first | (apply Wl.loadF;exact rfl;exact rfl;(intro w' h';first | exact cell_of h'.1 rfl | exact cell_of h'.2 hse)) | (apply Wl.on;exact rfl;exact rfl;exact ka) | apply Wl.nilB
  refine Mt.pu 9 ?_
  repeat' first | (apply Wl.loadF;exact rfl;exact rfl;(intro w' h';first | exact cell_of h'.1 rfl | exact cell_of h'.2 hse)) | (apply Wl.on;exact rfl;exact rfl;exact ka) | apply Wl.nilB
  refine Mt.pu 7 ?_
  repeat' first | (apply Wl.on;exact rfl;exact rfl;exact ka) | refine Wl.eql rfl rfl rfl ?_ | apply Wl.nilB
  refine Mt.pu 10 ?_
  repeat' first | (apply Wl.on;exact rfl;exact rfl;exact ka) | refine Wl.eql rfl rfl rfl ?_ | apply Wl.nilB
  refine Mt.pu 11 ?_
  repeat' first | (apply Wl.on;exact rfl;exact rfl;exact ka) | refine Wl.eqlB rfl rfl rfl ?_ | apply Wl.nilB
  refine Mt.pu 12 ?_
  repeat' first | (apply Wl.pickT;exact rfl;exact rfl;exact ka;exact rfl) | apply Wl.nilB
  refine Mt.pu 13 ?_
  refine Wl.move rfl rfl (Wl.nilB ?_)
  refine Mt.pu 14 ?_
  repeat' first | (apply Wl.on;exact rfl;exact rfl;exact ka) | refine Wl.fieldAddrZ rfl rfl ?_ | apply Wl.nilB
  refine Mt.pu 17 ?_
  repeat' first | (apply Wl.on;exact rfl;exact rfl;exact ka) | refine Wl.fieldAddr0 rfl rfl ?_ | apply Wl.nilB
  refine Mt.pu 15 ?_
  repeat' first | (apply Wl.loadF;exact rfl;exact rfl;(intro w' h';first | exact cell_of h'.1 rfl | exact cell_of h'.2 hse)) | (apply Wl.on;exact rfl;exact rfl;exact ka) | apply Wl.nilB
  refine Mt.pu 18 ?_
  repeat' first | (apply Wl.loadF;exact rfl;exact rfl;(intro w' h';first | exact cell_of h'.1 rfl | exact cell_of h'.2 hse)) | (apply Wl.on;exact rfl;exact rfl;exact ka) | apply Wl.nilB
  refine Mt.pu 16 ?_
  repeat' first | (apply Wl.on;exact rfl;exact rfl;exact ka) | (apply Wl.eqlIs;exact rfl;exact rfl;exact rfl;exact kv) | apply Wl.nilB
  refine Mt.pu 19 ?_
  repeat' first | (apply Wl.on;exact rfl;exact rfl;exact ka) | (apply Wl.eqlIs;exact rfl;exact rfl;exact rfl;exact kv) | apply Wl.nilB
  refine Mt.pu 20 ?_
  repeat' first | (apply Wl.on;exact rfl;exact rfl;exact ka) | (apply Wl.eqlBs;exact rfl;exact rfl;exact rfl;exact kv) | apply Wl.nilB
  refine Mt.pu 21 ?_
  repeat' first | (apply Wl.pickT;exact rfl;exact rfl;exact ka;exact rfl) | apply Wl.nilB
  refine Mt.pu 22 ?_
  refine Wl.move rfl rfl (Wl.nilB ?_)
  refine Mt.pu 23 ?_
  repeat' first | (apply Wl.on;exact rfl;exact rfl;exact ka) | refine Wl.fieldAddrZ rfl rfl ?_ | apply Wl.nilB
  refine Mt.pu 24 ?_
  repeat' first | (apply Wl.loadF;exact rfl;exact rfl;(intro w' h';first | exact cell_of h'.1 rfl | exact cell_of h'.2 hse)) | (apply Wl.on;exact rfl;exact rfl;exact ka) | apply Wl.nilB
  refine Mt.pu 25 ?_
  repeat' first | (apply Wl.on;exact rfl;exact rfl;exact ka) | refine Wl.neq rfl rfl rfl ?_ | apply Wl.nilB
  refine Mt.pu 26 ?_
  repeat' first | refine Wl.move rfl rfl ?_ | (apply Wl.on;exact rfl;exact rfl;exact ka) | apply Wl.nilB
  refine Mt.pu 27 ?_
  repeat' first | (apply Wl.off;exact rfl;exact rfl;exact rfl;exact kg) | apply Wl.nilB
  refine Mt.pu 29 ?_
  repeat' first | (apply Wl.off;exact rfl;exact rfl;exact rfl;exact kg) | apply Wl.nilB
  refine Mt.pu 28 ?_
  repeat' first | (apply Wl.off;exact rfl;exact rfl;exact rfl;exact kg) | apply Wl.nilB
  refine Mt.eff1 (i := 30) kh kz ?_
  repeat' first | (apply Wl.off;exact rfl;exact rfl;exact rfl;exact kg) | apply Wl.nil
  refine Mt.backE (fun _ h' => ⟨h'.upd.heap ea (fun y => y ⟨fun e => by simp only at e;omega,trivial⟩),h'.own.at (.head _)⟩) ?_
  refine Mt.pu 31 ?_
  repeat' first | (apply Wl.off;exact rfl;exact rfl;exact rfl;exact kg) | apply Wl.nilB
  refine Mt.pu 32 ?_
  repeat' first | (apply Wl.on;exact rfl;exact rfl;exact ka) | (apply Wl.pickT;exact rfl;exact rfl;exact ka;exact rfl) | apply Wl.nilB
  refine Mt.pu 33 ?_
  repeat' first | (apply Wl.pickT;exact rfl;exact rfl;exact ka;exact rfl) | apply Wl.nilB
  refine Mt.pu 34 ?_
  refine Wl.assign rfl rfl (Wl.nilB ?_)
  refine Mt.toGt kh ?_
  repeat' first | apply St.ret | apply Gt.next | (apply Gt.out1;exact rfl;exact rfl;intro w' hp)
  exact ⟨rfl,Hp.on1 hp J.up j6⟩
 ·rw [h1] at ea
  rw [h1] at hse
  replace hse : (endS R x).cells[0]? = some (.int .i64 2) := hse
  refine St.tree (fun w' => w'.heap[c10]? = some (.cells ([.int .i64 ((k % l.length : Nat) : Int),.int .i64 (R.tr.length : Int),.int .i64 4] : List Value).toArray 35 (0,0)) ∧ w'.heap[c12]? = some (.cells (endS R x).cells.toArray 44 (0,0))) mixed (fun _ h' => ⟨Hp.drew h',(Hp.drew h').upd.heap ea (fun y => y ⟨fun e => by simp only at e;omega,trivial⟩),(Hp.drew h').own.at (.head _)⟩) ?_
  refine Mt.pu 0 ?_
  refine Wl.fieldAddr0 rfl rfl (Wl.nilB ?_)
  refine Mt.pu 2 ?_
  refine Wl.move rfl rfl (Wl.nilB ?_)
  refine Mt.pu 1 ?_
  repeat' first | (apply Wl.loadF;exact rfl;exact rfl;(intro w' h';first | exact cell_of h'.1 rfl | exact cell_of h'.2 hse)) | apply Wl.nilB
  refine Mt.pu 3 ?_
  repeat' first | (apply Wl.eqlIs;exact rfl;exact rfl;exact rfl;exact kv) | apply Wl.nilB
  refine Mt.pu 4 ?_
  refine Wl.move rfl rfl (Wl.nilB ?_)
  refine Mt.pu 5 ?_
  repeat' first | (apply Wl.on;exact rfl;exact rfl;exact ka) | refine Wl.fieldAddrZ rfl rfl ?_ | apply Wl.nilB
  refine Mt.pu 8 ?_
  repeat' first | (apply Wl.on;exact rfl;exact rfl;exact ka) | refine Wl.fieldAddr0 rfl rfl ?_ | apply Wl.nilB
  refine Mt.pu 6 ?_
  repeat' first | (apply Wl.loadF;exact rfl;exact rfl;(intro w' h';first | exact cell_of h'.1 rfl | exact cell_of h'.2 hse)) | (apply Wl.on;exact rfl;exact rfl;exact ka) | apply Wl.nilB
  refine Mt.pu 9 ?_
  repeat' first | (apply Wl.loadF;exact rfl;exact rfl;(intro w' h';first | exact cell_of h'.1 rfl | exact cell_of h'.2 hse)) | (apply Wl.on;exact rfl;exact rfl;exact ka) | apply Wl.nilB
  refine Mt.pu 7 ?_
  repeat' first | (apply Wl.on;exact rfl;exact rfl;exact ka) | (apply Wl.eqlIs;exact rfl;exact rfl;exact rfl;exact kv) | apply Wl.nilB
  refine Mt.pu 10 ?_
  repeat' first | (apply Wl.on;exact rfl;exact rfl;exact ka) | (apply Wl.eqlIs;exact rfl;exact rfl;exact rfl;exact kv) | apply Wl.nilB
  refine Mt.pu 11 ?_
  repeat' first | (apply Wl.on;exact rfl;exact rfl;exact ka) | (apply Wl.eqlBs;exact rfl;exact rfl;exact rfl;exact kv) | apply Wl.nilB
  refine Mt.pu 12 ?_
  repeat' first | (apply Wl.pickT;exact rfl;exact rfl;exact ka;exact rfl) | apply Wl.nilB
  refine Mt.pu 13 ?_
  refine Wl.move rfl rfl (Wl.nilB ?_)
  refine Mt.pu 14 ?_
  repeat' first | (apply Wl.on;exact rfl;exact rfl;exact ka) | refine Wl.fieldAddrZ rfl rfl ?_ | apply Wl.nilB
  refine Mt.pu 17 ?_
  repeat' first | (apply Wl.on;exact rfl;exact rfl;exact ka) | refine Wl.fieldAddr0 rfl rfl ?_ | apply Wl.nilB
  refine Mt.pu 15 ?_
  repeat' first | (apply Wl.loadF;exact rfl;exact rfl;(intro w' h';first | exact cell_of h'.1 rfl | exact cell_of h'.2 hse)) | (apply Wl.on;exact rfl;exact rfl;exact ka) | apply Wl.nilB
  refine Mt.pu 18 ?_
  repeat' first | (apply Wl.loadF;exact rfl;exact rfl;(intro w' h';first | exact cell_of h'.1 rfl | exact cell_of h'.2 hse)) | (apply Wl.on;exact rfl;exact rfl;exact ka) | apply Wl.nilB
  refine Mt.pu 16 ?_
  repeat' first | (apply Wl.on;exact rfl;exact rfl;exact ka) | refine Wl.eql rfl rfl rfl ?_ | apply Wl.nilB
  refine Mt.pu 19 ?_
  repeat' first | (apply Wl.on;exact rfl;exact rfl;exact ka) | refine Wl.eql rfl rfl rfl ?_ | apply Wl.nilB
  refine Mt.pu 20 ?_
  repeat' first | (apply Wl.on;exact rfl;exact rfl;exact ka) | refine Wl.eqlB rfl rfl rfl ?_ | apply Wl.nilB
  refine Mt.pu 21 ?_
  repeat' first | (apply Wl.pickT;exact rfl;exact rfl;exact ka;exact rfl) | apply Wl.nilB
  refine Mt.pu 22 ?_
  refine Wl.move rfl rfl (Wl.nilB ?_)
  refine Mt.pu 23 ?_
  repeat' first | (apply Wl.on;exact rfl;exact rfl;exact ka) | refine Wl.fieldAddrZ rfl rfl ?_ | apply Wl.nilB
  refine Mt.pu 24 ?_
  repeat' first | (apply Wl.loadF;exact rfl;exact rfl;(intro w' h';first | exact cell_of h'.1 rfl | exact cell_of h'.2 hse)) | (apply Wl.on;exact rfl;exact rfl;exact ka) | apply Wl.nilB
  refine Mt.pu 25 ?_
  repeat' first | (apply Wl.on;exact rfl;exact rfl;exact ka) | refine Wl.neq rfl rfl rfl ?_ | apply Wl.nilB
  refine Mt.pu 26 ?_
  repeat' first | refine Wl.move rfl rfl ?_ | (apply Wl.on;exact rfl;exact rfl;exact ka) | apply Wl.nilB
  refine Mt.pu 27 ?_
  repeat' first | (apply Wl.off;exact rfl;exact rfl;exact rfl;exact kg) | apply Wl.nilB
  refine Mt.pu 29 ?_
  repeat' first | (apply Wl.off;exact rfl;exact rfl;exact rfl;exact kg) | apply Wl.nilB
  refine Mt.pu 28 ?_
  repeat' first | (apply Wl.off;exact rfl;exact rfl;exact rfl;exact kg) | apply Wl.nilB
  refine Mt.eff1 (i := 30) kh kz ?_
  repeat' first | (apply Wl.off;exact rfl;exact rfl;exact rfl;exact kg) | apply Wl.nil
  refine Mt.backE (fun _ h' => ⟨h'.upd.heap ea (fun y => y ⟨fun e => by simp only at e;omega,trivial⟩),h'.own.at (.head _)⟩) ?_
  refine Mt.pu 31 ?_
  repeat' first | (apply Wl.off;exact rfl;exact rfl;exact rfl;exact kg) | apply Wl.nilB
  refine Mt.pu 32 ?_
  repeat' first | (apply Wl.on;exact rfl;exact rfl;exact ka) | (apply Wl.pickT;exact rfl;exact rfl;exact ka;exact rfl) | apply Wl.nilB
  refine Mt.pu 33 ?_
  repeat' first | (apply Wl.pickT;exact rfl;exact rfl;exact ka;exact rfl) | apply Wl.nilB
  refine Mt.pu 34 ?_
  refine Wl.assign rfl rfl (Wl.nilB ?_)
  refine Mt.toGt kh ?_
  repeat' first | apply St.ret | apply Gt.next | (apply Gt.out1;exact rfl;exact rfl;intro w' hp)
  exact ⟨rfl,Hp.on1 hp J.up j6⟩
end Go.Proofs.YtabbklpalbikdaaGreatDoor
end
section
namespace Go.Proofs.YtabbklpalbikdaaGreatDoor
open Go.RowKit Go.Pt Go.ChangeShapes Go.WideShapes Go.ChangeAt
def laid1 {H : Type} : List (String × DataW H) := [("math/bits.deBruijn32tab", Rows.laid_math_bits_deBruijn32tab)]
theorem laid1_eq : (Rows.laid_math_bits_deBruijn32tab : DataW Unit) = .agg (tabL.map fun (n : Int) => .lit (.int .u8 n)) := by kernel_rfl
theorem tabLaid {W : World} (h : laidMetH Tryz.prog laid1 W) : tabOk W := by
 intro r hr
 rw [MakeChecks.laidMetH_plain _ _ _ ki] at h
 obtain ⟨ps,⟨g,t,cs,fuel,p,q,hg,ht,hv,hd,_,_⟩,_,_⟩ := h
 obtain rfl := Option.some.inj ((show Tryz.prog.globalNamed "math/bits.deBruijn32tab" = some 0 by kernel_rfl).symm.trans hg)
 obtain rfl := Option.some.inj ((show (Tryz.prog.globals[0]?).map (·.type) = some 107 by kernel_rfl).symm.trans ht)
 rw [laid1_eq] at hd
 obtain ⟨xs,m,_,ex,_,hl,hel⟩ := DataW.trod_array Tryz.underlying107 hd
 have c5 : Tryz.prog.cellsOf 5 = 1 := by kernel_rfl
 have hE := hel r hr
 rw [c5,Nat.mul_one,List.getElem?_eq_getElem zd] at hE
 obtain ⟨z,e1,e2,_⟩ := DataW.trod_int Tryz.underlying5 hE
 have hlen : tabL.length = 32 := rfl
 have e3 : (xs.map (·.1)) = tabL.map fun (n : Int) => .lit (.int .u8 n) := (DataW.agg.inj (Prod.mk.inj ex).1).symm
 have e4 : (xs.map (·.1))[r]? = (tabL.map fun (n : Int) => (DataW.lit (.int .u8 n) : DataW Unit))[r]? := by rw [e3]
 rw [List.getElem?_map,List.getElem?_map,List.getElem?_eq_getElem (by omega : r < xs.length),List.getElem?_eq_getElem (by omega : r < tabL.length),e2] at e4
 have hz : z = tabL[r]'(by omega) := by
  simp only [Option.map_some,Option.some.injEq,DataW.lit.injEq,Lit.int.injEq,true_and] at e4
  exact e4
 refine ⟨tabL[r]'(by omega),List.getElem?_eq_getElem _,?_,?_⟩
 ·have : ∀ x ∈ tabL,(0 : Int) ≤ x ∧ x ≤ 31 := by decide
  exact this _ (List.getElem_mem _)
 ·rw [World.var?_cell hg hv r,← hz]
  have h0 : ((cs.toList.drop r).take 1)[0]? = some (.int .u8 z) := by rw [e1];rfl
  simpa using h0
end Go.Proofs.YtabbklpalbikdaaGreatDoor
end
