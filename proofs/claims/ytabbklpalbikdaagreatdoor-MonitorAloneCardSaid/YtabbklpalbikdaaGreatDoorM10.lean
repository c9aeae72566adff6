/-
 2 texts,one behind the other;each says what it proves. Conditions: as each text says.
-/
import Derived.Test.YtabbklpalbikdaaGreatDoorM09
import Derived.Test.YtabbklpalbikdaaGreatDoorM02
import Derived.Test.YtabbklpalbikdaaGreatDoorRows
import Derived.WalkKit
import Derived.ProofKit
import Derived.LaidMore
import Derived.OpenShut
import Derived.ShutString
import Derived.ChangeOld
import Derived.Below
import Derived.MakeChecks
import Derived.Stop.Joined
set_option linter.unusedVariables false
set_option linter.unusedSimpArgs false
section
namespace Go.Proofs.YtabbklpalbikdaaGreatDoor
open Go.RowKit Go.Pt
theorem codeF_in {f : Nat → Int} {o : Nat} {l : List Int} : ∀ k i,i < o → codeF f o l k i = f i
 | 0,_,_ => rfl
 | k + 1,i,h => by
  unfold codeF
  rw [storeX_out (.inl ky),codeF_in k i h]
theorem loadF1_ag {f g : Nat → Int} (h : AgA f g) {i : Nat} (hi : 1 ≤ i) (x : LoadD) : AgA f (loadF1 g i x) := fun j h1 h2 => by
 unfold loadF1
 refine (h j h1 h2).trans ?_
 have e1 : putF (codeF g (4096 + 12288 * i) x.code x.code.length) (8192 + 12288 * i) x.data j = codeF g (4096 + 12288 * i) x.code x.code.length j := Classical.byContradiction fun hne => by
  have := putF_in hne
  omega
 rw [e1,codeF_in _ _ ky]
theorem beg_ag (x o0 o1 : LoadD) : AgA (begP [x]).D.f (begP [x,o0,o1]).D.f :=
 loadF1_ag (f := loadF [x] 1) (loadF1_ag (f := loadF [x] 1) (g := loadF [x,o0,o1] 1) (fun _ _ _ => rfl) (Nat.le_refl 1) o0) (by decide : 1 ≤ 2) o1
theorem LoadO.upd {w w' : World} {x : LoadD} {v0 v1 v3 : Value} {S : Nat → Prop} (h : LoadO w x v0 v1 v3) (u : Upd S w w') (hs : ∀ k,k < w.heap.size → ¬ S k) : LoadO w' x v0 v1 v3 :=
 ⟨h.code.upd u hs,h.data.upd u fun k _ hk _ => hs k hk,h.regs.upd u hs,h.big,h.cal⟩
theorem LoadO.mute {w : World} {x : LoadD} {v0 v1 v3 : Value} (h : LoadO w x v0 v1 v3) : LoadO w (muteL x) v0 v1 v3 :=
 ⟨h.code,h.data,h.regs,h.big,by
  show I64 (IntKind.i64.wrap _)
  rw [IntKind.wrap_i64]
  constructor <;> omega⟩
def LdV.c (r : LdV) : List Value := loadC r.v0 r.v1 r.v3 r.x
def LdV.mute (r : LdV) : LdV := ⟨muteL r.x,r.v0,r.v1,r.v3⟩
def LdV.ok (w : World) (r : LdV) : Prop := LoadO w r.x r.v0 r.v1 r.v3
theorem LdV.len (r : LdV) : r.c.length = 4 := rfl
theorem LdV.one {w : World} {r : LdV} (h : r.ok w) : r.c.all Value.oneCell' = true := by
 obtain ⟨ca,cc,e0,_⟩ := h.code
 obtain ⟨xa,xc,e3,_⟩ := h.regs
 obtain ⟨va,vc,e1,_⟩ := h.data.shape
 show (r.v0.oneCell' && (r.v1.oneCell' && (true && (r.v3.oneCell' && true)))) = true
 rw [e0,e1,e3]
 rfl
theorem loadsN {w : World} {c t : Nat} {rows : List LdV} (hb : w.heap[c]? = some (.cells (rows.flatMap LdV.c).toArray t (0,0))) (h : ∀ r ∈ rows,r.ok w) : LoadsO w (some ⟨c,0,none⟩) (rows.map (·.x)) := fun i x hx => by
 rw [List.getElem?_map] at hx
 obtain ⟨r,hr,rfl⟩ := Option.map_eq_some_iff.1 hx
 refine ⟨c,0,rfl,r.v0,r.v1,r.v3,fun q v hq => cell_of hb ?_,h r (List.mem_of_getElem? hr)⟩
 have hq4 : q < 4 := (List.getElem?_eq_some_iff.1 hq).1
 rw [Nat.zero_add,flatN (g := LdV.c) LdV.len hr hq4]
 exact hq
theorem memL_ag {f g : Nat → Int} (h : AgA f g) : memL f 4096 8224 = memL g 4096 8224 := by
 unfold memL
 refine List.map_congr_left fun j hj => ?_
 have hj' := List.mem_range.1 hj
 rw [h (4096 + j) ky ky]
theorem endS_rng {R : RO} {x : Sta} (h : 0 ≤ x.s ∧ x.s ≤ 2) : 0 ≤ (endS R x).s ∧ (endS R x).s ≤ 2 := by
 show 0 ≤ (if R.why = 4 then (2 : Int) else if R.why = 3 then 1 else x.s) ∧ (if R.why = 4 then (2 : Int) else if R.why = 3 then 1 else x.s) ≤ 2
 split
 ·exact ⟨by decide,by decide⟩
 ·split
  ·exact ⟨by decide,by decide⟩
  ·exact h
theorem _root_.Go.Pt.Mt.subE {P : Program} {ops : Array Oper} {N n : Nat} {Γ Γ' : Env} {C D : World → Prop} {Q : Act → World → Prop} {listed : Array Bool} (hs : Sub Γ Γ') (h : Mt P ops N n listed Γ' D C Q) : Mt P ops N n listed Γ D C Q := fun a w ha hD hC => h a w (ha.sub hs) hD hC
theorem _root_.Go.Pt.Mt.reb {P : Program} {ops : Array Oper} {N n : Nat} {Γ : Env} {C D : World → Prop} {Q : Act → World → Prop} {listed : Array Bool} (h : ∀ w1,D w1 → Mt P ops N n listed Γ (Hp w1 []) C Q) : Mt P ops N n listed Γ D C Q := fun a w ha hD hC => h w hD a w ha (Hp.start w) hC
theorem _root_.Go.Pt.Mt.abs {P : Program} {ops : Array Oper} {N n : Nat} {Γ : Env} {C D : World → Prop} {Q : Act → World → Prop} {listed : Array Bool} (h : ∀ (ops' : Array Oper) (C' : World → Prop) (Q' : Act → World → Prop),ops' = ops → C' = C → Q' = Q → Mt P ops' N n listed Γ D C' Q') : Mt P ops N n listed Γ D C Q := h ops C Q rfl rfl rfl
theorem _root_.Go.Pt.Mt.lst {P : Program} {ops : Array Oper} {N n n' : Nat} {Γ Γ' : Env} {C D : World → Prop} {Q : Act → World → Prop} {l l' : Array Bool} (k : Mt P ops N n' l' Γ' D C Q) (hs : Sub Γ Γ') (hl : l' = l) (hn : n' = n) : Mt P ops N n l Γ D C Q := by subst hl hn;exact Mt.subE hs k
theorem evKeep {w wq w' : World} {base : Nat} {I : Mi} {M : Mv2} {c : Nat} {cs : Array Value} (hM : MonS wq base I M) (u : Upd (KF wq I M) wq w') (hq : Hp w [] wq) (h : w.heap[c]? = some (.cells cs 35 (0,0))) : w'.heap[c]? = some (.cells cs 35 (0,0)) := by
 have hc := hq.upd.heap h fun y => y trivial
 refine u.heap hc fun k => k.elim (fun k => hM.offF hc ze _ k rfl) fun k => absurd (lt_of_block hc) (Nat.not_lt.2 k)
theorem TwoS.evs {c : Cx} {w3 w4 : World} {a b : Ms} {c12 c13 : Nat} {xs ys : List Value} {z1 z2 : Array Value} (k : TwoS c w3 a b) (h : Hp w3 [⟨c13,ys,35⟩,⟨c12,xs,35⟩] w4) (g12 : w3.heap[c12]? = some (.cells z1 35 (0,0))) (g13 : w3.heap[c13]? = some (.cells z2 35 (0,0))) (hb : c.base2 ≤ c12 ∧ c.base2 ≤ c13) (hc : CxOk c) : TwoS c w4 a b := by
 obtain ⟨b1,b2,b3,b4⟩ := hc.b
 have u : Upd (fun x => x = c12 ∨ x = c13) w3 w4 := Hp.on2 h (Upd.refl _ _) (.inr rfl) (.inl rfl)
 have o1 := k.k1.mon.offF g12 ze
 have o2 := k.k1.mon.offF g13 ze
 have o3 := k.k2.mon.offF g12 ze
 have o4 := k.k2.mon.offF g13 ze
 exact ⟨k.k1.upd u (fun y hy h => h.elim (o1 y hy) (o2 y hy)) (fun y h => by omega) (fun h => h.elim (hne k.k1.pr g12 ze) (hne k.k1.pr g13 ze)),k.k2.upd u (fun y hy h => h.elim (o3 y hy) (o4 y hy)) (fun y h => by omega) (fun h => h.elim (hne k.k2.pr g12 ze) (hne k.k2.pr g13 ze)),k.ub.comp u fun y _ h => h.elim id fun h => .inr ky,k.ao,k.sep⟩
structure AlT where
 (w3 : World) (j : Nat) (a b : Ms) (x : Sta)
set_option maxHeartbeats 16000000 in
theorem alone26 (a : Option Addr) (cl : Nat) (l : List LoadD) (r0 r1 : LdV) (v : Value) (rl : List Int) (w : World) (hn : l.length ≤ 140737488355328) (hL : LoadsO w a l) (hr0 : r0.ok w) (hr1 : r1.ok w) (hv : Is .i64 w v rl) (hl : ∀ x ∈ rl,I64 x) (hT : tabOk w) :
  Calls Tryz.prog 5 #[.slice a l.length cl,.agg (r0.c ++ r1.c).toArray,v] w fun e w' => e = .returned (.bool true) ∧ Upd (fun k => w.heap.size ≤ k) w w' := by
 obtain ⟨va,vc,rfl,hvl,hvm⟩ := hv.shape
 unfold maxLen at hvm
 have hrl : (r0.c ++ r1.c).length = 8 := rfl
 have hro : (r0.c ++ r1.c).all Value.oneCell' = true := by rw [List.all_append,LdV.one hr0,LdV.one hr1];rfl
 refine enter (args := [_,_,_]) (Γ := [(0,_),(1,_),(2,_)]) Tryz.func5 Tryz.ntmps5 rfl (of_decide_eq_true rfl) (.cons rfl (.cons rfl (.cons rfl .nil))) ?_
 repeat' first | refine Wl.assign rfl rfl ?_ | (apply Wl.boxA;exact rfl;exact rfl;intro c hc ho) | apply Wl.nil | apply St.seq | apply St.region | apply Gt.next
 generalize c = c4 at *
 have hc4 : w.heap.size ≤ c4 := by assumption
 apply Wl.callC
 ·exact rfl
 ·repeat constructor
 intro wq hq
 have Uq : Upd (fun k => w.heap.size ≤ k) w wq := hq.on (Upd.refl _ _) kb
 refine (fit26 wq (hT.upd Uq (Nat.not_le.2 hT.lt))).mono ?_
 rintro e wr ⟨rfl,hr⟩
 refine ⟨_,_,rfl,hq.newer hr,?_⟩
 clear hq hr Uq wq wr
 repeat' first | refine Wl.move rfl rfl ?_ | refine Wl.not rfl rfl ?_ | apply Wl.nil | apply St.seq | apply St.region | (apply St.condF;exact rfl;exact ka) | apply St.skip | apply Gt.next
 apply Wl.callC
 ·exact rfl
 ·repeat constructor
 intro wq hq
 have Uq : Upd (fun k => w.heap.size ≤ k) w wq := hq.on (Upd.refl _ _) kb
 refine (small26 a cl l wq hn (hL.upd Uq fun k hk => Nat.not_le.2 hk)).mono ?_
 rintro e wr ⟨⟨z,rfl,hz⟩,hr⟩
 refine ⟨_,_,rfl,hq.newer hr,?_⟩
 clear hq hr Uq wq wr
 cases z
 ·repeat' first | refine Wl.move rfl rfl ?_ | refine Wl.assign rfl rfl ?_ | (apply Wl.off;exact rfl;exact rfl;exact rfl;exact kr) | (apply Wl.pickT;exact rfl;exact rfl;exact ka;exact rfl) | refine Wl.not rfl rfl ?_ | apply Wl.nil | apply St.seq | apply St.region | (apply St.condT;exact rfl;exact ka) | apply St.ret | apply Gt.next | apply Gt.thenRet | (apply Gt.out1;exact rfl;exact rfl;intro w' hp)
  exact ⟨rfl,hp.on (Upd.refl _ _) kb⟩
 obtain ⟨⟨hl1,hl3⟩,hsm⟩ := hz rfl
 repeat' first | (apply Wl.sliceArrW;exact rfl;exact rfl;(decide)) | refine Wl.move rfl rfl ?_ | (apply Wl.on;exact rfl;exact rfl;exact ka) | refine Wl.not rfl rfl ?_
 apply Wl.callC
 ·exact rfl
 ·repeat constructor
 intro wq hq
 have Uq : Upd (fun k => w.heap.size ≤ k) w wq := hq.on (Upd.refl _ _) kb
 have hLo : LoadsO wq (some ⟨c4,0,none⟩) ([r0,r1].map (·.x)) := loadsN (rows := [r0,r1]) (c := c4) (hq.own.at (.head _)) (by simp only [List.mem_cons,List.not_mem_nil,or_false,forall_eq_or_imp,forall_eq];exact ⟨LoadO.upd hr0 Uq fun k hk => Nat.not_le.2 hk,LoadO.upd hr1 Uq fun k hk => Nat.not_le.2 hk⟩)
 refine (small26 (some ⟨c4,0,none⟩) 2 ([r0,r1].map (·.x)) wq (by show (2 : Nat) ≤ _;decide) hLo).mono ?_
 rintro e wr ⟨⟨z,rfl,hz2⟩,hr⟩
 refine ⟨_,_,rfl,hq.newer hr,?_⟩
 clear hq hr Uq hLo wq wr
 cases z
 ·repeat' first | refine Wl.move rfl rfl ?_ | refine Wl.assign rfl rfl ?_ | (apply Wl.on;exact rfl;exact rfl;exact ka) | (apply Wl.off;exact rfl;exact rfl;exact rfl;exact kr) | (apply Wl.pickT;exact rfl;exact rfl;exact ka;exact rfl) | (apply Wl.pickF;exact rfl;exact rfl;exact ka;exact rfl) | refine Wl.not rfl rfl ?_ | apply Wl.nil | apply St.seq | apply St.region | (apply St.condT;exact rfl;exact ka) | apply St.ret | apply Gt.next | apply Gt.thenRet | (apply Gt.out1;exact rfl;exact rfl;intro w' hp)
  exact ⟨rfl,hp.on (Upd.refl _ _) kb⟩
 obtain ⟨_,hsm2⟩ := hz2 rfl
 by_cases h12 : 12 < rl.length
 ·have hd12 : decide ((rl.length : Int) > 12) = true := decide_eq_true ky
  repeat' first | refine Wl.move rfl rfl ?_ | refine Wl.assign rfl rfl ?_ | (apply Wl.on;exact rfl;exact rfl;exact ka) | (apply Wl.pickF;exact rfl;exact rfl;exact ka;exact rfl) | refine Wl.not rfl rfl ?_ | refine Wl.gtr rfl rfl rfl ?_ | refine Wl.len rfl rfl ?_ | apply Wl.nil | apply St.seq | apply St.region | (apply St.condT;exact rfl;exact ka) | apply St.ret | apply Gt.next | apply Gt.thenRet | (apply Gt.out1;exact rfl;exact rfl;intro w' hp)
  exact ⟨rfl,hp.on (Upd.refl _ _) kb⟩
 have hd12 : decide ((rl.length : Int) > 12) = false := decide_eq_false ky
 obtain ⟨x,hx⟩ : ∃ x,l[0]? = some x := ⟨_,List.getElem?_eq_getElem ky⟩
 obtain ⟨lb,lo,rfl,v0,v1,v3,hcell,hxo⟩ := hL 0 x hx
 have hlb : lb < w.heap.size := cell_old (hcell 0 _ rfl)
 obtain ⟨r,hr⟩ : ∃ r : LdV,r = ⟨x,v0,v1,v3⟩ := ⟨_,rfl⟩
 have hrok : r.ok w := by rw [hr];exact hxo
 have hrone := LdV.one hrok
 have hcell' : ∀ q v,r.c[q]? = some v → w.cell? ⟨lb,lo + q,none⟩ = some v := fun q v hq => by
  rw [hr] at hq
  have := hcell q v hq
  rw [Nat.zero_mul,Nat.add_zero] at this
  exact this
 repeat' first | refine Wl.move rfl rfl ?_ | (apply Wl.on;exact rfl;exact rfl;exact ka) | (apply Wl.pickF;exact rfl;exact rfl;exact ka;exact rfl) | refine Wl.not rfl rfl ?_ | refine Wl.gtr rfl rfl rfl ?_ | refine Wl.len rfl rfl ?_ | apply Wl.nil | (apply St.condF;exact rfl;exact ka) | apply St.skip | apply Gt.next
 apply St.seq
 repeat' first | (apply Wl.loadAB (xs := r.c);exact rfl;exact rfl;exact hcell';exact kj;exact r.len) | (apply Wl.storeA (xs := r.c);exact rfl;exact rfl;exact r.len;exact hrone;exact ke;exact .z (LOver.whole rfl)) | refine Wl.move rfl rfl ?_ | (apply Wl.alloc;exact rfl;intro c hc ho) | (refine Wl.indexAddr rfl rfl rfl ?_ ?_;constructor <;> omega) | apply Wl.nil | apply St.region | apply Gt.next
 apply St.seq
 repeat' first | (apply Wl.store (cs' := r.mute.c);exact rfl;exact rfl;exact rfl;exact ke;exact .s (.s .z)) | (apply Wl.loadH (cs := r.c) (v := .int .i64 r.x.calls);exact rfl;exact rfl;exact ke;exact rfl) | refine Wl.fieldAddrZ rfl rfl ?_ | refine Wl.andNot rfl rfl rfl ?_ | apply Wl.nil | apply St.region | apply Gt.next
 generalize c = c7 at *
 have hc7 : w.heap.size ≤ c7 := by assumption
 refine St.cut (σ := Cx × World × Ms × Ms) (fun τ => CxOk τ.1 ∧ τ.1.w = w ∧ τ.1.n1 = 1 ∧ τ.1.n2 = 3 ∧ τ.1.E1 = begE [r.mute.x] ∧ τ.1.E2 = begE [r.mute.x,r0.x,r1.x] ∧ TwoS τ.1 τ.2.1 τ.2.2.1 τ.2.2.2 ∧ PRel τ.2.2.1.P τ.2.2.2.P (staB [r.mute.x] 0))
  (fun τ => [(2,.slice va rl.length vc),(8,.pointer (some ⟨τ.1.p1,0,none⟩)),(9,.pointer (some ⟨τ.1.p2,0,none⟩))]) (fun τ => Hp τ.2.1 []) ?_ ?_
 ·refine St.reb (H' := []) fun w6 h6 => ⟨trivial,trivial,?_⟩
  have U6 : Upd (fun k => w.heap.size ≤ k) w w6 := h6.on (Upd.refl _ _) kb
  have e7 := h6.own.at (.head _)
  have e4 := h6.own.at (.tail _ (.head _))
  simp only at e7 e4
  have z6 := U6.size
  have l7 := lt_of_block e7
  have l4 := lt_of_block e4
  clear h6
  have hb1 : ∀ {w' : World},Upd (fun k => w.heap.size ≤ k) w w' → ∀ {c t : Nat},w'.heap[c]? = some (.cells ([r.mute].flatMap LdV.c).toArray t (0,0)) → LoadsF w' (some ⟨c,0,none⟩) [r.mute.x] := fun u c t h => (loadsN h (by simp only [List.mem_cons,List.not_mem_nil,or_false,forall_eq];exact LoadO.mute (LoadO.upd hrok u fun k hk => Nat.not_le.2 hk))).small (by
   intro y hy
   rw [List.mem_singleton.1 hy,hr]
   exact hsm x (List.mem_of_getElem? hx))
  have hb3 : ∀ {w' : World},Upd (fun k => w.heap.size ≤ k) w w' → ∀ {c t : Nat},w'.heap[c]? = some (.cells ([r.mute,r0,r1].flatMap LdV.c).toArray t (0,0)) → LoadsF w' (some ⟨c,0,none⟩) [r.mute.x,r0.x,r1.x] := fun u c t h => (loadsN h (by simp only [List.mem_cons,List.not_mem_nil,or_false,forall_eq_or_imp,forall_eq];exact ⟨LoadO.mute (LoadO.upd hrok u fun k hk => Nat.not_le.2 hk),LoadO.upd hr0 u fun k hk => Nat.not_le.2 hk,LoadO.upd hr1 u fun k hk => Nat.not_le.2 hk⟩)).small (by
   intro y hy
   rcases List.mem_cons.1 hy with rfl | hy
   ·rw [hr];exact hsm x (List.mem_of_getElem? hx)
   ·exact hsm2 y hy)
  refine St.tree (fun w' => w'.heap[c7]? = some (.cells r.mute.c.toArray 30 (0,0)) ∧ w'.heap[c4]? = some (.cells (r0.c ++ r1.c).toArray 58 (0,0))) mixed (fun _ h' => ⟨Hp.drew h',(Hp.drew h').upd.heap e7 (fun y => y trivial),(Hp.drew h').upd.heap e4 (fun y => y trivial)⟩) ?_
  have hg0 : ∀ q v,r0.c[q]? = some v → (r0.c ++ r1.c)[0 + ((0 : Int)).toNat * 4 + q]? = some v := fun q v hv => by
   rw [show 0 + ((0 : Int)).toNat * 4 + q = q by simp,List.getElem?_append_left (List.getElem?_eq_some_iff.1 hv).1];exact hv
  have hg1 : ∀ q v,r1.c[q]? = some v → (r0.c ++ r1.c)[0 + ((1 : Int)).toNat * 4 + q]? = some v := fun q v hv => by
   rw [show 0 + ((1 : Int)).toNat * 4 + q = r0.c.length + q by rw [r0.len];rfl,List.getElem?_append_right (Nat.le_add_right _ _),Nat.add_sub_cancel_left];exact hv
  refine Mt.pu 0 ?_
  repeat' first | (apply Wl.loadAF (xs := r.mute.c);exact rfl;exact rfl;exact rfl;(intro w' h' q v hv;rw [addLit,Nat.zero_add];exact cell_of h'.1 hv)) | apply Wl.nilB
  refine Mt.pu 3 ?_
  repeat' first | (apply Wl.loadAF (xs := r.mute.c);exact rfl;exact rfl;exact rfl;(intro w' h' q v hv;rw [addLit,Nat.zero_add];exact cell_of h'.1 hv)) | apply Wl.nilB
  refine Mt.pu 4 ?_
  repeat' first | (refine Wl.indexArr rfl rfl rfl ?_ ?_;constructor <;> omega) | apply Wl.nilB
  refine Mt.pu 6 ?_
  repeat' first | (refine Wl.indexArr rfl rfl rfl ?_ ?_;constructor <;> omega) | apply Wl.nilB
  refine Mt.pu 5 ?_
  repeat' first | (apply Wl.loadAF (xs := r0.c);exact rfl;exact rfl;exact rfl;(intro w' h' q v hv;rw [addLit];exact cell_of h'.2 (hg0 q v hv))) | apply Wl.nilB
  refine Mt.pu 7 ?_
  repeat' first | (apply Wl.loadAF (xs := r1.c);exact rfl;exact rfl;exact rfl;(intro w' h' q v hv;rw [addLit];exact cell_of h'.2 (hg1 q v hv))) | apply Wl.nilB
  refine Mt.eff2 (i := 1) (j := 8) kg zd zd ?_ ?_
  ·repeat' first | (apply Wl.lit;exact rfl;exact ki;exact rfl;exact rfl;exact kh;intro c hc ho) | apply Wl.nil
   generalize c = cs1 at *
   have hcs1 : w6.heap.size ≤ cs1 := by assumption
   refine Mt.backE (fun _ h' => ⟨h'.upd.heap e7 (fun y => y kt),h'.upd.heap e4 (fun y => y kt)⟩) ?_
   refine Mt.eff2 (i := 2) (j := 8) kg zd zd ?_ ?_
   ·apply Wl.callC
    ·exact rfl
    ·repeat constructor
    intro wq hq
    have zq := hq.upd.size
    have uq : Upd (fun k => w6.heap.size ≤ k) w6 wq := hq.on (Upd.refl _ _) kb
    have Uq : Upd (fun k => w.heap.size ≤ k) w wq := U6.comp uq fun k _ h => h.elim id fun h => by omega
    have hs1 := hq.own.at (.head _)
    refine (begin26 (some ⟨cs1,0,none⟩) 1 1 [r.mute.x] wq rfl ze (hb1 Uq hs1) (hT.upd Uq (Nat.not_le.2 hT.lt))).mono ?_
    rintro e w7 ⟨p1,base1,I1,pv1,ev1,cf1,rv1,rfl,hp1,hM1,hE1,hbb1,hpg1,u7⟩
    have z7 := u7.size
    have U7 : Upd (fun k => w.heap.size ≤ k) w w7 := Uq.comp u7 fun k _ h => h.elim id fun h => by omega
    have K7 := sty0 (w := w) (l := [r.mute.x]) (rv := rv1) (show (1 : Nat) ≤ 1 by decide) hM1 hE1 ⟨by omega,hbb1.2⟩ hp1 U7
    have f7 := u7.heap (uq.heap e7 ky) ky
    have f4 := u7.heap (uq.heap e4 ky) ky
    refine ⟨_,_,rfl,Hp.start w7,?_⟩
    clear hq
    repeat' first | apply Wl.nil
    refine Mt.backE (fun _ h' => ⟨h'.upd.heap f7 (fun y => y kt),h'.upd.heap f4 (fun y => y kt)⟩) ?_
    refine Mt.eff1 (i := 8) kg zd ?_
    repeat' first | (apply Wl.lit;exact rfl;exact ki;exact rfl;exact rfl;exact kh;intro c hc ho) | apply Wl.nil
    generalize c = cs8 at *
    have hcs8 : w7.heap.size ≤ cs8 := by assumption
    refine Mt.backE (fun _ h' => ⟨h'.upd.heap f7 (fun y => y kt),h'.upd.heap f4 (fun y => y kt)⟩) ?_
    refine Mt.eff1 (i := 9) kg zd ?_
    apply Wl.callC
    ·exact rfl
    ·repeat constructor
    intro wq2 hq
    have zq2 := hq.upd.size
    have uq2 : Upd (fun k => w7.heap.size ≤ k) w7 wq2 := hq.on (Upd.refl _ _) kb
    have Uq2 : Upd (fun k => w.heap.size ≤ k) w wq2 := U7.comp uq2 fun k _ h => h.elim id fun h => by omega
    have K7q := K7.new uq2
    have hs8' := (hq.own.at (.head _))
    refine (begin26F (some ⟨cs8,0,none⟩) 3 3 [r.mute.x,r0.x,r1.x] wq2 rfl ze (hb3 Uq2 hs8') (hT.upd Uq2 (Nat.not_le.2 hT.lt))).mono ?_
    rintro e w8 ⟨p2,base2,I2,pv2,ev2,cf2,rv2,rfl,hp2,hM2,hF2,hbb2,hpg2,u8⟩
    have z8 := u8.size
    have U8 : Upd (fun k => w.heap.size ≤ k) w w8 := Uq2.comp u8 fun k _ h => h.elim id fun h => by omega
    have K8 := K7q.new u8
    have hE2 := hF2 (fun _ => False) w8 (Upd.refl _ _) (fun _ _ _ h => h) (fun h => h)
    have J8 := sty0 (w := w) (l := [r.mute.x,r0.x,r1.x]) (rv := rv2) (show (1 : Nat) ≤ 3 by decide) hM2 hE2 ⟨by omega,hbb2.2⟩ hp2 U8
    have k7 := u8.heap (uq2.heap f7 ky) ky
    have k4 := u8.heap (uq2.heap f4 ky) ky
    have hMl : ∀ y,MonF I1 _ y → y < wq2.heap.size := fun y hy => (K7q.mon.lt y hy).2
    refine ⟨_,_,rfl,Hp.start w8,?_⟩
    clear hq
    repeat' first | apply Wl.nil
    refine Mt.backE (fun _ h' => ⟨h'.upd.heap k7 (fun y => y trivial),h'.upd.heap k4 (fun y => y trivial)⟩) ?_
    refine Mt.pu 10 ?_
    refine Wl.assign rfl rfl (Wl.nilB ?_)
    refine Mt.pu 11 ?_
    refine Wl.assign rfl rfl (Wl.nilB ?_)
    refine Mt.toGt kg ?_
    refine Gt.reb (H' := []) fun w9 h9 => ⟨trivial,trivial,?_⟩
    apply Gt.meet (⟨w,wq2,w8,base1,base2,I1,I2,pv1,ev1,pv2,ev2,p1,p2,rv1,rv2,1,3,begE [r.mute.x],begE [r.mute.x,r0.x,r1.x]⟩,w9,⟨begP [r.mute.x],.slice none 0 0,.slice none 0 0,[],xz,0,cf1⟩,⟨begP [r.mute.x,r0.x,r1.x],.slice none 0 0,.slice none 0 0,[],xz,0,cf2⟩)
    ·have hb0 := K8.env.pos
     refine ⟨⟨hF2,⟨K8.ge.1,K7q.ge.2,hbb2.1,hb0⟩⟩,rfl,rfl,rfl,rfl,rfl,?_,prel0 _ _ _ (beg_ag _ _ _)⟩
     refine TwoS.quiet (w3 := w8) ⟨K8,J8,Upd.refl _ _,fun y hy => .inl (hMl y hy),fun y hy hy2 => ?_⟩ h9
     have h1 := hMl y hy
     have h2 := (J8.mon.lt y hy2).1
     have h3 := hbb2.1
     omega
    ·repeat constructor
    ·exact fun _ h => h
   ·repeat' first | (apply Wl.lit;exact rfl;exact ki;exact rfl;exact rfl;exact kh;intro c hc ho) | apply Wl.nil
    generalize c = cs8 at *
    have hcs8 : w6.heap.size ≤ cs8 := by assumption
    refine Mt.backE (fun _ h' => ⟨h'.upd.heap e7 (fun y => y kt),h'.upd.heap e4 (fun y => y kt)⟩) ?_
    refine Mt.eff1 (i := 2) kg zd ?_
    apply Wl.callC
    ·exact rfl
    ·repeat constructor
    intro wq hq
    have zq := hq.upd.size
    have uq : Upd (fun k => w6.heap.size ≤ k) w6 wq := hq.on (Upd.refl _ _) kb
    have Uq : Upd (fun k => w.heap.size ≤ k) w wq := U6.comp uq fun k _ h => h.elim id fun h => by omega
    have hs1 := hq.own.at (.tail _ (.head _))
    have hs8 := hq.own.at (.head _)
    refine (begin26 (some ⟨cs1,0,none⟩) 1 1 [r.mute.x] wq rfl ze (hb1 Uq hs1) (hT.upd Uq (Nat.not_le.2 hT.lt))).mono ?_
    rintro e w7 ⟨p1,base1,I1,pv1,ev1,cf1,rv1,rfl,hp1,hM1,hE1,hbb1,hpg1,u7⟩
    have z7 := u7.size
    have U7 : Upd (fun k => w.heap.size ≤ k) w w7 := Uq.comp u7 fun k _ h => h.elim id fun h => by omega
    have K7 := sty0 (w := w) (l := [r.mute.x]) (rv := rv1) (show (1 : Nat) ≤ 1 by decide) hM1 hE1 ⟨by omega,hbb1.2⟩ hp1 U7
    have f7 := u7.heap (uq.heap e7 ky) ky
    have f4 := u7.heap (uq.heap e4 ky) ky
    have g8 := u7.heap hs8 (by have := lt_of_block hs8;simp only at this ⊢;omega)
    have lg8 := lt_of_block hs8
    simp only at lg8
    refine ⟨_,_,rfl,Hp.start w7,?_⟩
    clear hq
    repeat' first | apply Wl.nil
    refine Mt.backE (fun _ h' => ⟨h'.upd.heap f7 (fun y => y kt),h'.upd.heap f4 (fun y => y kt)⟩) ?_
    refine Mt.eff1 (i := 9) kg zd ?_
    apply Wl.callC
    ·exact rfl
    ·repeat constructor
    intro wq2 hq
    have zq2 := hq.upd.size
    have uq2 : Upd (fun k => w7.heap.size ≤ k) w7 wq2 := hq.on (Upd.refl _ _) qt
    have Uq2 : Upd (fun k => w.heap.size ≤ k) w wq2 := U7.comp uq2 fun k _ h => h.elim id fun h => by omega
    have K7q := K7.new uq2
    have hs8' := (hq.upd.heap g8 fun y => y trivial)
    refine (begin26F (some ⟨cs8,0,none⟩) 3 3 [r.mute.x,r0.x,r1.x] wq2 rfl ze (hb3 Uq2 hs8') (hT.upd Uq2 (Nat.not_le.2 hT.lt))).mono ?_
    rintro e w8 ⟨p2,base2,I2,pv2,ev2,cf2,rv2,rfl,hp2,hM2,hF2,hbb2,hpg2,u8⟩
    have z8 := u8.size
    have U8 : Upd (fun k => w.heap.size ≤ k) w w8 := Uq2.comp u8 fun k _ h => h.elim id fun h => by omega
    have K8 := K7q.new u8
    have hE2 := hF2 (fun _ => False) w8 (Upd.refl _ _) (fun _ _ _ h => h) (fun h => h)
    have J8 := sty0 (w := w) (l := [r.mute.x,r0.x,r1.x]) (rv := rv2) (show (1 : Nat) ≤ 3 by decide) hM2 hE2 ⟨by omega,hbb2.2⟩ hp2 U8
    have k7 := u8.heap (uq2.heap f7 ky) ky
    have k4 := u8.heap (uq2.heap f4 ky) ky
    have hMl : ∀ y,MonF I1 _ y → y < wq2.heap.size := fun y hy => (K7q.mon.lt y hy).2
    refine ⟨_,_,rfl,Hp.start w8,?_⟩
    clear hq
    repeat' first | apply Wl.nil
    refine Mt.backE (fun _ h' => ⟨h'.upd.heap k7 (fun y => y trivial),h'.upd.heap k4 (fun y => y trivial)⟩) ?_
    refine Mt.pu 10 ?_
    refine Wl.assign rfl rfl (Wl.nilB ?_)
    refine Mt.pu 11 ?_
    refine Wl.assign rfl rfl (Wl.nilB ?_)
    refine Mt.toGt kg ?_
    refine Gt.reb (H' := []) fun w9 h9 => ⟨trivial,trivial,?_⟩
    apply Gt.meet (⟨w,wq2,w8,base1,base2,I1,I2,pv1,ev1,pv2,ev2,p1,p2,rv1,rv2,1,3,begE [r.mute.x],begE [r.mute.x,r0.x,r1.x]⟩,w9,⟨begP [r.mute.x],.slice none 0 0,.slice none 0 0,[],xz,0,cf1⟩,⟨begP [r.mute.x,r0.x,r1.x],.slice none 0 0,.slice none 0 0,[],xz,0,cf2⟩)
    ·have hb0 := K8.env.pos
     refine ⟨⟨hF2,⟨K8.ge.1,K7q.ge.2,hbb2.1,hb0⟩⟩,rfl,rfl,rfl,rfl,rfl,?_,prel0 _ _ _ (beg_ag _ _ _)⟩
     refine TwoS.quiet (w3 := w8) ⟨K8,J8,Upd.refl _ _,fun y hy => .inl (hMl y hy),fun y hy hy2 => ?_⟩ h9
     have h1 := hMl y hy
     have h2 := (J8.mon.lt y hy2).1
     have h3 := hbb2.1
     omega
    ·repeat constructor
    ·exact fun _ h => h
  ·repeat' first | (apply Wl.lit;exact rfl;exact ki;exact rfl;exact rfl;exact kh;intro c hc ho) | apply Wl.nil
   generalize c = cs8 at *
   have hcs8 : w6.heap.size ≤ cs8 := by assumption
   refine Mt.backE (fun _ h' => ⟨h'.upd.heap e7 (fun y => y kt),h'.upd.heap e4 (fun y => y kt)⟩) ?_
   refine Mt.eff1 (i := 1) kg zd ?_
   repeat' first | (apply Wl.lit;exact rfl;exact ki;exact rfl;exact rfl;exact kh;intro c hc ho) | apply Wl.nil
   generalize c = cs1 at *
   have hcs1 : w6.heap.size ≤ cs1 := by assumption
   refine Mt.backE (fun _ h' => ⟨h'.upd.heap e7 (fun y => y kt),h'.upd.heap e4 (fun y => y kt)⟩) ?_
   refine Mt.eff1 (i := 2) kg zd ?_
   apply Wl.callC
   ·exact rfl
   ·repeat constructor
   intro wq hq
   have zq := hq.upd.size
   have uq : Upd (fun k => w6.heap.size ≤ k) w6 wq := hq.on (Upd.refl _ _) kb
   have Uq : Upd (fun k => w.heap.size ≤ k) w wq := U6.comp uq fun k _ h => h.elim id fun h => by omega
   have hs1 := hq.own.at (.head _)
   have hs8 := hq.own.at (.tail _ (.head _))
   refine (begin26 (some ⟨cs1,0,none⟩) 1 1 [r.mute.x] wq rfl ze (hb1 Uq hs1) (hT.upd Uq (Nat.not_le.2 hT.lt))).mono ?_
   rintro e w7 ⟨p1,base1,I1,pv1,ev1,cf1,rv1,rfl,hp1,hM1,hE1,hbb1,hpg1,u7⟩
   have z7 := u7.size
   have U7 : Upd (fun k => w.heap.size ≤ k) w w7 := Uq.comp u7 fun k _ h => h.elim id fun h => by omega
   have K7 := sty0 (w := w) (l := [r.mute.x]) (rv := rv1) (show (1 : Nat) ≤ 1 by decide) hM1 hE1 ⟨by omega,hbb1.2⟩ hp1 U7
   have f7 := u7.heap (uq.heap e7 ky) ky
   have f4 := u7.heap (uq.heap e4 ky) ky
   have g8 := u7.heap hs8 (by have := lt_of_block hs8;simp only at this ⊢;omega)
   have lg8 := lt_of_block hs8
   simp only at lg8
   refine ⟨_,_,rfl,Hp.start w7,?_⟩
   clear hq
   repeat' first | apply Wl.nil
   refine Mt.backE (fun _ h' => ⟨h'.upd.heap f7 (fun y => y kt),h'.upd.heap f4 (fun y => y kt)⟩) ?_
   refine Mt.eff1 (i := 9) kg zd ?_
   apply Wl.callC
   ·exact rfl
   ·repeat constructor
   intro wq2 hq
   have zq2 := hq.upd.size
   have uq2 : Upd (fun k => w7.heap.size ≤ k) w7 wq2 := hq.on (Upd.refl _ _) qt
   have Uq2 : Upd (fun k => w.heap.size ≤ k) w wq2 := U7.comp uq2 fun k _ h => h.elim id fun h => by omega
   have K7q := K7.new uq2
   have hs8' := (hq.upd.heap g8 fun y => y trivial)
   refine (begin26F (some ⟨cs8,0,none⟩) 3 3 [r.mute.x,r0.x,r1.x] wq2 rfl ze (hb3 Uq2 hs8') (hT.upd Uq2 (Nat.not_le.2 hT.lt))).mono ?_
   rintro e w8 ⟨p2,base2,I2,pv2,ev2,cf2,rv2,rfl,hp2,hM2,hF2,hbb2,hpg2,u8⟩
   have z8 := u8.size
   have U8 : Upd (fun k => w.heap.size ≤ k) w w8 := Uq2.comp u8 fun k _ h => h.elim id fun h => by omega
   have K8 := K7q.new u8
   have hE2 := hF2 (fun _ => False) w8 (Upd.refl _ _) (fun _ _ _ h => h) (fun h => h)
   have J8 := sty0 (w := w) (l := [r.mute.x,r0.x,r1.x]) (rv := rv2) (show (1 : Nat) ≤ 3 by decide) hM2 hE2 ⟨by omega,hbb2.2⟩ hp2 U8
   have k7 := u8.heap (uq2.heap f7 ky) ky
   have k4 := u8.heap (uq2.heap f4 ky) ky
   have hMl : ∀ y,MonF I1 _ y → y < wq2.heap.size := fun y hy => (K7q.mon.lt y hy).2
   refine ⟨_,_,rfl,Hp.start w8,?_⟩
   clear hq
   repeat' first | apply Wl.nil
   refine Mt.backE (fun _ h' => ⟨h'.upd.heap k7 (fun y => y trivial),h'.upd.heap k4 (fun y => y trivial)⟩) ?_
   refine Mt.pu 10 ?_
   refine Wl.assign rfl rfl (Wl.nilB ?_)
   refine Mt.pu 11 ?_
   refine Wl.assign rfl rfl (Wl.nilB ?_)
   refine Mt.toGt kg ?_
   refine Gt.reb (H' := []) fun w9 h9 => ⟨trivial,trivial,?_⟩
   apply Gt.meet (⟨w,wq2,w8,base1,base2,I1,I2,pv1,ev1,pv2,ev2,p1,p2,rv1,rv2,1,3,begE [r.mute.x],begE [r.mute.x,r0.x,r1.x]⟩,w9,⟨begP [r.mute.x],.slice none 0 0,.slice none 0 0,[],xz,0,cf1⟩,⟨begP [r.mute.x,r0.x,r1.x],.slice none 0 0,.slice none 0 0,[],xz,0,cf2⟩)
   ·have hb0 := K8.env.pos
    refine ⟨⟨hF2,⟨K8.ge.1,K7q.ge.2,hbb2.1,hb0⟩⟩,rfl,rfl,rfl,rfl,rfl,?_,prel0 _ _ _ (beg_ag _ _ _)⟩
    refine TwoS.quiet (w3 := w8) ⟨K8,J8,Upd.refl _ _,fun y hy => .inl (hMl y hy),fun y hy hy2 => ?_⟩ h9
    have h1 := hMl y hy
    have h2 := (J8.mon.lt y hy2).1
    have h3 := hbb2.1
    omega
   ·repeat constructor
   ·exact fun _ h => h
 rintro ⟨cx,w1,m1,m2⟩ ⟨hcx,hcw,hn1,hn2,hE1,hE2,T1,R1⟩
 simp only at hcx hcw hn1 hn2 hE1 hE2 T1 R1 ⊢
 have hm : Mute [r.mute.x] [r.mute.x,r0.x,r1.x] := mute1 r.x r0.x r1.x
 subst hcw
 clear hcell hcell' hrok hrone hL hsm hsm2 hz hz2 hr0 hr1 hro hxo
 repeat' first | refine Wl.move rfl rfl ?_ | (apply Wl.on;exact rfl;exact rfl;exact ka) | (apply Wl.pickF;exact rfl;exact rfl;exact ka;exact rfl) | refine Wl.eqlPN rfl rfl rfl ?_ | refine Wl.len rfl rfl ?_ | apply Wl.nil | apply St.seq | apply St.block | apply St.region | (apply St.condF;exact rfl;exact ka) | apply St.skip | apply Gt.next
 refine St.loop (σ := AlT) (fun τ => τ.j ≤ rl.length ∧ TwoS cx τ.w3 τ.a τ.b ∧ PRel τ.a.P τ.b.P τ.x ∧ 0 ≤ τ.x.s ∧ τ.x.s ≤ 2) (fun τ => [(2,.slice va rl.length vc),(8,.pointer (some ⟨cx.p1,0,none⟩)),(9,.pointer (some ⟨cx.p2,0,none⟩)),(58,.slice va rl.length vc),(59,.int .i64 (rl.length : Int)),(60,.int .i64 (τ.j : Int))]) (fun τ => Hp τ.w3 []) (fun τ => rl.length - τ.j) ⟨w1,0,m1,m2,staB [r.mute.x] 0⟩ ⟨Nat.zero_le _,T1,R1,by show (0 : Int) ≤ 0;decide,by show (0 : Int) ≤ 2;decide⟩ kv (fun _ h => h) ?_
 clear T1 R1
 rintro ⟨w3,j,a,b,x⟩ ⟨hj,T,R,hxs⟩
 simp only at hj T R hxs ⊢
 have hpa : w3.cell? ⟨cx.p1,0,none⟩ = some (.pointer (some ⟨cx.I1.m,0,none⟩)) := cell_of T.k1.pr rfl
 by_cases hjl : j < rl.length
 ·have hdj : decide ((j : Int) < (rl.length : Int)) = true := decide_eq_true ky
  obtain ⟨vb,vo,rfl,hvc⟩ := hv.cells (fun e => by rw [e] at hjl;simp at hjl)
  have hvk := hvc j hjl
  have hvb : vb < cx.w.heap.size := cell_old hvk
  have hk1 : w3.cell? ⟨vb,vo + (j : Int).toNat,none⟩ = some (.int .i64 rl[j]) := by rw [Int.toNat_natCast];exact T.k1.up.cell hvk (Nat.not_le.2 hvb)
  obtain ⟨kn,hkn⟩ : ∃ kn : Nat,stepsN rl[j] = (kn : Int) := ⟨(stepsN rl[j]).toNat,by have := stepsN_rng rl[j];omega⟩
  have hknr : 1 ≤ kn ∧ kn ≤ 60 := by have := stepsN_rng rl[j];omega
  have hstep : ∀ wq : World,Calls Tryz.prog 17 #[.int .i64 rl[j]] wq fun e w' => e = .returned (.int .i64 (kn : Int)) ∧ Hp wq [] w' := fun wq => by rw [← hkn];exact stepsX _ wq
  repeat' first | (apply Wl.loadO;exact rfl;exact rfl;exact zu;exact kj) | refine Wl.move rfl rfl ?_ | refine Wl.assign rfl rfl ?_ | refine Wl.nilCheck rfl rfl ?_ | refine Wl.fieldAddr0 rfl rfl ?_ | refine Wl.lss rfl rfl rfl ?_ | (refine Wl.indexAddr1 rfl rfl rfl ?_ ?_;constructor <;> omega) | apply Wl.nil | apply St.seq | apply St.block | apply St.region | (apply St.condT;exact rfl;exact ka) | apply St.skip | apply Gt.next
  by_cases hs : x.s = 0
  ·have hta : turnV a.P.t = 0 := by rw [R.t1,if_pos hs];rfl
   apply Wl.callQ
   ·exact rfl
   ·repeat constructor
   ·intro wq hq
    refine (mTurn cx.base1 cx.I1 _ wq (T.k1.mon.upd (S := fun _ => False) (hq.upd.mono fun _ _ y => y trivial) fun _ _ y => y)).mono ?_
    rintro e wr ⟨rfl,hr⟩
    exact ⟨congrArg _ (congrArg _ hta),hq.keep hr⟩
   repeat' first | refine Wl.lss rfl rfl rfl ?_ | apply Wl.nil | apply St.seq | apply St.block | (apply St.condF;exact rfl;exact ka) | apply St.skip | apply Gt.next
   refine St.reb (H' := []) fun w4 h4 => ⟨trivial,trivial,?_⟩
   refine St.loop (σ := World × Ms) (fun τ => TwoS cx τ.1 a τ.2 ∧ PRel a.P τ.2.P x) (fun τ => [(2,.slice (some ⟨vb,vo,none⟩) rl.length vc),(8,.pointer (some ⟨cx.p1,0,none⟩)),(9,.pointer (some ⟨cx.p2,0,none⟩)),(58,.slice (some ⟨vb,vo,none⟩) rl.length vc),(59,.int .i64 (rl.length : Int)),(60,.int .i64 (j : Int)),(11,.int .i64 rl[j])]) (fun τ => Hp τ.1 []) (fun τ => if τ.2.P.t = 0 then 0 else (3 - τ.2.P.t).toNat) (w4,b) ⟨T.quiet h4,R⟩ kv (fun _ h => h) ?_
   clear h4 T R
   rintro ⟨w4,b⟩ ⟨T,R⟩
   simp only at T R ⊢
   have hpb : w4.cell? ⟨cx.p2,0,none⟩ = some (.pointer (some ⟨cx.I2.m,0,none⟩)) := cell_of T.k2.pr rfl
   by_cases ht0 : b.P.t = 0
   ·have htb : turnV b.P.t = 0 := by rw [ht0];rfl
    repeat' first | (apply Wl.loadO;exact rfl;exact rfl;exact zu;exact kj) | refine Wl.move rfl rfl ?_ | refine Wl.nilCheck rfl rfl ?_ | refine Wl.fieldAddr0 rfl rfl ?_ | apply St.seq | apply St.region
    apply Wl.callQ
    ·exact rfl
    ·repeat constructor
    ·intro wq hq
     refine (mTurn cx.base2 cx.I2 _ wq (T.k2.mon.upd (S := fun _ => False) (hq.upd.mono fun _ _ y => y trivial) fun _ _ y => y)).mono ?_
     rintro e wr ⟨rfl,hr⟩
     exact ⟨congrArg _ (congrArg _ htb),hq.keep hr⟩
    repeat' first | refine Wl.gtr rfl rfl rfl ?_ | apply Wl.nil | (apply St.condF;exact rfl;exact ka) | apply St.exit | apply Gt.next | apply Gt.thenExit | apply Gt.inExit
    refine St.cut (σ := World × Nat × Nat × Ms × Ms) (fun τ => TwoS cx τ.1 τ.2.2.2.1 τ.2.2.2.2 ∧ τ.2.2.2.1.P = endP a.P 0 x (runO cx.E1 a.P 0 x kn) ∧ τ.2.2.2.2.P = endP b.P 0 x (runO cx.E2 b.P 0 x kn) ∧ τ.1.heap[τ.2.1]? = some (.cells ([.int .i64 ((0 : Nat) : Int),.int .i64 ((runO cx.E1 a.P 0 x kn).tr.length : Int),.int .i64 (runO cx.E1 a.P 0 x kn).why] : List Value).toArray 35 (0,0)) ∧ τ.1.heap[τ.2.2.1]? = some (.cells ([.int .i64 ((0 : Nat) : Int),.int .i64 ((runO cx.E2 b.P 0 x kn).tr.length : Int),.int .i64 (runO cx.E2 b.P 0 x kn).why] : List Value).toArray 35 (0,0)))
     (fun τ => [(2,.slice (some ⟨vb,vo,none⟩) rl.length vc),(8,.pointer (some ⟨cx.p1,0,none⟩)),(9,.pointer (some ⟨cx.p2,0,none⟩)),(58,.slice (some ⟨vb,vo,none⟩) rl.length vc),(59,.int .i64 (rl.length : Int)),(60,.int .i64 (j : Int)),(11,.int .i64 rl[j]),(12,.pointer (some ⟨τ.2.1,0,none⟩)),(13,.pointer (some ⟨τ.2.2.1,0,none⟩))]) (fun τ => Hp τ.1 []) ?_ ?_
    ·refine St.reb (H' := []) fun w5 h5 => ⟨trivial,trivial,?_⟩
     have T5 := T.quiet h5
     clear h5
     have hx1 : a.P.L[0]? = some x := by rw [R.l1];rfl
     have hta0 : a.P.t = ((0 : Nat) : Int) := by rw [R.t1,if_pos hs];rfl
     have htb0 : b.P.t = ((0 : Nat) : Int) := ht0
     refine St.tree (fun w' => w'.heap[cx.p1]? = some (.cells #[.pointer (some ⟨cx.I1.m,0,none⟩),cx.rv1] 39 (0,0)) ∧ w'.heap[cx.p2]? = some (.cells #[.pointer (some ⟨cx.I2.m,0,none⟩),cx.rv2] 39 (0,0))) mixed (fun _ h' => ⟨Hp.drew h',(Hp.drew h').upd.heap T5.k1.pr (fun y => y trivial),(Hp.drew h').upd.heap T5.k2.pr (fun y => y trivial)⟩) ?_
     refine Mt.pm 0 ?_
     refine Mt.pm 4 ?_
     refine Mt.pm 7 ?_
     refine Mt.pm 11 ?_
     refine Mt.pn 1 ?_
     refine Mt.pn 8 ?_
     refine Mt.pf 2 ?_
     refine Mt.pf 9 ?_
     refine Mt.pu 3 ?_
     repeat' first | (apply Wl.loadF;exact rfl;exact rfl;(intro w' h';first | exact cell_of h'.1 rfl | exact cell_of h'.2 rfl)) | apply Wl.nilB
     refine Mt.pu 10 ?_
     repeat' first | (apply Wl.loadF;exact rfl;exact rfl;(intro w' h';first | exact cell_of h'.1 rfl | exact cell_of h'.2 rfl)) | apply Wl.nilB
     refine Mt.abs fun ops' C' Q' hops hC hQ => ?_
     have k4pq : ∀ (w5 : World) (a' b' : Ms) (c12 : Nat) (c13 : Nat),TwoS cx w5 a' b' → a'.P = endP a.P 0 x (runO cx.E1 a.P 0 x kn) → b'.P = endP b.P 0 x (runO cx.E2 b.P 0 x kn) → (w5.heap[c12]? = some (.cells #[.int .i64 0,.int .i64 0,.int .i64 0] 35 (0,0)) ∧ cx.base2 ≤ c12) → (w5.heap[c13]? = some (.cells #[.int .i64 0,.int .i64 0,.int .i64 0] 35 (0,0)) ∧ cx.base2 ≤ c13) → c12 ≠ c13 → Mt Tryz.prog ops' 153 2 #[true,true,true,true,true,true,true,true,true,true,true,true,true,true,true,true,false,false] [(2,.slice (some ⟨vb,vo,none⟩) rl.length vc),(8,.pointer (some ⟨cx.p1,0,none⟩)),(9,.pointer (some ⟨cx.p2,0,none⟩)),(58,.slice (some ⟨vb,vo,none⟩) rl.length vc),(59,.int .i64 (rl.length : Int)),(60,.int .i64 (j : Int)),(11,.int .i64 rl[j]),(86,.pointer (some ⟨cx.I1.m,0,none⟩)),(87,.int .i64 rl[j]),(93,.pointer (some ⟨cx.I2.m,0,none⟩)),(94,.int .i64 rl[j]),(89,evV 0 (runO cx.E1 a.P 0 x kn)),(96,evV 0 (runO cx.E2 b.P 0 x kn)),(12,.pointer (some ⟨c12,0,none⟩)),(13,.pointer (some ⟨c13,0,none⟩))] (Hp w5 []) C' Q' := by
      intro w5 a' b' c12 c13 T5 pa pb ⟨g12,bb12⟩ ⟨g13,bb13⟩ ne
      refine Mt.eff1 (i := 16) qc zx ?_
      refine Wl.cls (fun _ h' => Hp.open h' g12 trivial) ?_
      apply Wl.storeA (xs := [.int .i64 ((0 : Nat) : Int),.int .i64 ((runO cx.E1 a.P 0 x kn).tr.length : Int),.int .i64 (runO cx.E1 a.P 0 x kn).why])
      ·exact rfl
      ·exact rfl
      ·exact rfl
      ·exact rfl
      ·repeat constructor
      ·exact .z (LOver.whole rfl)
      repeat' first | apply Wl.nil
      refine Mt.backE (fun _ h' => by rw [hC];exact ⟨h'.upd.heap T5.k1.pr (fun y => y ⟨fun e => by exact hne T5.k1.pr g12 ze e.symm,trivial⟩),h'.upd.heap T5.k2.pr (fun y => y ⟨fun e => by exact hne T5.k2.pr g12 ze e.symm,trivial⟩)⟩) ?_
      refine Mt.eff1 (i := 17) qc zx ?_
      refine Wl.cls (fun _ h' => Hp.open h' g13 ⟨fun e => ne e,trivial⟩) ?_
      apply Wl.storeA (xs := [.int .i64 ((0 : Nat) : Int),.int .i64 ((runO cx.E2 b.P 0 x kn).tr.length : Int),.int .i64 (runO cx.E2 b.P 0 x kn).why])
      ·exact rfl
      ·exact rfl
      ·exact rfl
      ·exact rfl
      ·repeat constructor
      ·exact .z (LOver.whole rfl)
      repeat' first | apply Wl.nil
      refine Mt.backE (fun _ h' => by rw [hC];exact ⟨h'.upd.heap T5.k1.pr (fun y => y ⟨fun e => by exact hne T5.k1.pr g13 ze e.symm,fun e => by exact hne T5.k1.pr g12 ze e.symm,trivial⟩),h'.upd.heap T5.k2.pr (fun y => y ⟨fun e => by exact hne T5.k2.pr g13 ze e.symm,fun e => by exact hne T5.k2.pr g12 ze e.symm,trivial⟩)⟩) ?_
      subst hQ
      refine Mt.toGt qc ?_
      refine Gt.reb (H' := []) fun w6 h6 => ⟨trivial,trivial,?_⟩
      apply Gt.meet (w6,c12,c13,a',b')
      ·exact ⟨T5.evs h6 g12 g13 ⟨bb12,bb13⟩ hcx,pa,pb,h6.own.at (.tail _ (.head _)),h6.own.at (.head _)⟩
      ·repeat constructor
      ·exact fun _ h => h
     have k4q : ∀ (w5 : World) (a' b' : Ms) (c13 : Nat),TwoS cx w5 a' b' → a'.P = endP a.P 0 x (runO cx.E1 a.P 0 x kn) → b'.P = endP b.P 0 x (runO cx.E2 b.P 0 x kn) → (w5.heap[c13]? = some (.cells #[.int .i64 0,.int .i64 0,.int .i64 0] 35 (0,0)) ∧ cx.base2 ≤ c13) → Mt Tryz.prog ops' 153 3 #[true,true,true,true,true,true,true,true,true,true,true,true,true,true,false,true,false,false] [(2,.slice (some ⟨vb,vo,none⟩) rl.length vc),(8,.pointer (some ⟨cx.p1,0,none⟩)),(9,.pointer (some ⟨cx.p2,0,none⟩)),(58,.slice (some ⟨vb,vo,none⟩) rl.length vc),(59,.int .i64 (rl.length : Int)),(60,.int .i64 (j : Int)),(11,.int .i64 rl[j]),(86,.pointer (some ⟨cx.I1.m,0,none⟩)),(87,.int .i64 rl[j]),(93,.pointer (some ⟨cx.I2.m,0,none⟩)),(94,.int .i64 rl[j]),(89,evV 0 (runO cx.E1 a.P 0 x kn)),(96,evV 0 (runO cx.E2 b.P 0 x kn)),(13,.pointer (some ⟨c13,0,none⟩))] (Hp w5 []) C' Q' := by
      clear hQ
      intro w5 a' b' c13 T5 pa pb ⟨g13,bb13⟩
      refine Mt.eff1 (i := 14) qc zx ?_
      repeat' first | (apply Wl.alloc;exact rfl;intro c hc ho) | apply Wl.nil
      generalize c = c12 at *
      have hc12 : w5.heap.size ≤ c12 := by assumption
      have bb12 : cx.base2 ≤ c12 := Nat.le_trans T5.k2.ge.2 hc12
      refine Mt.backE (fun _ h' => by rw [hC];exact ⟨h'.upd.heap T5.k1.pr (fun y => y ⟨fun e => by have := lt_of_block T5.k1.pr;simp only at e;omega,trivial⟩),h'.upd.heap T5.k2.pr (fun y => y ⟨fun e => by have := lt_of_block T5.k2.pr;simp only at e;omega,trivial⟩)⟩) ?_
      refine Mt.reb fun w6 h6 => ?_
      refine Mt.lst (k4pq w6 a' b' c12 c13 (T5.hp h6 kb) pa pb ⟨(h6.own.at (.head _)),bb12⟩ ⟨(h6.upd.heap g13 fun y => y ⟨fun e => by have := lt_of_block g13;simp only at e;omega,trivial⟩),bb13⟩ (fun e => by have := lt_of_block g13;omega)) ?_ kg rfl
      (focus repeat constructor)
     have k4p : ∀ (w5 : World) (a' b' : Ms) (c12 : Nat),TwoS cx w5 a' b' → a'.P = endP a.P 0 x (runO cx.E1 a.P 0 x kn) → b'.P = endP b.P 0 x (runO cx.E2 b.P 0 x kn) → (w5.heap[c12]? = some (.cells #[.int .i64 0,.int .i64 0,.int .i64 0] 35 (0,0)) ∧ cx.base2 ≤ c12) → Mt Tryz.prog ops' 153 3 #[true,true,true,true,true,true,true,true,true,true,true,true,true,true,true,false,false,false] [(2,.slice (some ⟨vb,vo,none⟩) rl.length vc),(8,.pointer (some ⟨cx.p1,0,none⟩)),(9,.pointer (some ⟨cx.p2,0,none⟩)),(58,.slice (some ⟨vb,vo,none⟩) rl.length vc),(59,.int .i64 (rl.length : Int)),(60,.int .i64 (j : Int)),(11,.int .i64 rl[j]),(86,.pointer (some ⟨cx.I1.m,0,none⟩)),(87,.int .i64 rl[j]),(93,.pointer (some ⟨cx.I2.m,0,none⟩)),(94,.int .i64 rl[j]),(89,evV 0 (runO cx.E1 a.P 0 x kn)),(96,evV 0 (runO cx.E2 b.P 0 x kn)),(12,.pointer (some ⟨c12,0,none⟩))] (Hp w5 []) C' Q' := by
      clear k4q
      clear hQ
      intro w5 a' b' c12 T5 pa pb ⟨g12,bb12⟩
      refine Mt.eff1 (i := 15) qc zx ?_
      repeat' first | (apply Wl.alloc;exact rfl;intro c hc ho) | apply Wl.nil
      generalize c = c13 at *
      have hc13 : w5.heap.size ≤ c13 := by assumption
      have bb13 : cx.base2 ≤ c13 := Nat.le_trans T5.k2.ge.2 hc13
      refine Mt.backE (fun _ h' => by rw [hC];exact ⟨h'.upd.heap T5.k1.pr (fun y => y ⟨fun e => by have := lt_of_block T5.k1.pr;simp only at e;omega,trivial⟩),h'.upd.heap T5.k2.pr (fun y => y ⟨fun e => by have := lt_of_block T5.k2.pr;simp only at e;omega,trivial⟩)⟩) ?_
      refine Mt.reb fun w6 h6 => ?_
      refine Mt.lst (k4pq w6 a' b' c12 c13 (T5.hp h6 kb) pa pb ⟨(h6.upd.heap g12 fun y => y ⟨fun e => by have := lt_of_block g12;simp only at e;omega,trivial⟩),bb12⟩ ⟨(h6.own.at (.head _)),bb13⟩ (fun e => by have := lt_of_block g12;omega)) ?_ kg rfl
      (focus repeat constructor)
     have k3pq : ∀ (w5 : World) (a' b' : Ms) (c12 : Nat) (c13 : Nat),TwoS cx w5 a' b' → a'.P = endP a.P 0 x (runO cx.E1 a.P 0 x kn) → b'.P = b.P → (w5.heap[c12]? = some (.cells #[.int .i64 0,.int .i64 0,.int .i64 0] 35 (0,0)) ∧ cx.base2 ≤ c12) → (w5.heap[c13]? = some (.cells #[.int .i64 0,.int .i64 0,.int .i64 0] 35 (0,0)) ∧ cx.base2 ≤ c13) → c12 ≠ c13 → Mt Tryz.prog ops' 153 3 #[true,true,true,true,true,true,true,true,true,true,true,true,true,false,true,true,false,false] [(2,.slice (some ⟨vb,vo,none⟩) rl.length vc),(8,.pointer (some ⟨cx.p1,0,none⟩)),(9,.pointer (some ⟨cx.p2,0,none⟩)),(58,.slice (some ⟨vb,vo,none⟩) rl.length vc),(59,.int .i64 (rl.length : Int)),(60,.int .i64 (j : Int)),(11,.int .i64 rl[j]),(86,.pointer (some ⟨cx.I1.m,0,none⟩)),(87,.int .i64 rl[j]),(93,.pointer (some ⟨cx.I2.m,0,none⟩)),(94,.int .i64 rl[j]),(89,evV 0 (runO cx.E1 a.P 0 x kn)),(95,.int .i64 (kn : Int)),(12,.pointer (some ⟨c12,0,none⟩)),(13,.pointer (some ⟨c13,0,none⟩))] (Hp w5 []) C' Q' := by
      clear k4p k4q
      clear hQ
      intro w5 a' b' c12 c13 T5 pa pb ⟨g12,bb12⟩ ⟨g13,bb13⟩ ne
      refine Mt.eff1 (i := 13) qc zx ?_
      apply Wl.callC
      ·exact rfl
      ·repeat constructor
      intro wq hq
      have Tq := T5.quiet hq
      refine (Tq.runB hcx kn hknr (who := 0) (x := x) (by rw [pb];exact htb0) (by rw [pb];exact R.l2.2)).mono ?_
      rw [pb]
      rintro e w6 ⟨rfl,m6,hP6,T6,u6⟩
      have g12' := evKeep Tq.k2.mon u6 hq g12
      have g13' := evKeep Tq.k2.mon u6 hq g13
      refine ⟨_,_,rfl,Hp.start w6,?_⟩
      repeat' first | apply Wl.nil
      refine Mt.backE (fun _ h' => by rw [hC];exact ⟨h'.upd.heap T6.k1.pr (fun y => y trivial),h'.upd.heap T6.k2.pr (fun y => y trivial)⟩) ?_
      refine Mt.lst (k4pq w6 a' m6 c12 c13 T6 pa hP6 ⟨g12',bb12⟩ ⟨g13',bb13⟩ ne) ?_ kg rfl
      (focus repeat constructor)
     have k4 : ∀ (w5 : World) (a' b' : Ms),TwoS cx w5 a' b' → a'.P = endP a.P 0 x (runO cx.E1 a.P 0 x kn) → b'.P = endP b.P 0 x (runO cx.E2 b.P 0 x kn) → Mt Tryz.prog ops' 153 4 #[true,true,true,true,true,true,true,true,true,true,true,true,true,true,false,false,false,false] [(2,.slice (some ⟨vb,vo,none⟩) rl.length vc),(8,.pointer (some ⟨cx.p1,0,none⟩)),(9,.pointer (some ⟨cx.p2,0,none⟩)),(58,.slice (some ⟨vb,vo,none⟩) rl.length vc),(59,.int .i64 (rl.length : Int)),(60,.int .i64 (j : Int)),(11,.int .i64 rl[j]),(86,.pointer (some ⟨cx.I1.m,0,none⟩)),(87,.int .i64 rl[j]),(93,.pointer (some ⟨cx.I2.m,0,none⟩)),(94,.int .i64 rl[j]),(89,evV 0 (runO cx.E1 a.P 0 x kn)),(96,evV 0 (runO cx.E2 b.P 0 x kn))] (Hp w5 []) C' Q' := by
      clear k3pq k4pq
      clear hQ
      intro w5 a' b' T5 pa pb
      refine Mt.eff2 (i := 14) (j := 15) qc zx zx ?_ ?_
      ·repeat' first | (apply Wl.alloc;exact rfl;intro c hc ho) | apply Wl.nil
       generalize c = c12 at *
       have hc12 : w5.heap.size ≤ c12 := by assumption
       have bb12 : cx.base2 ≤ c12 := Nat.le_trans T5.k2.ge.2 hc12
       refine Mt.backE (fun _ h' => by rw [hC];exact ⟨h'.upd.heap T5.k1.pr (fun y => y ⟨fun e => by have := lt_of_block T5.k1.pr;simp only at e;omega,trivial⟩),h'.upd.heap T5.k2.pr (fun y => y ⟨fun e => by have := lt_of_block T5.k2.pr;simp only at e;omega,trivial⟩)⟩) ?_
       refine Mt.reb fun w6 h6 => ?_
       refine Mt.lst (k4p w6 a' b' c12 (T5.hp h6 kb) pa pb ⟨(h6.own.at (.head _)),bb12⟩) ?_ kg rfl
       (focus repeat constructor)
      ·repeat' first | (apply Wl.alloc;exact rfl;intro c hc ho) | apply Wl.nil
       generalize c = c13 at *
       have hc13 : w5.heap.size ≤ c13 := by assumption
       have bb13 : cx.base2 ≤ c13 := Nat.le_trans T5.k2.ge.2 hc13
       refine Mt.backE (fun _ h' => by rw [hC];exact ⟨h'.upd.heap T5.k1.pr (fun y => y ⟨fun e => by have := lt_of_block T5.k1.pr;simp only at e;omega,trivial⟩),h'.upd.heap T5.k2.pr (fun y => y ⟨fun e => by have := lt_of_block T5.k2.pr;simp only at e;omega,trivial⟩)⟩) ?_
       refine Mt.reb fun w6 h6 => ?_
       refine Mt.lst (k4q w6 a' b' c13 (T5.hp h6 kb) pa pb ⟨(h6.own.at (.head _)),bb13⟩) ?_ kg rfl
       (focus repeat constructor)
     have k3q : ∀ (w5 : World) (a' b' : Ms) (c13 : Nat),TwoS cx w5 a' b' → a'.P = endP a.P 0 x (runO cx.E1 a.P 0 x kn) → b'.P = b.P → (w5.heap[c13]? = some (.cells #[.int .i64 0,.int .i64 0,.int .i64 0] 35 (0,0)) ∧ cx.base2 ≤ c13) → Mt Tryz.prog ops' 153 4 #[true,true,true,true,true,true,true,true,true,true,true,true,true,false,false,true,false,false] [(2,.slice (some ⟨vb,vo,none⟩) rl.length vc),(8,.pointer (some ⟨cx.p1,0,none⟩)),(9,.pointer (some ⟨cx.p2,0,none⟩)),(58,.slice (some ⟨vb,vo,none⟩) rl.length vc),(59,.int .i64 (rl.length : Int)),(60,.int .i64 (j : Int)),(11,.int .i64 rl[j]),(86,.pointer (some ⟨cx.I1.m,0,none⟩)),(87,.int .i64 rl[j]),(93,.pointer (some ⟨cx.I2.m,0,none⟩)),(94,.int .i64 rl[j]),(89,evV 0 (runO cx.E1 a.P 0 x kn)),(95,.int .i64 (kn : Int)),(13,.pointer (some ⟨c13,0,none⟩))] (Hp w5 []) C' Q' := by
      clear k4 k4p k4pq
      clear hQ
      intro w5 a' b' c13 T5 pa pb ⟨g13,bb13⟩
      refine Mt.eff2 (i := 13) (j := 14) qc zx zx ?_ ?_
      ·apply Wl.callC
       ·exact rfl
       ·repeat constructor
       intro wq hq
       have Tq := T5.quiet hq
       refine (Tq.runB hcx kn hknr (who := 0) (x := x) (by rw [pb];exact htb0) (by rw [pb];exact R.l2.2)).mono ?_
       rw [pb]
       rintro e w6 ⟨rfl,m6,hP6,T6,u6⟩
       have g13' := evKeep Tq.k2.mon u6 hq g13
       refine ⟨_,_,rfl,Hp.start w6,?_⟩
       repeat' first | apply Wl.nil
       refine Mt.backE (fun _ h' => by rw [hC];exact ⟨h'.upd.heap T6.k1.pr (fun y => y trivial),h'.upd.heap T6.k2.pr (fun y => y trivial)⟩) ?_
       refine Mt.lst (k4q w6 a' m6 c13 T6 pa hP6 ⟨g13',bb13⟩) ?_ kg rfl
       (focus repeat constructor)
      ·repeat' first | (apply Wl.alloc;exact rfl;intro c hc ho) | apply Wl.nil
       generalize c = c12 at *
       have hc12 : w5.heap.size ≤ c12 := by assumption
       have bb12 : cx.base2 ≤ c12 := Nat.le_trans T5.k2.ge.2 hc12
       refine Mt.backE (fun _ h' => by rw [hC];exact ⟨h'.upd.heap T5.k1.pr (fun y => y ⟨fun e => by have := lt_of_block T5.k1.pr;simp only at e;omega,trivial⟩),h'.upd.heap T5.k2.pr (fun y => y ⟨fun e => by have := lt_of_block T5.k2.pr;simp only at e;omega,trivial⟩)⟩) ?_
       refine Mt.reb fun w6 h6 => ?_
       refine Mt.lst (k3pq w6 a' b' c12 c13 (T5.hp h6 kb) pa pb ⟨(h6.own.at (.head _)),bb12⟩ ⟨(h6.upd.heap g13 fun y => y ⟨fun e => by have := lt_of_block g13;simp only at e;omega,trivial⟩),bb13⟩ (fun e => by have := lt_of_block g13;omega)) ?_ kg rfl
       (focus repeat constructor)
     have k3p : ∀ (w5 : World) (a' b' : Ms) (c12 : Nat),TwoS cx w5 a' b' → a'.P = endP a.P 0 x (runO cx.E1 a.P 0 x kn) → b'.P = b.P → (w5.heap[c12]? = some (.cells #[.int .i64 0,.int .i64 0,.int .i64 0] 35 (0,0)) ∧ cx.base2 ≤ c12) → Mt Tryz.prog ops' 153 4 #[true,true,true,true,true,true,true,true,true,true,true,true,true,false,true,false,false,false] [(2,.slice (some ⟨vb,vo,none⟩) rl.length vc),(8,.pointer (some ⟨cx.p1,0,none⟩)),(9,.pointer (some ⟨cx.p2,0,none⟩)),(58,.slice (some ⟨vb,vo,none⟩) rl.length vc),(59,.int .i64 (rl.length : Int)),(60,.int .i64 (j : Int)),(11,.int .i64 rl[j]),(86,.pointer (some ⟨cx.I1.m,0,none⟩)),(87,.int .i64 rl[j]),(93,.pointer (some ⟨cx.I2.m,0,none⟩)),(94,.int .i64 rl[j]),(89,evV 0 (runO cx.E1 a.P 0 x kn)),(95,.int .i64 (kn : Int)),(12,.pointer (some ⟨c12,0,none⟩))] (Hp w5 []) C' Q' := by
      clear k3q k4 k4q k4pq
      clear hQ
      intro w5 a' b' c12 T5 pa pb ⟨g12,bb12⟩
      refine Mt.eff2 (i := 13) (j := 15) qc zx zx ?_ ?_
      ·apply Wl.callC
       ·exact rfl
       ·repeat constructor
       intro wq hq
       have Tq := T5.quiet hq
       refine (Tq.runB hcx kn hknr (who := 0) (x := x) (by rw [pb];exact htb0) (by rw [pb];exact R.l2.2)).mono ?_
       rw [pb]
       rintro e w6 ⟨rfl,m6,hP6,T6,u6⟩
       have g12' := evKeep Tq.k2.mon u6 hq g12
       refine ⟨_,_,rfl,Hp.start w6,?_⟩
       repeat' first | apply Wl.nil
       refine Mt.backE (fun _ h' => by rw [hC];exact ⟨h'.upd.heap T6.k1.pr (fun y => y trivial),h'.upd.heap T6.k2.pr (fun y => y trivial)⟩) ?_
       refine Mt.lst (k4p w6 a' m6 c12 T6 pa hP6 ⟨g12',bb12⟩) ?_ kg rfl
       (focus repeat constructor)
      ·repeat' first | (apply Wl.alloc;exact rfl;intro c hc ho) | apply Wl.nil
       generalize c = c13 at *
       have hc13 : w5.heap.size ≤ c13 := by assumption
       have bb13 : cx.base2 ≤ c13 := Nat.le_trans T5.k2.ge.2 hc13
       refine Mt.backE (fun _ h' => by rw [hC];exact ⟨h'.upd.heap T5.k1.pr (fun y => y ⟨fun e => by have := lt_of_block T5.k1.pr;simp only at e;omega,trivial⟩),h'.upd.heap T5.k2.pr (fun y => y ⟨fun e => by have := lt_of_block T5.k2.pr;simp only at e;omega,trivial⟩)⟩) ?_
       refine Mt.reb fun w6 h6 => ?_
       refine Mt.lst (k3pq w6 a' b' c12 c13 (T5.hp h6 kb) pa pb ⟨(h6.upd.heap g12 fun y => y ⟨fun e => by have := lt_of_block g12;simp only at e;omega,trivial⟩),bb12⟩ ⟨(h6.own.at (.head _)),bb13⟩ (fun e => by have := lt_of_block g12;omega)) ?_ kg rfl
       (focus repeat constructor)
     have k2pq : ∀ (w5 : World) (a' b' : Ms) (c12 : Nat) (c13 : Nat),TwoS cx w5 a' b' → a'.P = endP a.P 0 x (runO cx.E1 a.P 0 x kn) → b'.P = b.P → (w5.heap[c12]? = some (.cells #[.int .i64 0,.int .i64 0,.int .i64 0] 35 (0,0)) ∧ cx.base2 ≤ c12) → (w5.heap[c13]? = some (.cells #[.int .i64 0,.int .i64 0,.int .i64 0] 35 (0,0)) ∧ cx.base2 ≤ c13) → c12 ≠ c13 → Mt Tryz.prog ops' 153 4 #[true,true,true,true,true,true,true,true,true,true,true,true,false,false,true,true,false,false] [(2,.slice (some ⟨vb,vo,none⟩) rl.length vc),(8,.pointer (some ⟨cx.p1,0,none⟩)),(9,.pointer (some ⟨cx.p2,0,none⟩)),(58,.slice (some ⟨vb,vo,none⟩) rl.length vc),(59,.int .i64 (rl.length : Int)),(60,.int .i64 (j : Int)),(11,.int .i64 rl[j]),(86,.pointer (some ⟨cx.I1.m,0,none⟩)),(87,.int .i64 rl[j]),(93,.pointer (some ⟨cx.I2.m,0,none⟩)),(94,.int .i64 rl[j]),(89,evV 0 (runO cx.E1 a.P 0 x kn)),(12,.pointer (some ⟨c12,0,none⟩)),(13,.pointer (some ⟨c13,0,none⟩))] (Hp w5 []) C' Q' := by
      clear k3p k3q k4 k4p k4q k4pq
      clear hQ
      intro w5 a' b' c12 c13 T5 pa pb ⟨g12,bb12⟩ ⟨g13,bb13⟩ ne
      refine Mt.eff1 (i := 12) qc zx ?_
      apply Wl.callQ
      ·exact rfl
      ·repeat constructor
      ·intro wq hq
       exact hq.q (hstep wq)
      repeat' first | apply Wl.nil
      refine Mt.backE (fun _ h' => by rw [hC];exact ⟨h'.upd.heap T5.k1.pr (fun y => y trivial),h'.upd.heap T5.k2.pr (fun y => y trivial)⟩) ?_
      refine Mt.lst (k3pq w5 a' b' c12 c13 T5 pa pb ⟨g12,bb12⟩ ⟨g13,bb13⟩ ne) ?_ kg rfl
      (focus repeat constructor)
     have k3 : ∀ (w5 : World) (a' b' : Ms),TwoS cx w5 a' b' → a'.P = endP a.P 0 x (runO cx.E1 a.P 0 x kn) → b'.P = b.P → Mt Tryz.prog ops' 153 5 #[true,true,true,true,true,true,true,true,true,true,true,true,true,false,false,false,false,false] [(2,.slice (some ⟨vb,vo,none⟩) rl.length vc),(8,.pointer (some ⟨cx.p1,0,none⟩)),(9,.pointer (some ⟨cx.p2,0,none⟩)),(58,.slice (some ⟨vb,vo,none⟩) rl.length vc),(59,.int .i64 (rl.length : Int)),(60,.int .i64 (j : Int)),(11,.int .i64 rl[j]),(86,.pointer (some ⟨cx.I1.m,0,none⟩)),(87,.int .i64 rl[j]),(93,.pointer (some ⟨cx.I2.m,0,none⟩)),(94,.int .i64 rl[j]),(89,evV 0 (runO cx.E1 a.P 0 x kn)),(95,.int .i64 (kn : Int))] (Hp w5 []) C' Q' := by
      clear k2pq k3pq k4p k4q k4pq
      clear hQ
      intro w5 a' b' T5 pa pb
      refine Mt.eff3 (i := 13) (j := 14) (k := 15) qc zx zx zx ?_ ?_ ?_
      ·apply Wl.callC
       ·exact rfl
       ·repeat constructor
       intro wq hq
       have Tq := T5.quiet hq
       refine (Tq.runB hcx kn hknr (who := 0) (x := x) (by rw [pb];exact htb0) (by rw [pb];exact R.l2.2)).mono ?_
       rw [pb]
       rintro e w6 ⟨rfl,m6,hP6,T6,u6⟩
       refine ⟨_,_,rfl,Hp.start w6,?_⟩
       repeat' first | apply Wl.nil
       refine Mt.backE (fun _ h' => by rw [hC];exact ⟨h'.upd.heap T6.k1.pr (fun y => y trivial),h'.upd.heap T6.k2.pr (fun y => y trivial)⟩) ?_
       refine Mt.lst (k4 w6 a' m6 T6 pa hP6) ?_ kg rfl
       (focus repeat constructor)
      ·repeat' first | (apply Wl.alloc;exact rfl;intro c hc ho) | apply Wl.nil
       generalize c = c12 at *
       have hc12 : w5.heap.size ≤ c12 := by assumption
       have bb12 : cx.base2 ≤ c12 := Nat.le_trans T5.k2.ge.2 hc12
       refine Mt.backE (fun _ h' => by rw [hC];exact ⟨h'.upd.heap T5.k1.pr (fun y => y ⟨fun e => by have := lt_of_block T5.k1.pr;simp only at e;omega,trivial⟩),h'.upd.heap T5.k2.pr (fun y => y ⟨fun e => by have := lt_of_block T5.k2.pr;simp only at e;omega,trivial⟩)⟩) ?_
       refine Mt.reb fun w6 h6 => ?_
       refine Mt.lst (k3p w6 a' b' c12 (T5.hp h6 kb) pa pb ⟨(h6.own.at (.head _)),bb12⟩) ?_ kg rfl
       (focus repeat constructor)
      ·repeat' first | (apply Wl.alloc;exact rfl;intro c hc ho) | apply Wl.nil
       generalize c = c13 at *
       have hc13 : w5.heap.size ≤ c13 := by assumption
       have bb13 : cx.base2 ≤ c13 := Nat.le_trans T5.k2.ge.2 hc13
       refine Mt.backE (fun _ h' => by rw [hC];exact ⟨h'.upd.heap T5.k1.pr (fun y => y ⟨fun e => by have := lt_of_block T5.k1.pr;simp only at e;omega,trivial⟩),h'.upd.heap T5.k2.pr (fun y => y ⟨fun e => by have := lt_of_block T5.k2.pr;simp only at e;omega,trivial⟩)⟩) ?_
       refine Mt.reb fun w6 h6 => ?_
       refine Mt.lst (k3q w6 a' b' c13 (T5.hp h6 kb) pa pb ⟨(h6.own.at (.head _)),bb13⟩) ?_ kg rfl
       (focus repeat constructor)
     have k2q : ∀ (w5 : World) (a' b' : Ms) (c13 : Nat),TwoS cx w5 a' b' → a'.P = endP a.P 0 x (runO cx.E1 a.P 0 x kn) → b'.P = b.P → (w5.heap[c13]? = some (.cells #[.int .i64 0,.int .i64 0,.int .i64 0] 35 (0,0)) ∧ cx.base2 ≤ c13) → Mt Tryz.prog ops' 153 5 #[true,true,true,true,true,true,true,true,true,true,true,true,false,false,false,true,false,false] [(2,.slice (some ⟨vb,vo,none⟩) rl.length vc),(8,.pointer (some ⟨cx.p1,0,none⟩)),(9,.pointer (some ⟨cx.p2,0,none⟩)),(58,.slice (some ⟨vb,vo,none⟩) rl.length vc),(59,.int .i64 (rl.length : Int)),(60,.int .i64 (j : Int)),(11,.int .i64 rl[j]),(86,.pointer (some ⟨cx.I1.m,0,none⟩)),(87,.int .i64 rl[j]),(93,.pointer (some ⟨cx.I2.m,0,none⟩)),(94,.int .i64 rl[j]),(89,evV 0 (runO cx.E1 a.P 0 x kn)),(13,.pointer (some ⟨c13,0,none⟩))] (Hp w5 []) C' Q' := by
      clear k3 k3p k4 k3pq k4p k4q k4pq
      clear hQ
      intro w5 a' b' c13 T5 pa pb ⟨g13,bb13⟩
      refine Mt.eff2 (i := 12) (j := 14) qc zx zx ?_ ?_
      ·apply Wl.callQ
       ·exact rfl
       ·repeat constructor
       ·intro wq hq
        exact hq.q (hstep wq)
       repeat' first | apply Wl.nil
       refine Mt.backE (fun _ h' => by rw [hC];exact ⟨h'.upd.heap T5.k1.pr (fun y => y trivial),h'.upd.heap T5.k2.pr (fun y => y trivial)⟩) ?_
       refine Mt.lst (k3q w5 a' b' c13 T5 pa pb ⟨g13,bb13⟩) ?_ kg rfl
       (focus repeat constructor)
      ·repeat' first | (apply Wl.alloc;exact rfl;intro c hc ho) | apply Wl.nil
       generalize c = c12 at *
       have hc12 : w5.heap.size ≤ c12 := by assumption
       have bb12 : cx.base2 ≤ c12 := Nat.le_trans T5.k2.ge.2 hc12
       refine Mt.backE (fun _ h' => by rw [hC];exact ⟨h'.upd.heap T5.k1.pr (fun y => y ⟨fun e => by have := lt_of_block T5.k1.pr;simp only at e;omega,trivial⟩),h'.upd.heap T5.k2.pr (fun y => y ⟨fun e => by have := lt_of_block T5.k2.pr;simp only at e;omega,trivial⟩)⟩) ?_
       refine Mt.reb fun w6 h6 => ?_
       refine Mt.lst (k2pq w6 a' b' c12 c13 (T5.hp h6 kb) pa pb ⟨(h6.own.at (.head _)),bb12⟩ ⟨(h6.upd.heap g13 fun y => y ⟨fun e => by have := lt_of_block g13;simp only at e;omega,trivial⟩),bb13⟩ (fun e => by have := lt_of_block g13;omega)) ?_ kg rfl
       (focus repeat constructor)
     have k2p : ∀ (w5 : World) (a' b' : Ms) (c12 : Nat),TwoS cx w5 a' b' → a'.P = endP a.P 0 x (runO cx.E1 a.P 0 x kn) → b'.P = b.P → (w5.heap[c12]? = some (.cells #[.int .i64 0,.int .i64 0,.int .i64 0] 35 (0,0)) ∧ cx.base2 ≤ c12) → Mt Tryz.prog ops' 153 5 #[true,true,true,true,true,true,true,true,true,true,true,true,false,false,true,false,false,false] [(2,.slice (some ⟨vb,vo,none⟩) rl.length vc),(8,.pointer (some ⟨cx.p1,0,none⟩)),(9,.pointer (some ⟨cx.p2,0,none⟩)),(58,.slice (some ⟨vb,vo,none⟩) rl.length vc),(59,.int .i64 (rl.length : Int)),(60,.int .i64 (j : Int)),(11,.int .i64 rl[j]),(86,.pointer (some ⟨cx.I1.m,0,none⟩)),(87,.int .i64 rl[j]),(93,.pointer (some ⟨cx.I2.m,0,none⟩)),(94,.int .i64 rl[j]),(89,evV 0 (runO cx.E1 a.P 0 x kn)),(12,.pointer (some ⟨c12,0,none⟩))] (Hp w5 []) C' Q' := by
      clear k2q k3 k3q k4 k3pq k4p k4q k4pq
      clear hQ
      intro w5 a' b' c12 T5 pa pb ⟨g12,bb12⟩
      refine Mt.eff2 (i := 12) (j := 15) qc zx zx ?_ ?_
      ·apply Wl.callQ
       ·exact rfl
       ·repeat constructor
       ·intro wq hq
        exact hq.q (hstep wq)
       repeat' first | apply Wl.nil
       refine Mt.backE (fun _ h' => by rw [hC];exact ⟨h'.upd.heap T5.k1.pr (fun y => y trivial),h'.upd.heap T5.k2.pr (fun y => y trivial)⟩) ?_
       refine Mt.lst (k3p w5 a' b' c12 T5 pa pb ⟨g12,bb12⟩) ?_ kg rfl
       (focus repeat constructor)
      ·repeat' first | (apply Wl.alloc;exact rfl;intro c hc ho) | apply Wl.nil
       generalize c = c13 at *
       have hc13 : w5.heap.size ≤ c13 := by assumption
       have bb13 : cx.base2 ≤ c13 := Nat.le_trans T5.k2.ge.2 hc13
       refine Mt.backE (fun _ h' => by rw [hC];exact ⟨h'.upd.heap T5.k1.pr (fun y => y ⟨fun e => by have := lt_of_block T5.k1.pr;simp only at e;omega,trivial⟩),h'.upd.heap T5.k2.pr (fun y => y ⟨fun e => by have := lt_of_block T5.k2.pr;simp only at e;omega,trivial⟩)⟩) ?_
       refine Mt.reb fun w6 h6 => ?_
       refine Mt.lst (k2pq w6 a' b' c12 c13 (T5.hp h6 kb) pa pb ⟨(h6.upd.heap g12 fun y => y ⟨fun e => by have := lt_of_block g12;simp only at e;omega,trivial⟩),bb12⟩ ⟨(h6.own.at (.head _)),bb13⟩ (fun e => by have := lt_of_block g12;omega)) ?_ kg rfl
       (focus repeat constructor)
     have k1pq : ∀ (w5 : World) (a' b' : Ms) (c12 : Nat) (c13 : Nat),TwoS cx w5 a' b' → a'.P = a.P → b'.P = b.P → (w5.heap[c12]? = some (.cells #[.int .i64 0,.int .i64 0,.int .i64 0] 35 (0,0)) ∧ cx.base2 ≤ c12) → (w5.heap[c13]? = some (.cells #[.int .i64 0,.int .i64 0,.int .i64 0] 35 (0,0)) ∧ cx.base2 ≤ c13) → c12 ≠ c13 → Mt Tryz.prog ops' 153 5 #[true,true,true,true,true,true,false,true,true,true,true,true,false,false,true,true,false,false] [(2,.slice (some ⟨vb,vo,none⟩) rl.length vc),(8,.pointer (some ⟨cx.p1,0,none⟩)),(9,.pointer (some ⟨cx.p2,0,none⟩)),(58,.slice (some ⟨vb,vo,none⟩) rl.length vc),(59,.int .i64 (rl.length : Int)),(60,.int .i64 (j : Int)),(11,.int .i64 rl[j]),(86,.pointer (some ⟨cx.I1.m,0,none⟩)),(87,.int .i64 rl[j]),(93,.pointer (some ⟨cx.I2.m,0,none⟩)),(94,.int .i64 rl[j]),(88,.int .i64 (kn : Int)),(12,.pointer (some ⟨c12,0,none⟩)),(13,.pointer (some ⟨c13,0,none⟩))] (Hp w5 []) C' Q' := by
      clear k2p k2q k3 k3p k3q k4 k3pq k4p k4q k4pq
      clear hQ
      intro w5 a' b' c12 c13 T5 pa pb ⟨g12,bb12⟩ ⟨g13,bb13⟩ ne
      refine Mt.eff1 (i := 6) qc zx ?_
      apply Wl.callC
      ·exact rfl
      ·repeat constructor
      intro wq hq
      have Tq := T5.quiet hq
      refine (Tq.runA hcx kn hknr (who := 0) (x := x) (by rw [pa];exact hta0) (by rw [pa];exact hx1)).mono ?_
      rw [pa]
      rintro e w6 ⟨rfl,m6,hP6,T6,u6⟩
      have g12' := evKeep Tq.k1.mon u6 hq g12
      have g13' := evKeep Tq.k1.mon u6 hq g13
      refine ⟨_,_,rfl,Hp.start w6,?_⟩
      repeat' first | apply Wl.nil
      refine Mt.backE (fun _ h' => by rw [hC];exact ⟨h'.upd.heap T6.k1.pr (fun y => y trivial),h'.upd.heap T6.k2.pr (fun y => y trivial)⟩) ?_
      refine Mt.lst (k2pq w6 m6 b' c12 c13 T6 hP6 pb ⟨g12',bb12⟩ ⟨g13',bb13⟩ ne) ?_ kg rfl
      (focus repeat constructor)
     have k2 : ∀ (w5 : World) (a' b' : Ms),TwoS cx w5 a' b' → a'.P = endP a.P 0 x (runO cx.E1 a.P 0 x kn) → b'.P = b.P → Mt Tryz.prog ops' 153 6 #[true,true,true,true,true,true,true,true,true,true,true,true,false,false,false,false,false,false] [(2,.slice (some ⟨vb,vo,none⟩) rl.length vc),(8,.pointer (some ⟨cx.p1,0,none⟩)),(9,.pointer (some ⟨cx.p2,0,none⟩)),(58,.slice (some ⟨vb,vo,none⟩) rl.length vc),(59,.int .i64 (rl.length : Int)),(60,.int .i64 (j : Int)),(11,.int .i64 rl[j]),(86,.pointer (some ⟨cx.I1.m,0,none⟩)),(87,.int .i64 rl[j]),(93,.pointer (some ⟨cx.I2.m,0,none⟩)),(94,.int .i64 rl[j]),(89,evV 0 (runO cx.E1 a.P 0 x kn))] (Hp w5 []) C' Q' := by
      clear k1pq k2pq k3p k3q k4 k3pq k4p k4q k4pq
      clear hQ
      intro w5 a' b' T5 pa pb
      refine Mt.eff3 (i := 12) (j := 14) (k := 15) qc zx zx zx ?_ ?_ ?_
      ·apply Wl.callQ
       ·exact rfl
       ·repeat constructor
       ·intro wq hq
        exact hq.q (hstep wq)
       repeat' first | apply Wl.nil
       refine Mt.backE (fun _ h' => by rw [hC];exact ⟨h'.upd.heap T5.k1.pr (fun y => y trivial),h'.upd.heap T5.k2.pr (fun y => y trivial)⟩) ?_
       refine Mt.lst (k3 w5 a' b' T5 pa pb) ?_ kg rfl
       (focus repeat constructor)
      ·repeat' first | (apply Wl.alloc;exact rfl;intro c hc ho) | apply Wl.nil
       generalize c = c12 at *
       have hc12 : w5.heap.size ≤ c12 := by assumption
       have bb12 : cx.base2 ≤ c12 := Nat.le_trans T5.k2.ge.2 hc12
       refine Mt.backE (fun _ h' => by rw [hC];exact ⟨h'.upd.heap T5.k1.pr (fun y => y ⟨fun e => by have := lt_of_block T5.k1.pr;simp only at e;omega,trivial⟩),h'.upd.heap T5.k2.pr (fun y => y ⟨fun e => by have := lt_of_block T5.k2.pr;simp only at e;omega,trivial⟩)⟩) ?_
       refine Mt.reb fun w6 h6 => ?_
       refine Mt.lst (k2p w6 a' b' c12 (T5.hp h6 kb) pa pb ⟨(h6.own.at (.head _)),bb12⟩) ?_ kg rfl
       (focus repeat constructor)
      ·repeat' first | (apply Wl.alloc;exact rfl;intro c hc ho) | apply Wl.nil
       generalize c = c13 at *
       have hc13 : w5.heap.size ≤ c13 := by assumption
       have bb13 : cx.base2 ≤ c13 := Nat.le_trans T5.k2.ge.2 hc13
       refine Mt.backE (fun _ h' => by rw [hC];exact ⟨h'.upd.heap T5.k1.pr (fun y => y ⟨fun e => by have := lt_of_block T5.k1.pr;simp only at e;omega,trivial⟩),h'.upd.heap T5.k2.pr (fun y => y ⟨fun e => by have := lt_of_block T5.k2.pr;simp only at e;omega,trivial⟩)⟩) ?_
       refine Mt.reb fun w6 h6 => ?_
       refine Mt.lst (k2q w6 a' b' c13 (T5.hp h6 kb) pa pb ⟨(h6.own.at (.head _)),bb13⟩) ?_ kg rfl
       (focus repeat constructor)
     have k1q : ∀ (w5 : World) (a' b' : Ms) (c13 : Nat),TwoS cx w5 a' b' → a'.P = a.P → b'.P = b.P → (w5.heap[c13]? = some (.cells #[.int .i64 0,.int .i64 0,.int .i64 0] 35 (0,0)) ∧ cx.base2 ≤ c13) → Mt Tryz.prog ops' 153 6 #[true,true,true,true,true,true,false,true,true,true,true,true,false,false,false,true,false,false] [(2,.slice (some ⟨vb,vo,none⟩) rl.length vc),(8,.pointer (some ⟨cx.p1,0,none⟩)),(9,.pointer (some ⟨cx.p2,0,none⟩)),(58,.slice (some ⟨vb,vo,none⟩) rl.length vc),(59,.int .i64 (rl.length : Int)),(60,.int .i64 (j : Int)),(11,.int .i64 rl[j]),(86,.pointer (some ⟨cx.I1.m,0,none⟩)),(87,.int .i64 rl[j]),(93,.pointer (some ⟨cx.I2.m,0,none⟩)),(94,.int .i64 rl[j]),(88,.int .i64 (kn : Int)),(13,.pointer (some ⟨c13,0,none⟩))] (Hp w5 []) C' Q' := by
      clear k2 k2p k3 k2pq k3p k3q k4 k3pq k4p k4q k4pq
      clear hQ
      intro w5 a' b' c13 T5 pa pb ⟨g13,bb13⟩
      refine Mt.eff2 (i := 6) (j := 14) qc zx zx ?_ ?_
      ·apply Wl.callC
       ·exact rfl
       ·repeat constructor
       intro wq hq
       have Tq := T5.quiet hq
       refine (Tq.runA hcx kn hknr (who := 0) (x := x) (by rw [pa];exact hta0) (by rw [pa];exact hx1)).mono ?_
       rw [pa]
       rintro e w6 ⟨rfl,m6,hP6,T6,u6⟩
       have g13' := evKeep Tq.k1.mon u6 hq g13
       refine ⟨_,_,rfl,Hp.start w6,?_⟩
       repeat' first | apply Wl.nil
       refine Mt.backE (fun _ h' => by rw [hC];exact ⟨h'.upd.heap T6.k1.pr (fun y => y trivial),h'.upd.heap T6.k2.pr (fun y => y trivial)⟩) ?_
       refine Mt.lst (k2q w6 m6 b' c13 T6 hP6 pb ⟨g13',bb13⟩) ?_ kg rfl
       (focus repeat constructor)
      ·repeat' first | (apply Wl.alloc;exact rfl;intro c hc ho) | apply Wl.nil
       generalize c = c12 at *
       have hc12 : w5.heap.size ≤ c12 := by assumption
       have bb12 : cx.base2 ≤ c12 := Nat.le_trans T5.k2.ge.2 hc12
       refine Mt.backE (fun _ h' => by rw [hC];exact ⟨h'.upd.heap T5.k1.pr (fun y => y ⟨fun e => by have := lt_of_block T5.k1.pr;simp only at e;omega,trivial⟩),h'.upd.heap T5.k2.pr (fun y => y ⟨fun e => by have := lt_of_block T5.k2.pr;simp only at e;omega,trivial⟩)⟩) ?_
       refine Mt.reb fun w6 h6 => ?_
       refine Mt.lst (k1pq w6 a' b' c12 c13 (T5.hp h6 kb) pa pb ⟨(h6.own.at (.head _)),bb12⟩ ⟨(h6.upd.heap g13 fun y => y ⟨fun e => by have := lt_of_block g13;simp only at e;omega,trivial⟩),bb13⟩ (fun e => by have := lt_of_block g13;omega)) ?_ kg rfl
       (focus repeat constructor)
     have k1p : ∀ (w5 : World) (a' b' : Ms) (c12 : Nat),TwoS cx w5 a' b' → a'.P = a.P → b'.P = b.P → (w5.heap[c12]? = some (.cells #[.int .i64 0,.int .i64 0,.int .i64 0] 35 (0,0)) ∧ cx.base2 ≤ c12) → Mt Tryz.prog ops' 153 6 #[true,true,true,true,true,true,false,true,true,true,true,true,false,false,true,false,false,false] [(2,.slice (some ⟨vb,vo,none⟩) rl.length vc),(8,.pointer (some ⟨cx.p1,0,none⟩)),(9,.pointer (some ⟨cx.p2,0,none⟩)),(58,.slice (some ⟨vb,vo,none⟩) rl.length vc),(59,.int .i64 (rl.length : Int)),(60,.int .i64 (j : Int)),(11,.int .i64 rl[j]),(86,.pointer (some ⟨cx.I1.m,0,none⟩)),(87,.int .i64 rl[j]),(93,.pointer (some ⟨cx.I2.m,0,none⟩)),(94,.int .i64 rl[j]),(88,.int .i64 (kn : Int)),(12,.pointer (some ⟨c12,0,none⟩))] (Hp w5 []) C' Q' := by
      clear k1q k2 k2q k3 k2pq k3p k3q k4 k3pq k4p k4q k4pq
      clear hQ
      intro w5 a' b' c12 T5 pa pb ⟨g12,bb12⟩
      refine Mt.eff2 (i := 6) (j := 15) qc zx zx ?_ ?_
      ·apply Wl.callC
       ·exact rfl
       ·repeat constructor
       intro wq hq
       have Tq := T5.quiet hq
       refine (Tq.runA hcx kn hknr (who := 0) (x := x) (by rw [pa];exact hta0) (by rw [pa];exact hx1)).mono ?_
       rw [pa]
       rintro e w6 ⟨rfl,m6,hP6,T6,u6⟩
       have g12' := evKeep Tq.k1.mon u6 hq g12
       refine ⟨_,_,rfl,Hp.start w6,?_⟩
       repeat' first | apply Wl.nil
       refine Mt.backE (fun _ h' => by rw [hC];exact ⟨h'.upd.heap T6.k1.pr (fun y => y trivial),h'.upd.heap T6.k2.pr (fun y => y trivial)⟩) ?_
       refine Mt.lst (k2p w6 m6 b' c12 T6 hP6 pb ⟨g12',bb12⟩) ?_ kg rfl
       (focus repeat constructor)
      ·repeat' first | (apply Wl.alloc;exact rfl;intro c hc ho) | apply Wl.nil
       generalize c = c13 at *
       have hc13 : w5.heap.size ≤ c13 := by assumption
       have bb13 : cx.base2 ≤ c13 := Nat.le_trans T5.k2.ge.2 hc13
       refine Mt.backE (fun _ h' => by rw [hC];exact ⟨h'.upd.heap T5.k1.pr (fun y => y ⟨fun e => by have := lt_of_block T5.k1.pr;simp only at e;omega,trivial⟩),h'.upd.heap T5.k2.pr (fun y => y ⟨fun e => by have := lt_of_block T5.k2.pr;simp only at e;omega,trivial⟩)⟩) ?_
       refine Mt.reb fun w6 h6 => ?_
       refine Mt.lst (k1pq w6 a' b' c12 c13 (T5.hp h6 kb) pa pb ⟨(h6.upd.heap g12 fun y => y ⟨fun e => by have := lt_of_block g12;simp only at e;omega,trivial⟩),bb12⟩ ⟨(h6.own.at (.head _)),bb13⟩ (fun e => by have := lt_of_block g12;omega)) ?_ kg rfl
       (focus repeat constructor)
     have k0pq : ∀ (w5 : World) (a' b' : Ms) (c12 : Nat) (c13 : Nat),TwoS cx w5 a' b' → a'.P = a.P → b'.P = b.P → (w5.heap[c12]? = some (.cells #[.int .i64 0,.int .i64 0,.int .i64 0] 35 (0,0)) ∧ cx.base2 ≤ c12) → (w5.heap[c13]? = some (.cells #[.int .i64 0,.int .i64 0,.int .i64 0] 35 (0,0)) ∧ cx.base2 ≤ c13) → c12 ≠ c13 → Mt Tryz.prog ops' 153 6 #[true,true,true,true,true,false,false,true,true,true,true,true,false,false,true,true,false,false] [(2,.slice (some ⟨vb,vo,none⟩) rl.length vc),(8,.pointer (some ⟨cx.p1,0,none⟩)),(9,.pointer (some ⟨cx.p2,0,none⟩)),(58,.slice (some ⟨vb,vo,none⟩) rl.length vc),(59,.int .i64 (rl.length : Int)),(60,.int .i64 (j : Int)),(11,.int .i64 rl[j]),(86,.pointer (some ⟨cx.I1.m,0,none⟩)),(87,.int .i64 rl[j]),(93,.pointer (some ⟨cx.I2.m,0,none⟩)),(94,.int .i64 rl[j]),(12,.pointer (some ⟨c12,0,none⟩)),(13,.pointer (some ⟨c13,0,none⟩))] (Hp w5 []) C' Q' := by
      clear k1p k1q k2 k2p k2q k3 k2pq k3p k3q k4 k3pq k4p k4q k4pq
      clear hQ
      intro w5 a' b' c12 c13 T5 pa pb ⟨g12,bb12⟩ ⟨g13,bb13⟩ ne
      refine Mt.eff1 (i := 5) qc zx ?_
      apply Wl.callQ
      ·exact rfl
      ·repeat constructor
      ·intro wq hq
       exact hq.q (hstep wq)
      repeat' first | apply Wl.nil
      refine Mt.backE (fun _ h' => by rw [hC];exact ⟨h'.upd.heap T5.k1.pr (fun y => y trivial),h'.upd.heap T5.k2.pr (fun y => y trivial)⟩) ?_
      refine Mt.lst (k1pq w5 a' b' c12 c13 T5 pa pb ⟨g12,bb12⟩ ⟨g13,bb13⟩ ne) ?_ kg rfl
      (focus repeat constructor)
     have k1 : ∀ (w5 : World) (a' b' : Ms),TwoS cx w5 a' b' → a'.P = a.P → b'.P = b.P → Mt Tryz.prog ops' 153 7 #[true,true,true,true,true,true,false,true,true,true,true,true,false,false,false,false,false,false] [(2,.slice (some ⟨vb,vo,none⟩) rl.length vc),(8,.pointer (some ⟨cx.p1,0,none⟩)),(9,.pointer (some ⟨cx.p2,0,none⟩)),(58,.slice (some ⟨vb,vo,none⟩) rl.length vc),(59,.int .i64 (rl.length : Int)),(60,.int .i64 (j : Int)),(11,.int .i64 rl[j]),(86,.pointer (some ⟨cx.I1.m,0,none⟩)),(87,.int .i64 rl[j]),(93,.pointer (some ⟨cx.I2.m,0,none⟩)),(94,.int .i64 rl[j]),(88,.int .i64 (kn : Int))] (Hp w5 []) C' Q' := by
      clear k0pq k1pq k2p k2q k3 k2pq k3p k3q k4 k3pq k4p k4q k4pq
      clear hQ
      intro w5 a' b' T5 pa pb
      refine Mt.eff3 (i := 6) (j := 14) (k := 15) qc zx zx zx ?_ ?_ ?_
      ·apply Wl.callC
       ·exact rfl
       ·repeat constructor
       intro wq hq
       have Tq := T5.quiet hq
       refine (Tq.runA hcx kn hknr (who := 0) (x := x) (by rw [pa];exact hta0) (by rw [pa];exact hx1)).mono ?_
       rw [pa]
       rintro e w6 ⟨rfl,m6,hP6,T6,u6⟩
       refine ⟨_,_,rfl,Hp.start w6,?_⟩
       repeat' first | apply Wl.nil
       refine Mt.backE (fun _ h' => by rw [hC];exact ⟨h'.upd.heap T6.k1.pr (fun y => y trivial),h'.upd.heap T6.k2.pr (fun y => y trivial)⟩) ?_
       refine Mt.lst (k2 w6 m6 b' T6 hP6 pb) ?_ kg rfl
       (focus repeat constructor)
      ·repeat' first | (apply Wl.alloc;exact rfl;intro c hc ho) | apply Wl.nil
       generalize c = c12 at *
       have hc12 : w5.heap.size ≤ c12 := by assumption
       have bb12 : cx.base2 ≤ c12 := Nat.le_trans T5.k2.ge.2 hc12
       refine Mt.backE (fun _ h' => by rw [hC];exact ⟨h'.upd.heap T5.k1.pr (fun y => y ⟨fun e => by have := lt_of_block T5.k1.pr;simp only at e;omega,trivial⟩),h'.upd.heap T5.k2.pr (fun y => y ⟨fun e => by have := lt_of_block T5.k2.pr;simp only at e;omega,trivial⟩)⟩) ?_
       refine Mt.reb fun w6 h6 => ?_
       refine Mt.lst (k1p w6 a' b' c12 (T5.hp h6 kb) pa pb ⟨(h6.own.at (.head _)),bb12⟩) ?_ kg rfl
       (focus repeat constructor)
      ·repeat' first | (apply Wl.alloc;exact rfl;intro c hc ho) | apply Wl.nil
       generalize c = c13 at *
       have hc13 : w5.heap.size ≤ c13 := by assumption
       have bb13 : cx.base2 ≤ c13 := Nat.le_trans T5.k2.ge.2 hc13
       refine Mt.backE (fun _ h' => by rw [hC];exact ⟨h'.upd.heap T5.k1.pr (fun y => y ⟨fun e => by have := lt_of_block T5.k1.pr;simp only at e;omega,trivial⟩),h'.upd.heap T5.k2.pr (fun y => y ⟨fun e => by have := lt_of_block T5.k2.pr;simp only at e;omega,trivial⟩)⟩) ?_
       refine Mt.reb fun w6 h6 => ?_
       refine Mt.lst (k1q w6 a' b' c13 (T5.hp h6 kb) pa pb ⟨(h6.own.at (.head _)),bb13⟩) ?_ kg rfl
       (focus repeat constructor)
     have k0q : ∀ (w5 : World) (a' b' : Ms) (c13 : Nat),TwoS cx w5 a' b' → a'.P = a.P → b'.P = b.P → (w5.heap[c13]? = some (.cells #[.int .i64 0,.int .i64 0,.int .i64 0] 35 (0,0)) ∧ cx.base2 ≤ c13) → Mt Tryz.prog ops' 153 7 #[true,true,true,true,true,false,false,true,true,true,true,true,false,false,false,true,false,false] [(2,.slice (some ⟨vb,vo,none⟩) rl.length vc),(8,.pointer (some ⟨cx.p1,0,none⟩)),(9,.pointer (some ⟨cx.p2,0,none⟩)),(58,.slice (some ⟨vb,vo,none⟩) rl.length vc),(59,.int .i64 (rl.length : Int)),(60,.int .i64 (j : Int)),(11,.int .i64 rl[j]),(86,.pointer (some ⟨cx.I1.m,0,none⟩)),(87,.int .i64 rl[j]),(93,.pointer (some ⟨cx.I2.m,0,none⟩)),(94,.int .i64 rl[j]),(13,.pointer (some ⟨c13,0,none⟩))] (Hp w5 []) C' Q' := by
      clear k1 k1p k2 k1pq k2p k2q k3 k2pq k3p k3q k4 k3pq k4p k4q k4pq
      clear hQ
      intro w5 a' b' c13 T5 pa pb ⟨g13,bb13⟩
      refine Mt.eff2 (i := 5) (j := 14) qc zx zx ?_ ?_
      ·apply Wl.callQ
       ·exact rfl
       ·repeat constructor
       ·intro wq hq
        exact hq.q (hstep wq)
       repeat' first | apply Wl.nil
       refine Mt.backE (fun _ h' => by rw [hC];exact ⟨h'.upd.heap T5.k1.pr (fun y => y trivial),h'.upd.heap T5.k2.pr (fun y => y trivial)⟩) ?_
       refine Mt.lst (k1q w5 a' b' c13 T5 pa pb ⟨g13,bb13⟩) ?_ kg rfl
       (focus repeat constructor)
      ·repeat' first | (apply Wl.alloc;exact rfl;intro c hc ho) | apply Wl.nil
       generalize c = c12 at *
       have hc12 : w5.heap.size ≤ c12 := by assumption
       have bb12 : cx.base2 ≤ c12 := Nat.le_trans T5.k2.ge.2 hc12
       refine Mt.backE (fun _ h' => by rw [hC];exact ⟨h'.upd.heap T5.k1.pr (fun y => y ⟨fun e => by have := lt_of_block T5.k1.pr;simp only at e;omega,trivial⟩),h'.upd.heap T5.k2.pr (fun y => y ⟨fun e => by have := lt_of_block T5.k2.pr;simp only at e;omega,trivial⟩)⟩) ?_
       refine Mt.reb fun w6 h6 => ?_
       refine Mt.lst (k0pq w6 a' b' c12 c13 (T5.hp h6 kb) pa pb ⟨(h6.own.at (.head _)),bb12⟩ ⟨(h6.upd.heap g13 fun y => y ⟨fun e => by have := lt_of_block g13;simp only at e;omega,trivial⟩),bb13⟩ (fun e => by have := lt_of_block g13;omega)) ?_ kg rfl
       (focus repeat constructor)
     have k0p : ∀ (w5 : World) (a' b' : Ms) (c12 : Nat),TwoS cx w5 a' b' → a'.P = a.P → b'.P = b.P → (w5.heap[c12]? = some (.cells #[.int .i64 0,.int .i64 0,.int .i64 0] 35 (0,0)) ∧ cx.base2 ≤ c12) → Mt Tryz.prog ops' 153 7 #[true,true,true,true,true,false,false,true,true,true,true,true,false,false,true,false,false,false] [(2,.slice (some ⟨vb,vo,none⟩) rl.length vc),(8,.pointer (some ⟨cx.p1,0,none⟩)),(9,.pointer (some ⟨cx.p2,0,none⟩)),(58,.slice (some ⟨vb,vo,none⟩) rl.length vc),(59,.int .i64 (rl.length : Int)),(60,.int .i64 (j : Int)),(11,.int .i64 rl[j]),(86,.pointer (some ⟨cx.I1.m,0,none⟩)),(87,.int .i64 rl[j]),(93,.pointer (some ⟨cx.I2.m,0,none⟩)),(94,.int .i64 rl[j]),(12,.pointer (some ⟨c12,0,none⟩))] (Hp w5 []) C' Q' := by
      clear k0q k1 k1q k2 k1pq k2p k2q k3 k2pq k3p k3q k4 k3pq k4p k4q k4pq
      clear hQ
      intro w5 a' b' c12 T5 pa pb ⟨g12,bb12⟩
      refine Mt.eff2 (i := 5) (j := 15) qc zx zx ?_ ?_
      ·apply Wl.callQ
       ·exact rfl
       ·repeat constructor
       ·intro wq hq
        exact hq.q (hstep wq)
       repeat' first | apply Wl.nil
       refine Mt.backE (fun _ h' => by rw [hC];exact ⟨h'.upd.heap T5.k1.pr (fun y => y trivial),h'.upd.heap T5.k2.pr (fun y => y trivial)⟩) ?_
       refine Mt.lst (k1p w5 a' b' c12 T5 pa pb ⟨g12,bb12⟩) ?_ kg rfl
       (focus repeat constructor)
      ·repeat' first | (apply Wl.alloc;exact rfl;intro c hc ho) | apply Wl.nil
       generalize c = c13 at *
       have hc13 : w5.heap.size ≤ c13 := by assumption
       have bb13 : cx.base2 ≤ c13 := Nat.le_trans T5.k2.ge.2 hc13
       refine Mt.backE (fun _ h' => by rw [hC];exact ⟨h'.upd.heap T5.k1.pr (fun y => y ⟨fun e => by have := lt_of_block T5.k1.pr;simp only at e;omega,trivial⟩),h'.upd.heap T5.k2.pr (fun y => y ⟨fun e => by have := lt_of_block T5.k2.pr;simp only at e;omega,trivial⟩)⟩) ?_
       refine Mt.reb fun w6 h6 => ?_
       refine Mt.lst (k0pq w6 a' b' c12 c13 (T5.hp h6 kb) pa pb ⟨(h6.upd.heap g12 fun y => y ⟨fun e => by have := lt_of_block g12;simp only at e;omega,trivial⟩),bb12⟩ ⟨(h6.own.at (.head _)),bb13⟩ (fun e => by have := lt_of_block g12;omega)) ?_ kg rfl
       (focus repeat constructor)
     clear k0pq k1p k1q k2 k1pq k2p k2q k3 k2pq k3p k3q k4 k3pq k4p k4q k4pq
     clear hQ
     have T5' := T5
     obtain ⟨a',ha'⟩ : ∃ a',a' = a := ⟨_,rfl⟩
     obtain ⟨b',hb'⟩ : ∃ b',b' = b := ⟨_,rfl⟩
     have pa : a'.P = a.P := by rw [ha']
     have pb : b'.P = b.P := by rw [hb']
     have T5 : TwoS cx w5 a' b' := by rw [ha',hb'];exact T5'
     refine Mt.eff3 (i := 5) (j := 14) (k := 15) qc zx zx zx ?_ ?_ ?_
     ·apply Wl.callQ
      ·exact rfl
      ·repeat constructor
      ·intro wq hq
       exact hq.q (hstep wq)
      repeat' first | apply Wl.nil
      refine Mt.backE (fun _ h' => by rw [hC];exact ⟨h'.upd.heap T5.k1.pr (fun y => y trivial),h'.upd.heap T5.k2.pr (fun y => y trivial)⟩) ?_
      refine Mt.lst (k1 w5 a' b' T5 pa pb) ?_ kg rfl
      (focus repeat constructor)
     ·repeat' first | (apply Wl.alloc;exact rfl;intro c hc ho) | apply Wl.nil
      generalize c = c12 at *
      have hc12 : w5.heap.size ≤ c12 := by assumption
      have bb12 : cx.base2 ≤ c12 := Nat.le_trans T5.k2.ge.2 hc12
      refine Mt.backE (fun _ h' => by rw [hC];exact ⟨h'.upd.heap T5.k1.pr (fun y => y ⟨fun e => by have := lt_of_block T5.k1.pr;simp only at e;omega,trivial⟩),h'.upd.heap T5.k2.pr (fun y => y ⟨fun e => by have := lt_of_block T5.k2.pr;simp only at e;omega,trivial⟩)⟩) ?_
      refine Mt.reb fun w6 h6 => ?_
      refine Mt.lst (k0p w6 a' b' c12 (T5.hp h6 kb) pa pb ⟨(h6.own.at (.head _)),bb12⟩) ?_ kg rfl
      (focus repeat constructor)
     ·repeat' first | (apply Wl.alloc;exact rfl;intro c hc ho) | apply Wl.nil
      generalize c = c13 at *
      have hc13 : w5.heap.size ≤ c13 := by assumption
      have bb13 : cx.base2 ≤ c13 := Nat.le_trans T5.k2.ge.2 hc13
      refine Mt.backE (fun _ h' => by rw [hC];exact ⟨h'.upd.heap T5.k1.pr (fun y => y ⟨fun e => by have := lt_of_block T5.k1.pr;simp only at e;omega,trivial⟩),h'.upd.heap T5.k2.pr (fun y => y ⟨fun e => by have := lt_of_block T5.k2.pr;simp only at e;omega,trivial⟩)⟩) ?_
      refine Mt.reb fun w6 h6 => ?_
      refine Mt.lst (k0q w6 a' b' c13 (T5.hp h6 kb) pa pb ⟨(h6.own.at (.head _)),bb13⟩) ?_ kg rfl
      (focus repeat constructor)
    rintro ⟨w5,c12,c13,a',b'⟩ ⟨T5,pa,pb,e12,e13⟩
    simp only at T5 pa pb e12 e13 ⊢
    obtain ⟨hO,hR'⟩ := R.both hm kn
    rw [hE1] at pa e12
    rw [hE2] at pb e13
    rw [← pa,← pb] at hR'
    generalize runO (begE [r.mute.x]) a.P 0 x kn = R1 at *
    generalize runO (begE [r.mute.x,r0.x,r1.x]) b.P 0 x kn = R2 at *
    obtain ⟨x',hx'⟩ : ∃ x',endS R1 x = x' := ⟨_,rfl⟩
    have hxs' : 0 ≤ x'.s ∧ x'.s ≤ 2 := by rw [← hx'];exact endS_rng hxs
    rw [hx'] at hR'
    have hx1 : a'.P.L[0]? = some x' := by rw [hR'.l1];rfl
    have hx2 := hR'.l2.2
    have hxok : StaOk x' := T5.k1.mon.ward.2.1 x' (List.mem_of_getElem? hx1)
    have hxl := hxok.len
    have hxo := hxok.one
    have hpa5 : w5.cell? ⟨cx.p1,0,none⟩ = some (.pointer (some ⟨cx.I1.m,0,none⟩)) := cell_of T5.k1.pr rfl
    have hpb5 : w5.cell? ⟨cx.p2,0,none⟩ = some (.pointer (some ⟨cx.I2.m,0,none⟩)) := cell_of T5.k2.pr rfl
    have lp1 := lt_of_block T5.k1.pr
    have lp2 := lt_of_block T5.k2.pr
    have l12 := lt_of_block e12
    have l13 := lt_of_block e13
    have q1 : w5.cell? ⟨c12,1,none⟩ = some (.int .i64 (R1.tr.length : Int)) := cell_of e12 rfl
    have q2 : w5.cell? ⟨c12,2,none⟩ = some (.int .i64 R1.why) := cell_of e12 rfl
    have q3 : w5.cell? ⟨c13,1,none⟩ = some (.int .i64 (R2.tr.length : Int)) := cell_of e13 rfl
    have q4 : w5.cell? ⟨c13,2,none⟩ = some (.int .i64 R2.why) := cell_of e13 rfl
    have q5 : w5.cell? ⟨c13,0,none⟩ = some (.int .i64 ((0 : Nat) : Int)) := cell_of e13 rfl
    have hlen : (R1.tr.length : Int) = (R2.tr.length : Int) := by rw [hO.len]
    have hwhy : R1.why = R2.why := hO.why
    have hz0 : ((0 : Nat) : Int) = 0 := rfl
    have hst1 : ∀ (X : List Blk) (wq : World),Hp w5 X wq → NewX w5 X → Calls Tryz.prog 18 #[.pointer (some ⟨cx.I1.m,0,none⟩),.int .i64 0] wq fun e w' => e = .returned (.agg x'.cells.toArray) ∧ Hp wq [] w' := fun X wq hq hX => mStatus cx.base1 cx.I1 _ 0 x' wq (T5.k1.mon.upd hq.upd fun b hb y => y (hX.off (T5.k1.mon.lt b hb).2)) hx1
    have hst2 : ∀ (X : List Blk) (wq : World),Hp w5 X wq → NewX w5 X → Calls Tryz.prog 18 #[.pointer (some ⟨cx.I2.m,0,none⟩),.int .i64 0] wq fun e w' => e = .returned (.agg x'.cells.toArray) ∧ Hp wq [] w' := fun X wq hq hX => mStatus cx.base2 cx.I2 _ 0 x' wq (T5.k2.mon.upd hq.upd fun b hb y => y (hX.off (T5.k2.mon.lt b hb).2)) hx2
    repeat' first | (apply St.bagX (i := 17) 12 [];exact mixed;(decide +kernel);kernel_rfl) | (apply Wl.loadO;exact rfl;exact rfl;(first | exact hpa5 | exact hpb5);(repeat (first | exact trivial | exact hX.off q6 | refine ⟨by first | omega | (simp only;omega),?_⟩))) | (apply Wl.callQ (f := 18);exact rfl;exact ke;(intro wq hq;(first | with_reducible refine (hst1 _ wq hq hX).mono ?_ | with_reducible refine (hst2 _ wq hq hX).mono ?_);rintro e wr ⟨rfl,hr⟩;exact ⟨rfl,hq.keep hr⟩)) | apply OpsX.nil | (apply OpsX.b;exact rfl) | (apply OpsX.v;(intro X hX;change Wl [_] _ _ _ _ _ _ _;apply Wl.catX;exact ke)) | (apply Gt.endX;exact rfl) | (apply EndX.new;intro c hc ho) | (apply EndX.on;exact rfl) | (apply EndX.off;exact rfl) | (apply EndX.nil';apply Wl.catE;exact ke) | (apply Wl.storeA (xs := x'.cells);exact rfl;exact rfl;exact hxl;exact hxo;exact ke;exact .z (LOver.whole (by rw [hxl];rfl))) | (apply Wl.loadO;exact rfl;exact rfl;exact zu;exact kj) | (apply Wl.loadAH;exact rfl;exact rfl;exact ke;exact LSub.whole' hxl) | (apply Wl.neqSta (s := x') hxok (by constructor <;> (first | exact Int.le_trans ze hxs'.1 | exact Int.le_trans hxs'.2 ze));exact rfl;exact rfl;exact rfl) | refine Wl.move rfl rfl ?_ | (apply Wl.on;exact rfl;exact rfl;exact ka) | refine Wl.nilCheck rfl rfl ?_ | (apply Wl.pickF;exact rfl;exact rfl;exact ka;exact rfl) | refine Wl.fieldAddr0 rfl rfl ?_ | refine Wl.fieldAddrZ rfl rfl ?_ | (apply Wl.neqIs;exact rfl;exact rfl;exact rfl;exact kz) | apply Wl.nil | apply St.seq | apply St.region | (apply St.condF;exact rfl;exact ka) | apply St.skip | apply Gt.next
    apply Wl.callC
    ·exact rfl
    ·repeat constructor
    intro wq hq
    have T6 := T5.hp hq kb
    have zq := hq.upd.size
    refine (mMemory cx.base1 cx.I1 _ wq T6.k1.mon).mono ?_
    rintro e w6 ⟨d1,rfl,hd1,hmd1,u6⟩
    have T7 := T6.new u6
    have z6 := u6.size
    refine ⟨_,_,rfl,Hp.start w6,?_⟩
    clear hq u6 T6
    apply Wl.callC
    ·exact rfl
    ·repeat constructor
    intro wq2 hq
    have T8 := T7.quiet hq
    have zq2 := hq.upd.size
    refine (mgetX d1 a'.P.D.f 2147487744 8224 wq2 (hq.upd.heap hmd1 fun y => y trivial) T8.k1.dok.f ze ze (by unfold inM;decide)).mono ?_
    rintro e w7 ⟨v1',rfl,hB1,ho1,u7⟩
    have hB1' : Bs w7 v1' (memL a'.P.D.f 4096 8224) := hB1
    have T9 := T8.new u7
    have z7 := u7.size
    have hpb7 : w7.cell? ⟨cx.p2,0,none⟩ = some (.pointer (some ⟨cx.I2.m,0,none⟩)) := cell_of T9.k2.pr rfl
    refine ⟨_,_,rfl,Hp.start w7,?_⟩
    clear hq u7 T8 T7 hB1 q1 q2 q3 q4 q5
    repeat' first | (apply Wl.loadO;exact rfl;exact rfl;exact zu;exact kj) | refine Wl.move rfl rfl ?_ | refine Wl.assign rfl rfl ?_ | refine Wl.extract rfl rfl rfl ?_ | refine Wl.nilCheck rfl rfl ?_ | refine Wl.fieldAddr0 rfl rfl ?_ | apply Wl.nil | apply St.seq | apply St.region | apply Gt.next
    apply Wl.callC
    ·exact rfl
    ·repeat constructor
    intro wq3 hq
    have T10 := T9.quiet hq
    have zq3 := hq.upd.size
    refine (mMemory cx.base2 cx.I2 _ wq3 T10.k2.mon).mono ?_
    rintro e w8 ⟨d2,rfl,hd2,hmd2,u8⟩
    have T11 := T10.new u8
    have z8 := u8.size
    have v78 : Upd (fun k => w7.heap.size ≤ k) w7 w8 := hq.upd.comp u8 fun k _ h => h.elim (fun y => (y trivial).elim) fun h => by omega
    refine ⟨_,_,rfl,Hp.start w8,?_⟩
    clear hq u8 T10 T9
    apply Wl.callC
    ·exact rfl
    ·repeat constructor
    intro wq4 hq
    have T12 := T11.quiet hq
    have zq4 := hq.upd.size
    refine (mgetX d2 b'.P.D.f 2147487744 8224 wq4 (hq.upd.heap hmd2 fun y => y trivial) T12.k2.dok.f ze ze (by unfold inM;decide)).mono ?_
    rintro e w9 ⟨v2',rfl,hB2,ho2,u9⟩
    have hB2' : Bs w9 v2' (memL b'.P.D.f 4096 8224) := hB2
    have T13 := T12.new u9
    have v79 : Upd (fun k => w7.heap.size ≤ k) w7 w9 := (v78.comp hq.upd (T := fun k => w7.heap.size ≤ k) fun k _ h => h.elim id fun y => (y trivial).elim).comp u9 fun k _ h => h.elim id fun h => by omega
    have hB19 : Bs w9 v1' (memL a'.P.D.f 4096 8224) := hB1'.upd v79 fun k _ hk _ => Nat.not_le.2 hk
    have hpq : decide (memL a'.P.D.f 4096 8224 ≠ memL b'.P.D.f 4096 8224) = false := decide_eq_false fun h => h (memL_ag hR'.D.f)
    refine ⟨_,_,rfl,Hp.start w9,?_⟩
    clear hq u9 T12 T11
    repeat' first | (apply Wl.convBSo;exact rfl;exact rfl;(first | exact hB19 | exact hB2');exact (fun _ _ _ _ => trivial)) | refine Wl.move rfl rfl ?_ | refine Wl.assign rfl rfl ?_ | refine Wl.extract rfl rfl rfl ?_ | (refine Wl.addI rfl rfl rfl ?_ ?_;constructor <;> omega) | refine Wl.neqSB rfl rfl rfl ?_ | apply Wl.nil | apply St.seq | apply St.region | (apply St.condF;exact rfl;exact ka) | apply St.skip | apply Gt.next | apply Gt.inNormal
    refine Gt.reb (H' := []) fun w10 h10 => ⟨trivial,trivial,?_⟩
    refine Gt.round ⟨w10,j + 1,a',b',x'⟩ ⟨by simp only;omega,T13.quiet h10,hR',hxs'⟩ qf kv (fun _ h => h)
   obtain ⟨who,hwr,htw⟩ : ∃ who : Nat,(1 ≤ who ∧ who < 3) ∧ b.P.t = (who : Int) := by
    rcases R.t2 hs with h | h | h
    ·exact absurd h ht0
    ·exact ⟨1,⟨by decide,by decide⟩,h⟩
    ·exact ⟨2,⟨by decide,by decide⟩,h⟩
   have htb : turnV b.P.t = (who : Int) := by rw [htw];unfold turnV;rw [if_neg ky]
   have hdw : decide ((who : Int) > 0) = true := decide_eq_true ky
   obtain ⟨y,hy⟩ : ∃ y,b.P.L[who]? = some y := ⟨_,List.getElem?_eq_getElem (by rw [R.l2.1];omega)⟩
   repeat' first | (apply Wl.loadO;exact rfl;exact rfl;exact zu;exact kj) | refine Wl.move rfl rfl ?_ | refine Wl.nilCheck rfl rfl ?_ | refine Wl.fieldAddr0 rfl rfl ?_ | apply St.seq | apply St.region
   apply Wl.callQ
   ·exact rfl
   ·repeat constructor
   ·intro wq hq
    refine (mTurn cx.base2 cx.I2 _ wq (T.k2.mon.upd (S := fun _ => False) (hq.upd.mono fun _ _ y => y trivial) fun _ _ y => y)).mono ?_
    rintro e wr ⟨rfl,hr⟩
    exact ⟨congrArg _ (congrArg _ htb),hq.keep hr⟩
   repeat' first | refine Wl.gtr rfl rfl rfl ?_ | apply Wl.nil | apply St.block | (apply St.condT;exact rfl;exact ka) | apply St.skip | apply Gt.next
   refine St.tree (fun w' => w'.heap[cx.p2]? = some (.cells #[.pointer (some ⟨cx.I2.m,0,none⟩),cx.rv2] 39 (0,0))) mixed (fun _ h' => ⟨Hp.drew h',(Hp.drew h').upd.heap T.k2.pr fun y => y trivial⟩) ?_
   refine Mt.pm 0 ?_
   refine Mt.pm 4 ?_
   refine Mt.pn 1 ?_
   refine Mt.pf 2 ?_
   refine Mt.pu 3 ?_
   repeat' first | (apply Wl.loadF;exact rfl;exact rfl;(intro w' h';exact cell_of h' rfl)) | apply Wl.nilB
   refine Mt.eff1 (i := 5) kg zd ?_
   apply Wl.callQ
   ·exact rfl
   ·repeat constructor
   ·intro wq hq
    exact hq.q (hstep wq)
   repeat' first | apply Wl.nil
   refine Mt.backE (fun _ h' => by first | exact h'.upd.heap T.k2.pr (fun y => y trivial) | exact h'.upd.heap T6.k2.pr (fun y => y trivial)) ?_
   refine Mt.eff1 (i := 6) kg zd ?_
   apply Wl.callC
   ·exact rfl
   ·repeat constructor
   intro wq hq
   have Tq := T.quiet hq
   refine (Tq.runB hcx kn hknr htw hy).mono ?_
   rintro e w6 ⟨rfl,m6,hP6,T6,u6⟩
   rw [hE2] at hP6
   refine ⟨_,_,rfl,Hp.start w6,?_⟩
   repeat' first | apply Wl.nil
   refine Mt.backE (fun _ h' => by first | exact h'.upd.heap T.k2.pr (fun y => y trivial) | exact h'.upd.heap T6.k2.pr (fun y => y trivial)) ?_
   refine Mt.toGt kg ?_
   obtain ⟨R6,key⟩ := R.other (l2 := [r.mute.x,r0.x,r1.x]) (y := y) hs T.k2.dok.bxOk hwr htw kn
   rw [← hP6] at R6 key
   repeat' first | apply Gt.inNormal
   refine Gt.reb (H' := []) fun w7 h7 => ⟨trivial,trivial,?_⟩
   refine Gt.round (w7,m6) ⟨T6.quiet h7,R6⟩ ?_ kv (fun _ h => h)
   show (if m6.P.t = 0 then 0 else (3 - m6.P.t).toNat) < (if b.P.t = 0 then 0 else (3 - b.P.t).toNat)
   rw [if_neg ht0,htw]
   rcases key with k | ⟨k1,k2⟩
   ·rw [if_pos k];omega
   ·rw [k2,if_neg ze,k1];decide
  have hta : turnV a.P.t = -1 := by rw [R.t1,if_neg hs];rfl
  apply Wl.callQ
  ·exact rfl
  ·repeat constructor
  ·intro wq hq
   refine (mTurn cx.base1 cx.I1 _ wq (T.k1.mon.upd (S := fun _ => False) (hq.upd.mono fun _ _ y => y trivial) fun _ _ y => y)).mono ?_
   rintro e wr ⟨rfl,hr⟩
   exact ⟨congrArg _ (congrArg _ hta),hq.keep hr⟩
  repeat' first | refine Wl.assign rfl rfl ?_ | refine Wl.lss rfl rfl rfl ?_ | apply Wl.nil | apply St.seq | apply St.region | (apply St.condT;exact rfl;exact ka) | apply St.ret | apply St.exit | apply Gt.next | apply Gt.thenExit | apply Gt.inExit | (apply Gt.inOther;exact rfl) | (apply Gt.out1;exact rfl;exact rfl;intro w' hp)
  exact ⟨rfl,Hp.on0 hp T.k1.up⟩
 obtain rfl : j = rl.length := by omega
 have hdj : decide ((rl.length : Int) < (rl.length : Int)) = false := decide_eq_false ky
 repeat' first | refine Wl.assign rfl rfl ?_ | refine Wl.lss rfl rfl rfl ?_ | apply Wl.nil | apply St.seq | apply St.region | (apply St.condF;exact rfl;exact ka) | apply St.ret | apply St.exit | apply Gt.next | apply Gt.thenExit | apply Gt.inExit | (apply Gt.out1;exact rfl;exact rfl;intro w' hp)
 exact ⟨rfl,Hp.on0 hp T.k1.up⟩
end Go.Proofs.YtabbklpalbikdaaGreatDoor
end
section
namespace Go.Proofs.YtabbklpalbikdaaGreatDoor
open Go.RowKit Go.Pt Go.ChangeShapes Go.WideShapes Go.ChangeAt
def laid1 {H : Type} : List (String × DataW H) := [("math/bits.deBruijn32tab", Rows.laid_math_bits_deBruijn32tab)]
theorem laid1_eq : (Rows.laid_math_bits_deBruijn32tab : DataW Unit) = .agg (tabL.map fun (n : Int) => .lit (.int .u8 n)) := by kernel_rfl
theorem tabLaid {W : World} (h : laidMetH Tryz.prog laid1 W) : tabOk W := by
 intro r hr
 rw [MakeChecks.laidMetH_plain _ _ _ zg] at h
 obtain ⟨ps,⟨g,t,cs,fuel,p,q,hg,ht,hv,hd,_,_⟩,_,_⟩ := h
 obtain rfl := Option.some.inj ((show Tryz.prog.globalNamed "math/bits.deBruijn32tab" = some 0 by kernel_rfl).symm.trans hg)
 obtain rfl := Option.some.inj ((show (Tryz.prog.globals[0]?).map (·.type) = some 107 by kernel_rfl).symm.trans ht)
 rw [laid1_eq] at hd
 obtain ⟨xs,m,_,ex,_,hl,hel⟩ := DataW.trod_array Tryz.underlying107 hd
 have c5 : Tryz.prog.cellsOf 5 = 1 := by kernel_rfl
 have hE := hel r hr
 rw [c5,Nat.mul_one,List.getElem?_eq_getElem ky] at hE
 obtain ⟨z,e1,e2,_⟩ := DataW.trod_int Tryz.underlying5 hE
 have hlen : tabL.length = 32 := rfl
 have e3 : (xs.map (·.1)) = tabL.map fun (n : Int) => .lit (.int .u8 n) := (DataW.agg.inj (Prod.mk.inj ex).1).symm
 have e4 : (xs.map (·.1))[r]? = (tabL.map fun (n : Int) => (DataW.lit (.int .u8 n) : DataW Unit))[r]? := by rw [e3]
 rw [List.getElem?_map,List.getElem?_map,List.getElem?_eq_getElem (by omega : r < xs.length),List.getElem?_eq_getElem (by omega : r < tabL.length),e2] at e4
 have hz : z = tabL[r]'(by omega) := by
  simp only [Option.map_some,Option.some.injEq,DataW.lit.injEq,Lit.int.injEq,true_and] at e4
  exact e4
 refine ⟨tabL[r]'(by omega),List.getElem?_eq_getElem _,?_,?_⟩
 ·have : ∀ x ∈ tabL,(0 : Int) ≤ x ∧ x ≤ 31 := by decide
  exact this _ (List.getElem_mem _)
 ·rw [World.var?_cell hg hv r,← hz]
  have h0 : ((cs.toList.drop r).take 1)[0]? = some (.int .u8 z) := by rw [e1];rfl
  simpa using h0
end Go.Proofs.YtabbklpalbikdaaGreatDoor
end
