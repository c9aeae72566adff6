/-
 10 texts,one behind the other;each says what it proves. Conditions: as each text says.
-/
import Derived.Test.YtabbklpalbikdaaGreatDoorM03
import Derived.Test.YtabbklpalbikdaaGreatDoorM04
import Derived.Laws.IdiomCopy
import Derived.Test.YtabbklpalbikdaaGreatDoorM01
import Derived.Lib.ConvBytes
set_option maxHeartbeats 32000000
set_option linter.unusedVariables false
set_option linter.unusedSimpArgs false
section
namespace Go.Pt
open Go.RowKit
theorem SmN.tail {P : Program} {N : Nat} {Γ : Env} {C : World → Prop} {Q : Exit → Act → World → Prop} {l : List Oper} (kk : Nat) (h : Wl (l.drop kk) P .seq l.toArray N Γ C Q) : SmN P l.toArray (List.range' kk (l.drop kk).length) N Γ C Q :=
 SmN.of (fun j => by simp) h
theorem run_eql_chan {P : Program} (w : World) {t e : TypeId} {dir : ChanDir} (a b : Option Nat) (ht : P.underlying t = some (.chan dir e)) :
  (binOp .eql t (.chan a) (.chan b)).run P w = .ok (.bool (a == b)) w := by
 have h : ∀ d : Nat,(Op.equalIn (d + 1) t (.chan a) (.chan b)).run P w = .ok (a == b) w := fun d => by
  simp [Op.equalIn,run_underlying ht]
 simp only [binOp]
 simp [Op.equal,Op.maxDepth,h 9999]
section
variable {P : Program} {md : Md} {N : Nat} {ops : Array Oper} {rest : List Oper} {Γ : Env} {C : World → Prop} {Q : Exit → Act → World → Prop} {d : Nat} {ty t u e : TypeId} {pos : String} {af : Array Edge}
theorem Wl.eqlC {x y : Operand} {a b : Option Nat} {r : Bool} {dir : ChanDir} (ht : P.underlying t = some (.chan dir e)) (hd : Nat.blt d N = true) (hx : ev Γ x = some (.chan a)) (hy : ev Γ y = some (.chan b)) (hr : (a == b) = r) (h : Wl rest P md ops N ((d,.bool r) :: Γ) C Q) : Wl (⟨some d,.binOp .eql t x y u,ty,pos,af,none⟩ :: rest) P md ops N Γ C Q :=
 Wl.val hd (fun c w ha _ => by subst hr;simp only [execOp,ha.ev hx,ha.ev hy,eqGuard_at_chan,pure_bind,Sem.run_bind,run_eql_chan w a b ht];rfl) h
end
end Go.Pt
namespace Go.Proofs.YtabbklpalbikdaaGreatDoor
open Go.RowKit Go.Pt
theorem chan_ne {w : World} {c b cap t : Nat} {l : List Value} {cs : Array Value} (h1 : ChanB w c cap l) (h2 : w.heap[b]? = some (.cells cs t (0,0))) : c ≠ b := by
 rintro rfl
 obtain ⟨s,r,h⟩ := h1
 rw [h] at h2
 cases h2
def letV (x : Int × List UInt8) : Value := .agg #[.int .i64 x.1,strV x.2]
def zLet : Value := .agg #[.int .i64 0,.string ⟨#[]⟩]
theorem pSend (pp pa : Nat) (cs : List Nat) (bx : Nat → List Value) (i ch : Nat) (x : Int × List UInt8) (w : World) (hP : PostS w pp pa cs bx) (hi : cs[i]? = some ch) (hx : 1 ≤ x.2.length ∧ x.2.length ≤ 16) :
  Calls Tryz.prog 80 #[.pointer (some ⟨pp,0,none⟩),.int .i64 i,letV x] w fun e w' => ((bx i).length < 4 ∧ e = .returned (.int .i64 0) ∧ PostS w' pp pa cs (fun j => if j = i then bx i ++ [letV x] else bx j) ∧ Upd (fun k => k = ch) w w') ∨ (4 ≤ (bx i).length ∧ e = .returned (.int .i64 16) ∧ Hp w [] w') := by
 have hP0 := hP
 have hs1 := strV_size x.2
 have hlts := hP.lt
 have hlc := (hP.2.1 i ch hi).lt
 have hd0 : decide (((strOf x.2).size : Int) < 1) = false := decide_eq_false ky
 have hd1 : decide (((strOf x.2).size : Int) > 16) = false := decide_eq_false ky
 refine enterN (args := [_,_,_]) (Γ := [(0,_),(1,_),(2,_)]) Tryz.func80 Tryz.ntmps80 rfl odq (.cons rfl (.cons rfl (.cons rfl .nil))) ?_
 refine StN.seq (StN.of ?_)
 repeat' first | refine Wl.assign rfl rfl ?_ | (apply Wl.boxA;exact rfl;exact rfl;intro c hc ho) | apply Wl.nil | apply St.region
 refine GtN.next (StN.seq (StN.of ?_))
 repeat' first | refine Wl.move rfl rfl ?_ | apply St.region
 apply Wl.callQ
 exact rfl
 (focus repeat constructor)
 ·intro wq hq
  exact hq.q (pBox pp pa cs bx i ch wq (hP0.upd hq.upd (fun y => y ⟨by simp only;omega,trivial⟩) (fun y => y ⟨by simp only;omega,trivial⟩) fun z hz y => y ⟨by have := hlts.2.2 z hz;simp only;omega,trivial⟩) hi)
 repeat' first | refine Wl.assign rfl rfl ?_ | apply Wl.nil
 refine GtN.next (StN.seq (StN.of ?_))
 repeat' first | (apply Wl.eqlC (r := false) chTy;exact rfl;exact rfl;exact rfl;exact rfl) | refine Wl.move rfl rfl ?_ | (apply Wl.on;exact rfl;exact rfl;exact ka) | (apply Wl.pickF;exact rfl;exact rfl;exact ka;exact rfl) | refine Wl.fieldAddrZ rfl rfl ?_ | (apply Wl.loadH;exact rfl;exact rfl;exact ke;exact rfl) | refine Wl.lss rfl rfl rfl ?_ | refine Wl.gtr rfl rfl rfl ?_ | refine Wl.lenS rfl rfl ?_ | apply Wl.nil | apply St.seq | apply St.region | (apply St.condF;exact rfl;exact ka) | apply St.skip | apply Gt.next
 refine GtN.next (StN.seq (StN.of ?_))
 repeat' first | refine Wl.move rfl rfl ?_ | (apply Wl.loadAH;exact rfl;exact rfl;exact ke;exact ke) | apply Wl.nil | apply St.seq | apply St.region | apply Gt.next
 refine GtN.next (GtN.base fun wz hz => StN.seq (StN.region ?_))
 have hcz : ChanB wz ch 4 (bx i) := (hP0.2.1 i ch hi).upd hz.upd fun y => y ⟨by simp only;omega,trivial⟩
 refine SmN.selSend (ch := .tmp 25) (x := .tmp 26) (t := 0) (v := letV x) (zv := zLet) (c := ch) (cap := 4) (l := bx i) rfl rfl rfl rfl (fun w' a ha => ?_) hcz ⟨by simp only;omega,trivial⟩ (fun hl w1 hc1 u1 => ?_) (fun hl => ?_)
 ·have e25 : a.eval (.tmp 25) = .chan (some ch) := ha.ev rfl
  have e26 : a.eval (.tmp 26) = letV x := ha.ev rfl
  simp [execOp,e25,e26,Go.Conc.scase,run_zero (P := Tryz.prog) (t := 78),zLet]
 ·refine SmN.tail 1 ?_
  simp only [List.drop_succ_cons,List.drop_zero]
  repeat' first | refine Wl.extract rfl rfl rfl ?_ | (apply Wl.eqlIs;exact rfl;exact rfl;exact rfl;exact kv) | apply Wl.nil
  refine GtN.next (StN.of ?_)
  repeat' first | refine Wl.assign rfl rfl ?_ | apply Wl.nil | apply St.seq | apply St.block | apply St.region | (apply St.condT;exact rfl;exact ka) | apply St.ret | apply Gt.next | apply Gt.inRet | (apply Gt.out1;exact rfl;exact rfl;intro w' hp)
  have of : ∀ k,k < w.heap.size → Off [⟨c,[.int .i64 x.1,strV x.2],78⟩] k := fun k hk => ⟨by simp only;omega,trivial⟩
  have u : Upd (fun k => k = ch) w w' := (hz.upd.comp u1 (T := fun k => k = ch) fun k hk hs => hs.elim (fun y => (y (of k hk)).elim) fun y => y.elim id fun y => (y (of k hk)).elim).comp hp.upd fun k hk hs => hs.elim id fun y => (y (of k hk)).elim
  obtain ⟨⟨cap,J,a,b⟩,hch,hj,r⟩ := hP
  refine .inl ⟨hl,rfl,⟨⟨cap,J,u.heap a fun e => chan_ne (hch i ch hi) a e.symm,u.heap b fun e => chan_ne (hch i ch hi) b e.symm⟩,fun j c' hj' => ?_,hj,r⟩,u⟩
  by_cases e : j = i
  ·subst e
   rw [hi] at hj'
   cases hj'
   show ChanB _ _ _ (ite _ _ _)
   rw [if_pos rfl]
   exact hc1.upd hp.upd fun y => y (of _ hlc)
  ·show ChanB _ _ _ (ite _ _ _)
   rw [if_neg e]
   exact (hch j c' hj').upd u fun e' => e (hj j i ch (e' ▸ hj') hi)
 ·refine SmN.tail 1 ?_
  simp only [List.drop_succ_cons,List.drop_zero]
  repeat' first | refine Wl.extract rfl rfl rfl ?_ | refine Wl.eql rfl rfl rfl ?_ | apply Wl.nil
  refine GtN.next (StN.of ?_)
  repeat' first | refine Wl.assign rfl rfl ?_ | apply Wl.nil | apply St.seq | apply St.block | apply St.region | (apply St.condF;exact rfl;exact ka) | apply St.ret | apply Gt.next | apply Gt.inRet | (apply Gt.out1;exact rfl;exact rfl;intro w' hp)
  exact .inr ⟨hl,rfl,Hp.drop (H := [⟨c,[.int .i64 x.1,strV x.2],78⟩]) ⟨hz.upd.trans hp.upd,hp.own,hp.apart⟩ kb⟩
theorem pTake (pp pa : Nat) (cs : List Nat) (bx : Nat → List Value) (i ch : Nat) (w : World) (hP : PostS w pp pa cs bx) (hi : cs[i]? = some ch) (hb : ∀ v ∈ bx i,∃ x,v = letV x) :
  Calls Tryz.prog 166 #[.pointer (some ⟨pp,0,none⟩),.int .i64 i] w fun e w' => (∃ x r,bx i = letV x :: r ∧ e = .returned (.tuple #[letV x,.int .i64 0]) ∧ PostS w' pp pa cs (fun j => if j = i then r else bx j) ∧ Upd (fun k => k = ch) w w') ∨ (bx i = [] ∧ e = .returned (.tuple #[zLet,.int .i64 17]) ∧ Hp w [] w') := by
 have hP0 := hP
 have hlts := hP.lt
 have hlc := (hP.2.1 i ch hi).lt
 refine enterN (args := [_,_]) (Γ := [(0,_),(1,_)]) Tryz.func166 Tryz.ntmps166 rfl odq (.cons rfl (.cons rfl .nil)) ?_
 refine StN.seq (StN.of ?_)
 repeat' first | refine Wl.assign rfl rfl ?_ | (apply Wl.alloc;exact rfl;intro c hc ho) | apply Wl.nil | apply St.region
 refine GtN.next (StN.seq (StN.of ?_))
 repeat' first | refine Wl.move rfl rfl ?_ | apply St.region
 apply Wl.callQ
 exact rfl
 (focus repeat constructor)
 ·intro wq hq
  exact hq.q (pBox pp pa cs bx i ch wq (hP0.upd hq.upd (fun y => y ⟨by simp only;omega,trivial⟩) (fun y => y ⟨by simp only;omega,trivial⟩) fun z hz y => y ⟨by have := hlts.2.2 z hz;simp only;omega,trivial⟩) hi)
 repeat' first | refine Wl.assign rfl rfl ?_ | apply Wl.nil
 refine GtN.next (StN.seq (StN.of ?_))
 repeat' first | (apply Wl.eqlC (r := false) chTy;exact rfl;exact rfl;exact rfl;exact rfl) | refine Wl.move rfl rfl ?_ | apply Wl.nil | apply St.seq | apply St.region | (apply St.condF;exact rfl;exact ka) | apply St.skip | apply Gt.next
 refine GtN.next (StN.seq (StN.of ?_))
 repeat' first | refine Wl.move rfl rfl ?_ | apply Wl.nil | apply St.region
 generalize c = c1 at *
 have hc1' : w.heap.size ≤ c1 := by assumption
 have of : ∀ k,k < w.heap.size → Off [⟨c1,[.int .i64 0,.string ⟨#[]⟩],78⟩] k := fun k hk => ⟨by simp only;omega,trivial⟩
 refine GtN.next (GtN.base fun wz hz => StN.seq (StN.region ?_))
 have hcz : ChanB wz ch 4 (bx i) := (hP0.2.1 i ch hi).upd hz.upd fun y => y (of _ hlc)
 refine SmN.selRecv (zv := zLet) (c := ch) (cap := 4) (l := bx i) rfl rfl rfl rfl (fun w' a ha => ?_) hcz (of _ hlc) (fun v r hl w1 hc1 u1 => ?_) (fun hl => ?_)
 ·have e25 : a.eval (.tmp 14) = .chan (some ch) := ha.ev rfl
  simp [execOp,e25,Go.Conc.rcase,run_zero (P := Tryz.prog) (t := 78),zLet]
 ·obtain ⟨x,rfl⟩ := hb v (by rw [hl];exact .head _)
  refine SmN.tail 1 ?_
  simp only [List.drop_succ_cons,List.drop_zero]
  repeat' first | refine Wl.extract rfl rfl rfl ?_ | (apply Wl.eqlIs;exact rfl;exact rfl;exact rfl;exact kv) | apply Wl.nil
  refine GtN.next (StN.of ?_)
  repeat' first | (apply Gt.outCT;exact rfl;infer_instance;exact rfl;exact rfl;exact ke;exact ke;intro w' hp) | refine Wl.assign rfl rfl ?_ | refine Wl.extract rfl rfl rfl ?_ | (apply Wl.storeA;exact rfl;exact rfl;exact rfl;exact rfl;exact ke;exact kf) | (apply Wl.loadAH;exact rfl;exact rfl;exact ke;exact ke) | (apply Wl.alloc;exact rfl;intro c hc ho) | apply Wl.nil | apply St.seq | apply St.block | apply St.region | (apply St.condT;exact rfl;exact ka) | apply St.ret | apply Gt.next | apply Gt.inRet
  have z1 := u1.size
  have zz := hz.upd.size
  have of2 : ∀ k,k < w.heap.size → Off [⟨c,[.int .i64 x.1,strV x.2],78⟩,⟨c1,[.int .i64 x.1,strV x.2],78⟩] k := fun k hk => ⟨by simp only;omega,by simp only;omega,trivial⟩
  have u : Upd (fun k => k = ch) w w' := (hz.upd.comp u1 (T := fun k => k = ch) fun k hk hs => hs.elim (fun y => (y (of k hk)).elim) fun y => y.elim id fun y => (y (of k hk)).elim).comp hp.upd fun k hk hs => hs.elim id fun y => (y (of2 k hk)).elim
  obtain ⟨⟨cap,J,a,b⟩,hch,hj,rr⟩ := hP
  refine .inl ⟨x,r,hl,rfl,⟨⟨cap,J,u.heap a fun e => chan_ne (hch i ch hi) a e.symm,u.heap b fun e => chan_ne (hch i ch hi) b e.symm⟩,fun j c' hj' => ?_,hj,rr⟩,u⟩
  by_cases e : j = i
  ·subst e
   rw [hi] at hj'
   cases hj'
   show ChanB _ _ _ (ite _ _ _)
   rw [if_pos rfl]
   exact hc1.upd hp.upd fun y => y (of2 _ hlc)
  ·show ChanB _ _ _ (ite _ _ _)
   rw [if_neg e]
   exact (hch j c' hj').upd u fun e' => e (hj j i ch (e' ▸ hj') hi)
 ·refine SmN.tail 1 ?_
  simp only [List.drop_succ_cons,List.drop_zero]
  repeat' first | refine Wl.extract rfl rfl rfl ?_ | refine Wl.eql rfl rfl rfl ?_ | apply Wl.nil
  refine GtN.next (StN.of ?_)
  repeat' first | (apply Gt.outCT;exact rfl;infer_instance;exact rfl;exact rfl;exact ke;exact ke;intro w' hp) | refine Wl.assign rfl rfl ?_ | (apply Wl.storeA;exact rfl;exact rfl;exact rfl;exact rfl;exact ke;exact kf) | (apply Wl.buildS;exact rfl;exact ki;exact kc) | apply Wl.nil | apply St.seq | apply St.block | apply St.region | (apply St.condF;exact rfl;exact ka) | apply St.ret | apply Gt.next | apply Gt.inRet
  exact .inr ⟨hl,rfl,Hp.drop (H := [⟨c1,[.int .i64 0,.string ⟨#[]⟩],78⟩]) ⟨hz.upd.trans hp.upd,hp.own,hp.apart⟩ kb⟩
theorem row_neT {w : World} {b e sz n c t : Nat} {v : Value} {xs : List Value} {cs : Array Value} (h1 : w.ownsRow b e sz v n xs) (h2 : w.heap[c]? = some (.cells cs t (0,0))) (he : t ≠ e) : ∀ k,v.ownBlock = some k → k ≠ c := row_neB h1 h2 he.symm
theorem MonS.off {w : World} {base : Nat} {I : Mi} {M : Mv2} (k : MonS w base I M) {b t : Nat} {cs : Array Value} (hb : w.heap[b]? = some (.cells cs t (0,0))) :
  (t ≠ 130 → I.m ≠ b) ∧ (t ≠ 133 → I.h ≠ b) ∧ (t ≠ 139 → I.d ≠ b) ∧ (t ≠ 210 → I.wd ≠ b) ∧ (t ≠ 44 → I.sa ≠ b) ∧ (t ≠ 255 → I.pp ≠ b) ∧ (t ≠ 232 → I.pa ≠ b) ∧ (t ≠ 231 → I.bd ≠ b) ∧ (t ≠ 9 → I.ia ≠ b) ∧ (t ≠ 156 → I.cM ≠ b) ∧ (∀ c ∈ I.cs,c ≠ b) ∧ (t ≠ 111 → ∀ c,M.lv.ownBlock = some c → c ≠ b) ∧ (t ≠ 70 → ∀ c,M.seen.ownBlock = some c → c ≠ b) := by
 obtain ⟨⟨wc,J1,wa,wb⟩,_⟩ := k.ward
 obtain ⟨⟨pc,J2,pa,pb⟩,hch,_⟩ := k.post
 obtain ⟨⟨bc,J3,ba,bb⟩,hlv,_⟩ := k.board
 refine ⟨fun h => (blk_ne hb k.mm h).symm,fun h => (blk_ne hb k.hart.2 h).symm,fun h => (blk_ne hb k.dd h).symm,fun h => (blk_ne hb wa h).symm,fun h => (blk_ne hb wb h).symm,fun h => (blk_ne hb pa h).symm,fun h => (blk_ne hb pb h).symm,fun h => (blk_ne hb ba h).symm,fun h => (blk_ne hb bb h).symm,fun h => (blk_ne hb k.mem h).symm,?_,fun h => row_neT hlv hb h,fun h => row_neT k.seen hb h⟩
 intro c hc
 obtain ⟨i,hi⟩ := List.mem_iff_getElem?.1 hc
 exact chan_ne (hch i c hi) hb
section
variable {w w' : World} {base : Nat} {I : Mi} {M : Mv2}
theorem MonS.lts (k : MonS w base I M) : I.m < w.heap.size ∧ I.h < w.heap.size ∧ I.d < w.heap.size ∧ I.wd < w.heap.size ∧ I.sa < w.heap.size ∧ I.pp < w.heap.size ∧ I.pa < w.heap.size ∧ I.bd < w.heap.size ∧ I.ia < w.heap.size ∧ I.cM < w.heap.size ∧ (∀ c ∈ I.cs,c < w.heap.size) ∧ (∀ c,M.lv.ownBlock = some c → c < w.heap.size) ∧ (∀ c,M.seen.ownBlock = some c → c < w.heap.size) :=
 ⟨(k.lt _ (.inl rfl)).2,(k.lt _ (.inr (.inl rfl))).2,(k.lt _ (.inr (.inr (.inl rfl)))).2,k.ward.lt.1,k.ward.lt.2,k.post.lt.1,k.post.lt.2.1,k.board.lt.1,k.board.lt.2.1,lt_of_block k.mem,k.post.lt.2.2,fun c h => (k.board.lt.2.2 c h).2,fun c h => (k.seen.ge c h).2⟩
theorem MonS.set {L' : List Sta} {t' : Int} {sa' : Nat} (k : MonS w base I M) (hW : WardS w' I.wd sa' L' t') (hl : L'.length = M.L.length) (hsa : base ≤ sa') (u : Upd (fun b => b = I.wd ∨ w.heap.size ≤ b) w w') : MonS w' base {I with sa := sa'} {M with L := L',t := t'} := by
 obtain ⟨⟨wc,J1,wa,wb⟩,_⟩ := k.ward
 obtain ⟨n1,n2,n3,n4,n5,n6,n7,n8,n9,n10,n11,n12,n13⟩ := k.off wa
 obtain ⟨l1,l2,l3,l4,l5,l6,l7,l8,l9,l10,l11,l12,l13⟩ := k.lts
 obtain ⟨g1,g2,g3,g4,g5,g6,g7,g8,g9,g10,g11⟩ := k.ge
 exact {
  mm := u.heap k.mm fun h => h.elim (n1 ze) fun h => absurd h (Nat.not_le.2 l1)
  dd := u.heap k.dd fun h => h.elim (n3 ze) fun h => absurd h (Nat.not_le.2 l3)
  ward := hW
  post := k.post.upd u (fun h => h.elim (n6 ze) fun h => absurd h (Nat.not_le.2 l6)) (fun h => h.elim (n7 ze) fun h => absurd h (Nat.not_le.2 l7)) fun c hc h => h.elim (n11 c hc) fun h => absurd h (Nat.not_le.2 (l11 c hc))
  board := k.board.upd u (fun h => h.elim (n8 ze) fun h => absurd h (Nat.not_le.2 l8)) (fun h => h.elim (n9 ze) fun h => absurd h (Nat.not_le.2 l9)) fun c hc h => h.elim (n12 ze c hc) fun h => absurd h (Nat.not_le.2 (l12 c hc))
  mem := u.heap k.mem fun h => h.elim (n10 ze) fun h => absurd h (Nat.not_le.2 l10)
  hart := k.hart.upd u fun h => h.elim (n2 ze) fun h => absurd h (Nat.not_le.2 l2)
  seen := ownsRow_upd k.seen u fun c hc h => h.elim (n13 ze c hc) fun h => absurd h (Nat.not_le.2 (l13 c hc))
  rg := k.rg
  len := ⟨k.len.1.trans hl.symm,k.len.2.trans hl.symm⟩
  ge := ⟨g1,g2,g3,g4,hsa,g6,g7,g8,g9,g10,g11⟩ }
theorem MonS.feed {ins' : List (List UInt8)} (k : MonS w base I M) (hB : BoardS w' base I.bd I.ia M.lv M.ll M.used ins') (hl : ins'.length = M.ins.length) (u : Upd (fun b => b = I.ia) w w') : MonS w' base I {M with ins := ins'} := by
 obtain ⟨⟨bc,J3,ba,bb⟩,hlv,_⟩ := k.board
 obtain ⟨n1,n2,n3,n4,n5,n6,n7,n8,n9,n10,n11,n12,n13⟩ := k.off bb
 exact {
  mm := u.heap k.mm (n1 ze)
  dd := u.heap k.dd (n3 ze)
  ward := k.ward.upd u (n4 ze) (n5 ze)
  post := k.post.upd u (n6 ze) (n7 ze) n11
  board := hB
  mem := u.heap k.mem (n10 ze)
  hart := k.hart.upd u (n2 ze)
  seen := ownsRow_upd k.seen u (n13 ze)
  rg := k.rg
  len := ⟨k.len.1,hl.trans k.len.2⟩
  ge := k.ge }
end
end Go.Proofs.YtabbklpalbikdaaGreatDoor
end
section
namespace Go.Pt
open Go.RowKit
theorem run_copy_off {P : Program} (w : World) {dT sT ty elem : TypeId} {c o n cap m cap' bt : Nat} {a : Addr} {cs xs : List Value} (hu : P.underlying dT = some (.slice elem)) (hs : (P.info? elem).map (·.size) = some 1) (hm : xs.length = m) (hmn : m ≤ n) (hnc : o + n ≤ cs.length)
  (hsrc : ∀ j v,xs[j]? = some v → w.cell? (a.add j) = some v) (hb : w.heap[c]? = some (.cells cs.toArray bt (0,0))) (h1 : ∀ v ∈ xs,v.oneCell' = true) :
  (Builtin.copy_ #[dT,sT] ty #[.slice (some ⟨c,o,none⟩) n cap,.slice (some a) m cap']).run P w = .ok (goInt xs.length) (w.setRow c (cs.take o ++ xs ++ cs.drop (o + xs.length)).toArray) := by
 have hl := run_loadCells_list (P := P) w a xs hsrc
 have hst := run_storeCells_at P c o bt xs 0 cs.toArray w hb zx h1
 simp only [Nat.add_zero] at hst
 have hmin : Nat.min m n = xs.length := by rw [hm];exact Nat.min_eq_left hmn
 cases hq : P.info? elem with
 | none => simp [hq] at hs
 | some i =>
  have hi : i.size = 1 := by simpa [hq] using hs
  simp [Builtin.copy_,run_underlying hu,Builtin.lenOf,Builtin.firstCells,sizeOf,typeInfo,hq,hi,hmin,hl]
  simp at hst
  rw [hst]
  simp
section
variable {P : Program} {md : Md} {N : Nat} {ops : Array Oper} {rest : List Oper} {Γ : Env} {C : World → Prop} {Q : Exit → Act → World → Prop} {d : Nat} {ty : TypeId} {pos : String} {af : Array Edge}
theorem Wl.copyO {w0 : World} {H H' : List Blk} {dT sT e by_ c o n cap bt : Nat} {y : Value} {l : List UInt8} {cs cs' : List Value} {p q : Operand} [ht : TyD P dT (.slice e)] [hz : TyS P e 1 by_]
  (hd : Nat.blt d N = true) (hx : ev Γ p = some (.slice (some ⟨c,o,none⟩) n cap)) (hy : ev Γ q = some y) (hs : HSet c cs cs' bt H H') (he : cs.take o ++ byteCells l ++ cs.drop (o + l.length) = cs') (hl : l.length ≤ n) (hn : o + n ≤ cs.length) (hb : ∀ w,Hp w0 H w → Bs w y l)
  (h : Wl rest P .seq ops N ((d,.int .i64 l.length) :: Γ) (Hp w0 H') Q) : Wl (⟨some d,.call { callee := .builtin .copy,args := #[p,q],argTypes := #[dT,sT] },ty,pos,af,none⟩ :: rest) P .seq ops N Γ (Hp w0 H) Q :=
 Wl.eff fun a w ha hw => by
  subst he
  obtain ⟨ad,cap',rfl,h1,h2⟩ := (hb w hw).shape
  have hsz : (P.info? e).map (·.size) = some 1 := by
   have := hz.out
   cases hq : P.info? e with
   | none => simp [hq] at this
   | some i => simp [hq] at this ⊢;exact this.1
  have hcell := hw.own.at hs.mem
  by_cases hne : l = []
  ·subst hne
   have hr := run_copy_none (P := P) w dT sT ty e (some ⟨c,o,none⟩) ad n cap 0 cap' ht.out hsz (Nat.zero_min n)
   refine ⟨.int .i64 0,w,.inl ?_,h.elim _ _ (ha.put hd _) (hw.hset hs (Upd.refl _ _) ?_)⟩
   ·simp only [execOp,resolve,invoke,builtin,ha.ev hx,ha.ev hy]
    simp [ha.ev hx,ha.ev hy] 
    simp [hr,goInt]
   ·simpa [byteCells] using hcell
  ·obtain ⟨g,og,e',hc'⟩ := (hb w hw).cells hne
   cases e'
   have hr := run_copy_off (P := P) w (dT := dT) (sT := sT) (ty := ty) (elem := e) (c := c) (o := o) (n := n) (cap := cap) (m := l.length) (cap' := cap') (bt := bt) (a := ⟨g,og,none⟩) (cs := cs) (xs := byteCells l) ht.out hsz (byteCells_length l) hl hn (fun j v hj => by
    obtain ⟨h1,h2⟩ := List.getElem?_eq_some_iff.1 hj
    rw [byteCells_length] at h1
    rw [addLit,hc' j h1,← h2]
    simp [byteCells]) hcell (fun v hv => by
    simp only [byteCells,List.mem_map] at hv
    obtain ⟨b,_,rfl⟩ := hv
    rfl)
   rw [byteCells_length] at hr
   refine ⟨.int .i64 l.length,w.setRow c (cs.take o ++ byteCells l ++ cs.drop (o + l.length)).toArray,.inl ?_,h.elim _ _ (ha.put hd _) (hw.hset hs ⟨rfl,rfl,rfl,by simp,fun k hk hne => ?_⟩ ?_)⟩
   ·simp only [execOp,resolve,invoke,builtin,ha.ev hx,ha.ev hy]
    simp [ha.ev hx,ha.ev hy]
    simp [hr,goInt]
   ·exact setRow_other w c k _ hne
   ·exact setRow_heap w c _ _ bt _ hcell
theorem Wl.sliceArr3 {t e sz by_ n : TypeId} {x lo hi : Operand} {b o : Nat} {k k' : IntKind} {i j : Int} (l h' : Nat) [ht : TyD P t (.array n e)] [TyS P e sz by_] (hd : Nat.blt d N = true) (hx : ev Γ x = some (.pointer (some ⟨b,o,none⟩))) (hlo : ev Γ lo = some (.int k i)) (hhi : ev Γ hi = some (.int k' j)) (ei : i = (l : Int)) (ej : j = (h' : Int)) (h1 : l ≤ h') (h2 : h' ≤ n) (h3 : l < n)
  (h : Wl rest P md ops N ((d,.slice (some ⟨b,o + l * sz,none⟩) (h' - l) (n - l)) :: Γ) C Q) : Wl (⟨some d,.slice t x (some lo) (some hi) none,ty,pos,af,none⟩ :: rest) P md ops N Γ C Q :=
 Wl.val hd (fun a w ha _ => by
  subst ei ej
  have e1 : ∀ c,(Instr.sliceBound (.int k (l : Int)) h' c).run P w = .ok l w := fun c => by
   simp only [Instr.sliceBound,asIntOf,pure_bind]
   rw [if_pos ky]
   simp
  have e2 : ∀ c,(Instr.sliceBound (.int k' (h' : Int)) n c).run P w = .ok h' w := fun c => by
   simp only [Instr.sliceBound,asIntOf,pure_bind]
   rw [if_pos ky]
   simp
  have hnl : ¬ n = l := Nat.ne_of_gt h3
  simp [execOp,ha.ev hx,ha.ev hlo,ha.ev hhi,Instr.sliceAt,run_underlying ht.out,Instr.sureAddr,Instr.sliceBounds,e1,e2,run_size (P := P) (t := e),Addr.add,hnl]) h
theorem Wl.sliceArr1 {t e sz by_ n : TypeId} {x lo : Operand} {b o : Nat} {k : IntKind} {i : Int} (l : Nat) [ht : TyD P t (.array n e)] [TyS P e sz by_] (hd : Nat.blt d N = true) (hx : ev Γ x = some (.pointer (some ⟨b,o,none⟩))) (hlo : ev Γ lo = some (.int k i)) (ei : i = (l : Int)) (h3 : l < n)
  (h : Wl rest P md ops N ((d,.slice (some ⟨b,o + l * sz,none⟩) (n - l) (n - l)) :: Γ) C Q) : Wl (⟨some d,.slice t x (some lo) none none,ty,pos,af,none⟩ :: rest) P md ops N Γ C Q :=
 Wl.val hd (fun a w ha _ => by
  subst ei
  have e1 : ∀ c,(Instr.sliceBound (.int k (l : Int)) n c).run P w = .ok l w := fun c => by
   simp only [Instr.sliceBound,asIntOf,pure_bind]
   rw [if_pos ky]
   simp
  have hnl : ¬ n = l := Nat.ne_of_gt h3
  simp [execOp,ha.ev hx,ha.ev hlo,Instr.sliceAt,run_underlying ht.out,Instr.sureAddr,Instr.sliceBounds,e1,run_size (P := P) (t := e),Addr.add,hnl]) h
end
end Go.Pt
namespace Go.Proofs.YtabbklpalbikdaaGreatDoor
open Go.RowKit Go.Pt
def FB (f : Nat → Int) : Prop := ∀ j,0 ≤ f j ∧ f j < 256
def memL (f : Nat → Int) (o n : Nat) : List UInt8 := (List.range n).map fun j => UInt8.ofNat (f (o + j)).toNat
theorem memL_len (f : Nat → Int) (o n : Nat) : (memL f o n).length = n := by simp [memL]
theorem memL_cells {f : Nat → Int} (hf : FB f) (o n j : Nat) (hj : j < n) : (byteCells (memL f o n))[j]? = some (.int .u8 (f (o + j))) := by
 have h := hf (o + j)
 simp only [byteCells,memL,List.map_map,List.getElem?_map,List.getElem?_range hj,Option.map_some,Function.comp]
 rw [show ((UInt8.ofNat (f (o + j)).toNat).toNat : Int) = f (o + j) by
  rw [UInt8.toNat_ofNat']
  omega]
def putF (f : Nat → Int) (o : Nat) (l : List UInt8) : Nat → Int := fun j => if o ≤ j then (match l[j - o]? with | some b => (b.toNat : Int) | none => f j) else f j
theorem putF_cells (f : Nat → Int) (o : Nat) (l : List UInt8) (h : o + l.length ≤ 65536) : (memC f).take o ++ byteCells l ++ (memC f).drop (o + l.length) = memC (putF f o l) := by
 apply List.ext_getElem?
 intro j
 by_cases hj : j < 65536
 ·rw [memC_get hj]
  by_cases h1 : j < o
  ·rw [List.append_assoc,List.getElem?_append_left (by rw [List.length_take,memC_len];omega),List.getElem?_take,if_pos h1,memC_get hj,putF,if_neg ky]
  ·by_cases h2 : j < o + l.length
   ·rw [List.getElem?_append_left (by rw [List.length_append,List.length_take,memC_len,byteCells_length];omega),List.getElem?_append_right (by rw [List.length_take,memC_len];omega),List.length_take,memC_len,show min o 65536 = o by omega]
    rw [putF,if_pos ky]
    obtain ⟨b,hb⟩ : ∃ b,l[j - o]? = some b := ⟨_,List.getElem?_eq_getElem ky⟩
    rw [hb]
    simp [byteCells,hb]
   ·rw [List.getElem?_append_right (by rw [List.length_append,List.length_take,memC_len,byteCells_length];omega),List.getElem?_drop,List.length_append,List.length_take,memC_len,byteCells_length,show o + l.length + (j - (min o 65536 + l.length)) = j by omega,memC_get hj,putF,if_pos ky,List.getElem?_eq_none ky]
 ·rw [List.getElem?_eq_none (by simp only [List.length_append,List.length_take,List.length_drop,memC_len,byteCells_length];omega),List.getElem?_eq_none (by rw [memC_len];omega)]
theorem putF_FB {f : Nat → Int} (hf : FB f) (o : Nat) (l : List UInt8) : FB (putF f o l) := fun j => by
 unfold putF
 split
 ·split
  ·rename_i b _
   have := b.toNat_lt
   omega
  ·exact hf j
 ·exact hf j
theorem mgetX (c : Nat) (f : Nat → Int) (at_ n : Int) (w : World) (hc : memH w c f) (hf : FB f) (ha : 0 ≤ at_ ∧ at_ < 4294967296) (hn : 1 ≤ n ∧ n < 4294967296) (hi : inM at_ n) :
  Calls Tryz.prog 24 #[.pointer (some ⟨c,0,none⟩),.int .u32 at_,.int .u32 n] w fun e w' => ∃ v,e = .returned (.tuple #[v,.int .i64 0]) ∧ Bs w' v (memL f (at_ - 2147483648).toNat n.toNat) ∧ (∀ k,v.ownBlock = some k → w.heap.size ≤ k) ∧ Upd (fun k => w.heap.size ≤ k) w w' := by
 unfold memH at hc
 obtain ⟨i1,i2⟩ := id hi
 have hd : decide (2147483648 ≤ at_ ∧ at_ + n ≤ 2147483648 + 65536) = true := decide_eq_true hi
 have hd2 : (!decide (2147483648 ≤ at_ ∧ at_ + n ≤ 2147483648 + 65536)) = false := by rw [hd];rfl
 obtain ⟨o,ho⟩ : ∃ o : Nat,at_ = 2147483648 + o := ⟨(at_ - 2147483648).toNat,by omega⟩
 obtain ⟨m,hm⟩ : ∃ m : Nat,n = m := ⟨n.toNat,by omega⟩
 subst ho hm
 rw [show (2147483648 + (o : Int) - 2147483648).toNat = o by omega,Int.toNat_natCast]
 have e1 : IntKind.u32.wrap (2147483648 + (o : Int) - 2147483648) = (o : Int) := by rw [IntKind.wrap_u32];omega
 have e2 : IntKind.u32.wrap ((o : Int) + (m : Int)) = ((o + m : Nat) : Int) := by rw [IntKind.wrap_u32];omega
 have hl : (byteCells (memL f o m)).length = m * 1 := by rw [byteCells_length,memL_len,Nat.mul_one]
 refine enter (args := [_,_,_]) (Γ := [(0,_),(1,_),(2,_)]) Tryz.func24 Tryz.ntmps24 rfl odq (.cons rfl (.cons rfl (.cons rfl .nil))) ?_
 repeat' first | refine Wl.move rfl rfl ?_ | refine Wl.assign rfl rfl ?_ | apply Wl.nil | apply St.seq | apply St.region | apply Gt.next
 apply Wl.callQ
 exact rfl
 (focus repeat constructor)
 ·intro wq hq
  exact hq.q (has_any c (2147483648 + (o : Int)) m wq ha ky)
 repeat' first | (apply Wl.sliceArr3 o (o + m);exact rfl;exact rfl;exact rfl;exact rfl;exact e1;(first | exact e2 | (rw [e1];exact e2));omega;omega;omega) | refine Wl.move rfl rfl ?_ | refine Wl.nilCheck rfl rfl ?_ | refine Wl.not rfl rfl ?_ | refine Wl.fieldAddr0 rfl rfl ?_ | refine Wl.add rfl rfl rfl ?_ | refine Wl.sub' rfl rfl rfl ?_ | apply Wl.nil | apply St.seq | apply St.region | (apply St.condF;exact rfl;exact ka) | apply St.skip | apply Gt.next
 apply Wl.append (base := w.heap.size) (n := 0) (xs := []) (news := byteCells (memL f o m)) (v := .slice none 0 0)
 ·exact rfl
 ·exact rfl
 ·exact rfl
 ·exact World.ownsRow_nil w _ _ _
 ·rw [byteCells_length,memL_len];omega
 ·intro wq hq j u hj
  have hjm : j < m := by have := (List.getElem?_eq_some_iff.1 hj).1;rw [byteCells_length,memL_len] at this;exact this
  rw [memL_cells hf o m j hjm] at hj
  cases hj
  rw [addLit]
  exact hq.old (cell_of hc (by rw [Nat.zero_add,Nat.mul_one];exact memC_get ky)) trivial
 ·exact fun k hk => by cases hk
 ·rw [List.all_eq_true]
  intro v hv
  simp only [byteCells,List.mem_map] at hv
  obtain ⟨b,_,rfl⟩ := hv
  rfl
 ·exact rfl
 ·decide
 ·unfold maxLen;omega
 ·omega
 ·exact Nat.le_refl _
 intro v1 w1 h1 u1 h3 h4
 have g1 := h1.ge
 have b1 : Bs w1 v1 (memL f o m) := by
  have h := Sv.ofOwn h1
  rw [List.nil_append,Nat.zero_add,show o + m - o = m by omega] at h
  unfold Bs
  rw [memL_len]
  exact h
 repeat' first | refine Wl.assign rfl rfl ?_ | apply Wl.nil | apply St.ret | apply Gt.next | (apply Gt.out2;exact rfl;exact rfl;exact rfl;intro w' hp)
 have hu1 : Upd (fun k => w.heap.size ≤ k) w w1 := u1.mono fun k _ hk => hk.elim (fun e => by cases e) fun y => absurd trivial y
 exact ⟨v1,rfl,b1.upd hp.upd fun k _ _ _ y => y trivial,fun k hk => (g1 k hk).1,hu1.comp hp.upd fun k hk hs => hs.elim id fun y => absurd trivial y⟩
theorem mputX1 (c : Nat) (f : Nat → Int) (at_ : Int) (v : Value) (l : List UInt8) (w : World) (hc : memH w c f) (hv : Bs w v l) (hvc : ∀ k,v.ownBlock = some k → l ≠ [] → k ≠ c) (ha : 0 ≤ at_ ∧ at_ < 4294967296) (hi : inM at_ l.length) (ho1 : at_ < 2147483648 + 65536) :
  Calls Tryz.prog 53 #[.pointer (some ⟨c,0,none⟩),.int .u32 at_,v] w fun e w' => e = .returned (.int .i64 0) ∧ memH w' c (putF f (at_ - 2147483648).toNat l) ∧ Upd (fun k => k = c) w w' := by
 unfold memH at hc
 obtain ⟨i1,i2⟩ := id hi
 obtain ⟨ad,cap,rfl,hs1,hs2⟩ := hv.shape
 have hd : decide (2147483648 ≤ at_ ∧ at_ + (l.length : Int) ≤ 2147483648 + 65536) = true := decide_eq_true hi
 have hd2 : (!decide (2147483648 ≤ at_ ∧ at_ + (l.length : Int) ≤ 2147483648 + 65536)) = false := by rw [hd];rfl
 obtain ⟨o,ho⟩ : ∃ o : Nat,at_ = 2147483648 + o := ⟨(at_ - 2147483648).toNat,by omega⟩
 subst ho
 rw [show (2147483648 + (o : Int) - 2147483648).toNat = o by omega]
 have e0 : IntKind.u64.wrap (l.length : Int) = (l.length : Int) := by rw [IntKind.wrap_u64];omega
 have e3 : IntKind.u32.wrap (l.length : Int) = (l.length : Int) := by rw [IntKind.wrap_u32];omega
 have hd0 : decide ((l.length : Int) > 65536) = false := decide_eq_false ky
 have e1 : IntKind.u32.wrap (2147483648 + (o : Int) - 2147483648) = (o : Int) := by rw [IntKind.wrap_u32];omega
 refine enter (args := [_,_,_]) (Γ := [(0,_),(1,_),(2,_)]) Tryz.func53 Tryz.ntmps53 rfl odq (.cons rfl (.cons rfl (.cons rfl .nil))) ?_
 repeat' first | refine Wl.move rfl rfl ?_ | refine Wl.assign rfl rfl ?_ | (apply Wl.on;exact rfl;exact rfl;exact ka) | refine Wl.gtr rfl rfl rfl ?_ | (refine Wl.convU64 rfl rfl ?_ ?_;constructor <;> omega) | (refine Wl.convU32 rfl rfl ?_ ?_;constructor <;> omega) | refine Wl.len rfl rfl ?_ | apply Wl.nil | apply St.seq | apply St.region | apply Gt.next
 apply Wl.callQ
 exact rfl
 (focus repeat constructor)
 ·intro wq hq
  exact hq.q (has_any c (2147483648 + (o : Int)) l.length wq ha ky)
 repeat' first | (apply Wl.sliceArr1 o;exact rfl;exact rfl;exact rfl;exact e1;omega) | refine Wl.move rfl rfl ?_ | (apply Wl.on;exact rfl;exact rfl;exact ka) | refine Wl.nilCheck rfl rfl ?_ | (apply Wl.pickF;exact rfl;exact rfl;exact ka;exact rfl) | refine Wl.not rfl rfl ?_ | refine Wl.fieldAddr0 rfl rfl ?_ | refine Wl.sub' rfl rfl rfl ?_ | apply Wl.nil | apply St.seq | apply St.region | (apply St.condF;exact rfl;exact ka) | apply St.skip | apply Gt.next
 refine Wl.cls (fun _ h' => Hp.open h' hc trivial) ?_
 apply Wl.copyO (l := l) (cs' := memC (putF f o l))
 ·exact rfl
 ·exact rfl
 ·exact rfl
 ·exact ke
 ·rw [show 0 + o * 1 = o by omega];exact putF_cells f o l ky
 ·omega
 ·rw [memC_len];omega
 ·exact fun wq hq => hv.upd hq.upd fun k hk _ hne y => y ⟨fun e => hvc k hk hne e.symm,trivial⟩
 repeat' first | refine Wl.assign rfl rfl ?_ | apply Wl.nil | apply St.seq | apply St.region | apply St.ret | apply Gt.next | (apply Gt.out1;exact rfl;exact rfl;intro w' hp)
 exact ⟨rfl,hp.own.at (.head _),Hp.turned hp⟩
theorem mputX (c : Nat) (f : Nat → Int) (at_ : Int) (v : Value) (l : List UInt8) (w : World) (hc : memH w c f) (hv : Bs w v l) (hvc : ∀ k,v.ownBlock = some k → k ≠ c) (ha : 0 ≤ at_ ∧ at_ < 4294967296) (hi : inM at_ l.length) (ho1 : at_ < 2147483648 + 65536) :
  Calls Tryz.prog 53 #[.pointer (some ⟨c,0,none⟩),.int .u32 at_,v] w fun e w' => e = .returned (.int .i64 0) ∧ memH w' c (putF f (at_ - 2147483648).toNat l) ∧ Upd (fun k => k = c) w w' := mputX1 c f at_ v l w hc hv (fun k hk _ => hvc k hk) ha hi ho1
end Go.Proofs.YtabbklpalbikdaaGreatDoor
end
section
namespace Go.Pt
theorem Mt.eff3 {P : Program} {ops : Array Oper} {N n : Nat} {Γ : Env} {C D : World → Prop} {Q : Act → World → Prop} {listed : Array Bool} {i j k : Nat} {o o' o'' : Oper} (hr : Region.ready .any ops listed = [i,j,k]) (hi : ops[i]? = some o) (hj : ops[j]? = some o') (hk : ops[k]? = some o'')
  (h : Wl [o] P .seq ops N Γ D (MtE P ops C Q n (listed.setIfInBounds i true))) (h' : Wl [o'] P .seq ops N Γ D (MtE P ops C Q n (listed.setIfInBounds j true))) (h'' : Wl [o''] P .seq ops N Γ D (MtE P ops C Q n (listed.setIfInBounds k true))) : Mt P ops N (n + 1) listed Γ D C Q := fun a w ha hD hC => by
 refine ⟨hC,fun e => (by rw [hr] at e;cases e),fun x hx => ?_⟩
 rw [hr] at hx
 simp only [List.mem_cons,List.not_mem_nil,or_false] at hx
 rcases hx with rfl | rfl | rfl
 ·exact Mt.op hi h a w ha hD
 ·exact Mt.op hj h' a w ha hD
 ·exact Mt.op hk h'' a w ha hD
end Go.Pt
namespace Go.Proofs.YtabbklpalbikdaaGreatDoor
open Go.RowKit Go.Pt
section
variable (base bd ia : Nat) (lv : Value) (ll : List (Int × List UInt8)) (used : Int) (ins : List (List UInt8)) (who : Nat) (s : List UInt8) (w : World)
theorem bSayFull (hB : BoardS w base bd ia lv ll used ins) (hwho : who < ins.length) (hs : s.length ≤ 64) (hu : 0 ≤ used ∧ used ≤ 256) (hf : 256 < used + s.length) :
  Calls Tryz.prog 81 #[.pointer (some ⟨bd,0,none⟩),.int .i64 who,strV s] w fun e w' => e = .returned (.int .i64 16) ∧ Hp w [] w' := by
 have hB0 := hB
 have hwl : who < ins.length := hwho
 obtain ⟨⟨cap,J,a,b⟩,hr,r1,r2⟩ := hB
 have p1 : w.cell? ⟨bd,1,none⟩ = some (.int .i64 used) := cell_of a rfl
 have hs1 := strV_size s
 have hd0 : decide (((strOf s).size : Int) > 64) = false := decide_eq_false ky
 have hd1 : decide (used + ((strOf s).size : Int) > 256) = true := decide_eq_true ky
 refine enter (args := [_,_,_]) (Γ := [(0,_),(1,_),(2,_)]) Tryz.func81 Tryz.ntmps81 rfl odq (.cons rfl (.cons rfl (.cons rfl .nil))) ?_
 repeat' first | refine Wl.move rfl rfl ?_ | refine Wl.assign rfl rfl ?_ | apply Wl.nil | apply St.seq | apply St.block | apply St.region | apply Gt.next
 apply Wl.callQ
 exact rfl
 (focus repeat constructor)
 ·intro wq hq
  exact hq.q (bHas base bd ia lv ll used ins who wq (hB0.upd hq.upd nt0 nt0 fun _ _ y => y trivial) hwl)
 repeat' first | (apply Wl.loadO;exact rfl;exact rfl;exact zw;exact kh) | refine Wl.move rfl rfl ?_ | refine Wl.assign rfl rfl ?_ | (apply Wl.on;exact rfl;exact rfl;exact ka) | refine Wl.nilCheck rfl rfl ?_ | (apply Wl.pickF;exact rfl;exact rfl;exact ka;exact rfl) | refine Wl.not rfl rfl ?_ | refine Wl.fieldAddrZ rfl rfl ?_ | refine Wl.gtr rfl rfl rfl ?_ | (refine Wl.addI rfl rfl rfl ?_ ?_;constructor <;> omega) | refine Wl.lenS rfl rfl ?_ | apply Wl.nil | apply St.seq | apply St.region | (apply St.condT;exact rfl;exact ka) | (apply St.condF;exact rfl;exact ka) | apply St.ret | apply Gt.next | apply Gt.thenRet | apply Gt.inRet | (apply Gt.out1;exact rfl;exact rfl;intro w' hp)
 exact ⟨rfl,hp⟩
theorem bSay0 (hB : BoardS w base bd ia lv ll used ins) (hwho : who < ins.length) (hs0 : s = []) (hu : 0 ≤ used ∧ used ≤ 256) :
  Calls Tryz.prog 81 #[.pointer (some ⟨bd,0,none⟩),.int .i64 who,strV s] w fun e w' => e = .returned (.int .i64 0) ∧ Hp w [] w' := by
 have hs : s.length ≤ 64 := by rw [hs0];decide
 have hsl : s.length = 0 := by rw [hs0];rfl
 have hB0 := hB
 have hwl : who < ins.length := hwho
 obtain ⟨⟨cap,J,a,b⟩,hr,r1,r2⟩ := hB
 have p1 : w.cell? ⟨bd,1,none⟩ = some (.int .i64 used) := cell_of a rfl
 have hs1 := strV_size s
 have hd0 : decide (((strOf s).size : Int) > 64) = false := decide_eq_false ky
 have hd1 : decide (used + ((strOf s).size : Int) > 256) = false := decide_eq_false ky
 have hd2 : decide (s ≠ []) = false := by rw [hs0];rfl
 refine enter (args := [_,_,_]) (Γ := [(0,_),(1,_),(2,_)]) Tryz.func81 Tryz.ntmps81 rfl odq (.cons rfl (.cons rfl (.cons rfl .nil))) ?_
 repeat' first | refine Wl.move rfl rfl ?_ | refine Wl.assign rfl rfl ?_ | apply Wl.nil | apply St.seq | apply St.block | apply St.region | apply Gt.next
 apply Wl.callQ
 exact rfl
 (focus repeat constructor)
 ·intro wq hq
  exact hq.q (bHas base bd ia lv ll used ins who wq (hB0.upd hq.upd nt0 nt0 fun _ _ y => y trivial) hwl)
 repeat' first | (apply Wl.loadO;exact rfl;exact rfl;exact zw;exact kh) | (apply Wl.neqSB (p := s) (q := []);exact rfl;exact rfl;exact rfl) | refine Wl.move rfl rfl ?_ | refine Wl.assign rfl rfl ?_ | (apply Wl.on;exact rfl;exact rfl;exact ka) | refine Wl.nilCheck rfl rfl ?_ | (apply Wl.pickF;exact rfl;exact rfl;exact ka;exact rfl) | refine Wl.not rfl rfl ?_ | refine Wl.fieldAddrZ rfl rfl ?_ | refine Wl.gtr rfl rfl rfl ?_ | (refine Wl.addI rfl rfl rfl ?_ ?_;constructor <;> omega) | refine Wl.lenS rfl rfl ?_ | apply Wl.nil | apply St.seq | apply St.region | (apply St.condF;exact rfl;exact ka) | apply St.ret | apply St.skip | apply Gt.next | apply Gt.inNormal | (apply Gt.out1;exact rfl;exact rfl;intro w' hp)
 exact ⟨rfl,hp⟩
theorem bSay (hB : BoardS w base bd ia lv ll used ins) (hwho : who < ins.length) (hs0 : s ≠ []) (hs : s.length ≤ 64) (hu : 0 ≤ used ∧ used ≤ 256) (hf : used + s.length ≤ 256) (hll : ll.length ≤ 1000) (hb : base ≤ w.heap.size) :
  Calls Tryz.prog 81 #[.pointer (some ⟨bd,0,none⟩),.int .i64 who,strV s] w fun e w' => ∃ lv',e = .returned (.int .i64 0) ∧ BoardS w' base bd ia lv' (ll ++ [((who : Int),s)]) (used + s.length) ins ∧ Upd (fun k => k = bd ∨ lv.ownBlock = some k ∨ w.heap.size ≤ k) w w' ∧ (∀ k,lv'.ownBlock = some k → lv.ownBlock = some k ∨ w.heap.size ≤ k) := by
 have hB0 := hB
 have hwl : who < ins.length := hwho
 obtain ⟨⟨cap,J,a,b⟩,hr,r1,r2⟩ := hB
 have p1 : w.cell? ⟨bd,1,none⟩ = some (.int .i64 used) := cell_of a rfl
 have hs1 := strV_size s
 have hd0 : decide (((strOf s).size : Int) > 64) = false := decide_eq_false ky
 have hd1 : decide (used + ((strOf s).size : Int) > 256) = false := decide_eq_false ky
 have hd2 : decide (s ≠ []) = true := decide_eq_true hs0
 have hne : bd ≠ ia := blk_ne a b
 have hlb : bd < w.heap.size := lt_of_block a
 have hla : ia < w.heap.size := lt_of_block b
 have hlo : ∀ k,lv.ownBlock = some k → k ≠ bd ∧ k ≠ ia := fun k hk => (hr.heap hk).elim fun _ hg => ⟨blk_ne hg a,blk_ne hg b⟩
 refine enter (args := [_,_,_]) (Γ := [(0,_),(1,_),(2,_)]) Tryz.func81 Tryz.ntmps81 rfl odq (.cons rfl (.cons rfl (.cons rfl .nil))) ?_
 repeat' first | refine Wl.move rfl rfl ?_ | refine Wl.assign rfl rfl ?_ | apply Wl.nil | apply St.seq | apply St.block | apply St.region | apply Gt.next
 apply Wl.callQ
 exact rfl
 (focus repeat constructor)
 ·intro wq hq
  exact hq.q (bHas base bd ia lv ll used ins who wq (hB0.upd hq.upd nt0 nt0 fun _ _ y => y trivial) hwl)
 repeat' first | (apply Wl.loadO;exact rfl;exact rfl;exact zw;exact kh) | (apply Wl.neqSB (p := s) (q := []);exact rfl;exact rfl;exact rfl) | refine Wl.move rfl rfl ?_ | refine Wl.assign rfl rfl ?_ | (apply Wl.on;exact rfl;exact rfl;exact ka) | refine Wl.nilCheck rfl rfl ?_ | (apply Wl.pickF;exact rfl;exact rfl;exact ka;exact rfl) | refine Wl.not rfl rfl ?_ | refine Wl.fieldAddrZ rfl rfl ?_ | refine Wl.gtr rfl rfl rfl ?_ | (refine Wl.addI rfl rfl rfl ?_ ?_;constructor <;> omega) | refine Wl.lenS rfl rfl ?_ | apply Wl.nil | apply St.seq | apply St.region | (apply St.condT;exact rfl;exact ka) | (apply St.condF;exact rfl;exact ka) | apply Gt.next
 refine St.cls (fun _ h' => Hp.open h' a trivial) ?_
 refine St.tree (fun _ => True) mixed (fun _ h' => ⟨Hp.drew h',trivial⟩) ?_
 refine Mt.pm 0 ?_
 refine Mt.pm 1 ?_
 refine Mt.pm 2 ?_
 refine Mt.pm 6 ?_
 refine Mt.pm 7 ?_
 refine Mt.pm 11 ?_
 refine Mt.pm 15 ?_
 refine Mt.pn 3 ?_
 refine Mt.pu 8 ?_
 apply Wl.buildS;exact rfl;exact ki;exact kc;apply Wl.nilB
 refine Mt.pn 12 ?_
 refine Mt.pu 16 ?_
 refine Wl.lenS rfl rfl (Wl.nilB ?_)
 refine Mt.pf 4 ?_
 refine Mt.pz 13 ?_
 refine Mt.eff3 (i := 5) (j := 9) (k := 14) kg zd zd zd ?_ ?_ ?_
 ·repeat' first | (apply Wl.loadH;exact rfl;exact rfl;exact ke;exact rfl) | apply Wl.nil
  refine Mt.backE (fun _ _ => trivial) ?_
  refine Mt.eff2 (i := 9) (j := 14) kg zd zd ?_ ?_
  ·repeat' first | (apply Wl.lit;exact rfl;exact ki;exact rfl;exact rfl;exact kj;intro c hc ho) | apply Wl.nil
   refine Mt.backE (fun _ _ => trivial) ?_
   refine Mt.eff2 (i := 10) (j := 14) kg zd zd ?_ ?_
   ·apply Wl.appendT (base := base) (n := ll.length) (m := 1) (sz := 2) (e := 111) (xs := (ll.map lineC).flatten)
    ·exact rfl
    ·exact rfl
    ·exact rfl
    ·assumption
    ·exact rfl
    ·exact hr
    ·exact fun k hk => ⟨fun e => (hlo k hk).1 e.symm,trivial⟩
    ·exact rfl
    ·exact rfl
    ·decide
    ·unfold maxLen;omega
    ·omega
    ·omega
    intro v' w5 ho5 u5 _ hoff5
    have hov := ho5.one
    have s5 := u5.size
    apply Wl.nil
    refine Mt.backE (fun _ _ => trivial) ?_
    refine Mt.e1 14 ?_
    repeat' first | (apply Wl.loadH;exact rfl;exact rfl;exact ke;exact rfl) | apply Wl.nil
    refine Mt.backE (fun _ _ => trivial) ?_
    refine Mt.pu 17 ?_
    refine Wl.addI rfl rfl rfl ?_ ?_;constructor <;> omega;apply Wl.nilB
    refine Mt.pn 18 ?_
    refine Mt.pf 19 ?_
    refine Mt.e1 20 ?_
    apply Wl.store
    ·exact rfl
    ·exact rfl
    ·first | exact hov | exact rfl
    ·exact ke
    ·exact kx
    apply Wl.nil
    refine Mt.backE (fun _ _ => trivial) ?_
    refine Mt.pn 21 ?_
    refine Mt.pz 22 ?_
    refine Mt.e1 23 ?_
    apply Wl.store
    ·exact rfl
    ·exact rfl
    ·first | exact hov | exact rfl
    ·exact ke
    ·exact kx
    apply Wl.nil
    refine Mt.backE (fun _ _ => trivial) ?_
    refine Mt.toGt kg ?_
    repeat' first | refine Wl.assign rfl rfl ?_ | apply Wl.nil | apply St.seq | apply St.region | apply St.ret | apply Gt.next | apply Gt.inNormal | (apply Gt.out1;exact rfl;exact rfl;intro w' hp)
    have b5 := u5.heap b fun h => by rcases h with h | h;exact (hlo _ h).2 rfl;exact h ⟨hne,trivial⟩
    refine ⟨v',rfl,⟨⟨cap,J,by rw [← hs1];exact hp.own.at (.head _),hp.upd.heap b5 fun y => y ⟨hne,trivial⟩⟩,?_,r1,r2⟩,?_,fun k hk => (hoff5 k hk).2⟩
    ·have h := ownsRow_upd ho5 hp.upd fun k hk y => y (hoff5 k hk).1
     rw [List.length_append,List.map_append,List.flatten_append]
     exact h
    ·exact u5.comp hp.upd fun k hk hs => by
      rcases hs with (h | h) | h
      ·exact .inr (.inl h)
      ·exact .inl (Classical.byContradiction fun hn => h ⟨fun e => hn e.symm,trivial⟩)
      ·exact .inl (Classical.byContradiction fun hn => h ⟨fun e => hn e.symm,trivial⟩)
   ·repeat' first | (apply Wl.loadH;exact rfl;exact rfl;exact ke;exact rfl) | apply Wl.nil
    refine Mt.backE (fun _ _ => trivial) ?_
    refine Mt.pu 17 ?_
    refine Wl.addI rfl rfl rfl ?_ ?_;constructor <;> omega;apply Wl.nilB
    refine Mt.e1 10 ?_
    apply Wl.appendT (base := base) (n := ll.length) (m := 1) (sz := 2) (e := 111) (xs := (ll.map lineC).flatten)
    ·exact rfl
    ·exact rfl
    ·exact rfl
    ·assumption
    ·exact rfl
    ·exact hr
    ·exact fun k hk => ⟨fun e => (hlo k hk).1 e.symm,trivial⟩
    ·exact rfl
    ·exact rfl
    ·decide
    ·unfold maxLen;omega
    ·omega
    ·omega
    intro v' w5 ho5 u5 _ hoff5
    have hov := ho5.one
    have s5 := u5.size
    apply Wl.nil
    refine Mt.backE (fun _ _ => trivial) ?_
    refine Mt.pn 18 ?_
    refine Mt.pf 19 ?_
    refine Mt.e1 20 ?_
    apply Wl.store
    ·exact rfl
    ·exact rfl
    ·first | exact hov | exact rfl
    ·exact ke
    ·exact kx
    apply Wl.nil
    refine Mt.backE (fun _ _ => trivial) ?_
    refine Mt.pn 21 ?_
    refine Mt.pz 22 ?_
    refine Mt.e1 23 ?_
    apply Wl.store
    ·exact rfl
    ·exact rfl
    ·first | exact hov | exact rfl
    ·exact ke
    ·exact kx
    apply Wl.nil
    refine Mt.backE (fun _ _ => trivial) ?_
    refine Mt.toGt kg ?_
    repeat' first | refine Wl.assign rfl rfl ?_ | apply Wl.nil | apply St.seq | apply St.region | apply St.ret | apply Gt.next | apply Gt.inNormal | (apply Gt.out1;exact rfl;exact rfl;intro w' hp)
    have b5 := u5.heap b fun h => by rcases h with h | h;exact (hlo _ h).2 rfl;exact h ⟨hne,trivial⟩
    refine ⟨v',rfl,⟨⟨cap,J,by rw [← hs1];exact hp.own.at (.head _),hp.upd.heap b5 fun y => y ⟨hne,trivial⟩⟩,?_,r1,r2⟩,?_,fun k hk => (hoff5 k hk).2⟩
    ·have h := ownsRow_upd ho5 hp.upd fun k hk y => y (hoff5 k hk).1
     rw [List.length_append,List.map_append,List.flatten_append]
     exact h
    ·exact u5.comp hp.upd fun k hk hs => by
      rcases hs with (h | h) | h
      ·exact .inr (.inl h)
      ·exact .inl (Classical.byContradiction fun hn => h ⟨fun e => hn e.symm,trivial⟩)
      ·exact .inl (Classical.byContradiction fun hn => h ⟨fun e => hn e.symm,trivial⟩)
  ·repeat' first | (apply Wl.loadH;exact rfl;exact rfl;exact ke;exact rfl) | apply Wl.nil
   refine Mt.backE (fun _ _ => trivial) ?_
   refine Mt.pu 17 ?_
   refine Wl.addI rfl rfl rfl ?_ ?_;constructor <;> omega;apply Wl.nilB
   refine Mt.e1 9 ?_
   repeat' first | (apply Wl.lit;exact rfl;exact ki;exact rfl;exact rfl;exact kj;intro c hc ho) | apply Wl.nil
   refine Mt.backE (fun _ _ => trivial) ?_
   refine Mt.e1 10 ?_
   apply Wl.appendT (base := base) (n := ll.length) (m := 1) (sz := 2) (e := 111) (xs := (ll.map lineC).flatten)
   ·exact rfl
   ·exact rfl
   ·exact rfl
   ·assumption
   ·exact rfl
   ·exact hr
   ·exact fun k hk => ⟨fun e => (hlo k hk).1 e.symm,trivial⟩
   ·exact rfl
   ·exact rfl
   ·decide
   ·unfold maxLen;omega
   ·omega
   ·omega
   intro v' w5 ho5 u5 _ hoff5
   have hov := ho5.one
   have s5 := u5.size
   apply Wl.nil
   refine Mt.backE (fun _ _ => trivial) ?_
   refine Mt.pn 18 ?_
   refine Mt.pf 19 ?_
   refine Mt.e1 20 ?_
   apply Wl.store
   ·exact rfl
   ·exact rfl
   ·first | exact hov | exact rfl
   ·exact ke
   ·exact kx
   apply Wl.nil
   refine Mt.backE (fun _ _ => trivial) ?_
   refine Mt.pn 21 ?_
   refine Mt.pz 22 ?_
   refine Mt.e1 23 ?_
   apply Wl.store
   ·exact rfl
   ·exact rfl
   ·first | exact hov | exact rfl
   ·exact ke
   ·exact kx
   apply Wl.nil
   refine Mt.backE (fun _ _ => trivial) ?_
   refine Mt.toGt kg ?_
   repeat' first | refine Wl.assign rfl rfl ?_ | apply Wl.nil | apply St.seq | apply St.region | apply St.ret | apply Gt.next | apply Gt.inNormal | (apply Gt.out1;exact rfl;exact rfl;intro w' hp)
   have b5 := u5.heap b fun h => by rcases h with h | h;exact (hlo _ h).2 rfl;exact h ⟨hne,trivial⟩
   refine ⟨v',rfl,⟨⟨cap,J,by rw [← hs1];exact hp.own.at (.head _),hp.upd.heap b5 fun y => y ⟨hne,trivial⟩⟩,?_,r1,r2⟩,?_,fun k hk => (hoff5 k hk).2⟩
   ·have h := ownsRow_upd ho5 hp.upd fun k hk y => y (hoff5 k hk).1
    rw [List.length_append,List.map_append,List.flatten_append]
    exact h
   ·exact u5.comp hp.upd fun k hk hs => by
     rcases hs with (h | h) | h
     ·exact .inr (.inl h)
     ·exact .inl (Classical.byContradiction fun hn => h ⟨fun e => hn e.symm,trivial⟩)
     ·exact .inl (Classical.byContradiction fun hn => h ⟨fun e => hn e.symm,trivial⟩)
 ·repeat' first | (apply Wl.lit;exact rfl;exact ki;exact rfl;exact rfl;exact kj;intro c hc ho) | apply Wl.nil
  refine Mt.backE (fun _ _ => trivial) ?_
  refine Mt.eff2 (i := 5) (j := 14) kg zd zd ?_ ?_
  ·repeat' first | (apply Wl.loadH;exact rfl;exact rfl;exact ke;exact rfl) | apply Wl.nil
   refine Mt.backE (fun _ _ => trivial) ?_
   refine Mt.eff2 (i := 10) (j := 14) kg zd zd ?_ ?_
   ·apply Wl.appendT (base := base) (n := ll.length) (m := 1) (sz := 2) (e := 111) (xs := (ll.map lineC).flatten)
    ·exact rfl
    ·exact rfl
    ·exact rfl
    ·assumption
    ·exact rfl
    ·exact hr
    ·exact fun k hk => ⟨fun e => (hlo k hk).1 e.symm,trivial⟩
    ·exact rfl
    ·exact rfl
    ·decide
    ·unfold maxLen;omega
    ·omega
    ·omega
    intro v' w5 ho5 u5 _ hoff5
    have hov := ho5.one
    have s5 := u5.size
    apply Wl.nil
    refine Mt.backE (fun _ _ => trivial) ?_
    refine Mt.e1 14 ?_
    repeat' first | (apply Wl.loadH;exact rfl;exact rfl;exact ke;exact rfl) | apply Wl.nil
    refine Mt.backE (fun _ _ => trivial) ?_
    refine Mt.pu 17 ?_
    refine Wl.addI rfl rfl rfl ?_ ?_;constructor <;> omega;apply Wl.nilB
    refine Mt.pn 18 ?_
    refine Mt.pf 19 ?_
    refine Mt.e1 20 ?_
    apply Wl.store
    ·exact rfl
    ·exact rfl
    ·first | exact hov | exact rfl
    ·exact ke
    ·exact kx
    apply Wl.nil
    refine Mt.backE (fun _ _ => trivial) ?_
    refine Mt.pn 21 ?_
    refine Mt.pz 22 ?_
    refine Mt.e1 23 ?_
    apply Wl.store
    ·exact rfl
    ·exact rfl
    ·first | exact hov | exact rfl
    ·exact ke
    ·exact kx
    apply Wl.nil
    refine Mt.backE (fun _ _ => trivial) ?_
    refine Mt.toGt kg ?_
    repeat' first | refine Wl.assign rfl rfl ?_ | apply Wl.nil | apply St.seq | apply St.region | apply St.ret | apply Gt.next | apply Gt.inNormal | (apply Gt.out1;exact rfl;exact rfl;intro w' hp)
    have b5 := u5.heap b fun h => by rcases h with h | h;exact (hlo _ h).2 rfl;exact h ⟨hne,trivial⟩
    refine ⟨v',rfl,⟨⟨cap,J,by rw [← hs1];exact hp.own.at (.head _),hp.upd.heap b5 fun y => y ⟨hne,trivial⟩⟩,?_,r1,r2⟩,?_,fun k hk => (hoff5 k hk).2⟩
    ·have h := ownsRow_upd ho5 hp.upd fun k hk y => y (hoff5 k hk).1
     rw [List.length_append,List.map_append,List.flatten_append]
     exact h
    ·exact u5.comp hp.upd fun k hk hs => by
      rcases hs with (h | h) | h
      ·exact .inr (.inl h)
      ·exact .inl (Classical.byContradiction fun hn => h ⟨fun e => hn e.symm,trivial⟩)
      ·exact .inl (Classical.byContradiction fun hn => h ⟨fun e => hn e.symm,trivial⟩)
   ·repeat' first | (apply Wl.loadH;exact rfl;exact rfl;exact ke;exact rfl) | apply Wl.nil
    refine Mt.backE (fun _ _ => trivial) ?_
    refine Mt.pu 17 ?_
    refine Wl.addI rfl rfl rfl ?_ ?_;constructor <;> omega;apply Wl.nilB
    refine Mt.e1 10 ?_
    apply Wl.appendT (base := base) (n := ll.length) (m := 1) (sz := 2) (e := 111) (xs := (ll.map lineC).flatten)
    ·exact rfl
    ·exact rfl
    ·exact rfl
    ·assumption
    ·exact rfl
    ·exact hr
    ·exact fun k hk => ⟨fun e => (hlo k hk).1 e.symm,trivial⟩
    ·exact rfl
    ·exact rfl
    ·decide
    ·unfold maxLen;omega
    ·omega
    ·omega
    intro v' w5 ho5 u5 _ hoff5
    have hov := ho5.one
    have s5 := u5.size
    apply Wl.nil
    refine Mt.backE (fun _ _ => trivial) ?_
    refine Mt.pn 18 ?_
    refine Mt.pf 19 ?_
    refine Mt.e1 20 ?_
    apply Wl.store
    ·exact rfl
    ·exact rfl
    ·first | exact hov | exact rfl
    ·exact ke
    ·exact kx
    apply Wl.nil
    refine Mt.backE (fun _ _ => trivial) ?_
    refine Mt.pn 21 ?_
    refine Mt.pz 22 ?_
    refine Mt.e1 23 ?_
    apply Wl.store
    ·exact rfl
    ·exact rfl
    ·first | exact hov | exact rfl
    ·exact ke
    ·exact kx
    apply Wl.nil
    refine Mt.backE (fun _ _ => trivial) ?_
    refine Mt.toGt kg ?_
    repeat' first | refine Wl.assign rfl rfl ?_ | apply Wl.nil | apply St.seq | apply St.region | apply St.ret | apply Gt.next | apply Gt.inNormal | (apply Gt.out1;exact rfl;exact rfl;intro w' hp)
    have b5 := u5.heap b fun h => by rcases h with h | h;exact (hlo _ h).2 rfl;exact h ⟨hne,trivial⟩
    refine ⟨v',rfl,⟨⟨cap,J,by rw [← hs1];exact hp.own.at (.head _),hp.upd.heap b5 fun y => y ⟨hne,trivial⟩⟩,?_,r1,r2⟩,?_,fun k hk => (hoff5 k hk).2⟩
    ·have h := ownsRow_upd ho5 hp.upd fun k hk y => y (hoff5 k hk).1
     rw [List.length_append,List.map_append,List.flatten_append]
     exact h
    ·exact u5.comp hp.upd fun k hk hs => by
      rcases hs with (h | h) | h
      ·exact .inr (.inl h)
      ·exact .inl (Classical.byContradiction fun hn => h ⟨fun e => hn e.symm,trivial⟩)
      ·exact .inl (Classical.byContradiction fun hn => h ⟨fun e => hn e.symm,trivial⟩)
  ·repeat' first | (apply Wl.loadH;exact rfl;exact rfl;exact ke;exact rfl) | apply Wl.nil
   refine Mt.backE (fun _ _ => trivial) ?_
   refine Mt.pu 17 ?_
   refine Wl.addI rfl rfl rfl ?_ ?_;constructor <;> omega;apply Wl.nilB
   refine Mt.e1 5 ?_
   repeat' first | (apply Wl.loadH;exact rfl;exact rfl;exact ke;exact rfl) | apply Wl.nil
   refine Mt.backE (fun _ _ => trivial) ?_
   refine Mt.e1 10 ?_
   apply Wl.appendT (base := base) (n := ll.length) (m := 1) (sz := 2) (e := 111) (xs := (ll.map lineC).flatten)
   ·exact rfl
   ·exact rfl
   ·exact rfl
   ·assumption
   ·exact rfl
   ·exact hr
   ·exact fun k hk => ⟨fun e => (hlo k hk).1 e.symm,trivial⟩
   ·exact rfl
   ·exact rfl
   ·decide
   ·unfold maxLen;omega
   ·omega
   ·omega
   intro v' w5 ho5 u5 _ hoff5
   have hov := ho5.one
   have s5 := u5.size
   apply Wl.nil
   refine Mt.backE (fun _ _ => trivial) ?_
   refine Mt.pn 18 ?_
   refine Mt.pf 19 ?_
   refine Mt.e1 20 ?_
   apply Wl.store
   ·exact rfl
   ·exact rfl
   ·first | exact hov | exact rfl
   ·exact ke
   ·exact kx
   apply Wl.nil
   refine Mt.backE (fun _ _ => trivial) ?_
   refine Mt.pn 21 ?_
   refine Mt.pz 22 ?_
   refine Mt.e1 23 ?_
   apply Wl.store
   ·exact rfl
   ·exact rfl
   ·first | exact hov | exact rfl
   ·exact ke
   ·exact kx
   apply Wl.nil
   refine Mt.backE (fun _ _ => trivial) ?_
   refine Mt.toGt kg ?_
   repeat' first | refine Wl.assign rfl rfl ?_ | apply Wl.nil | apply St.seq | apply St.region | apply St.ret | apply Gt.next | apply Gt.inNormal | (apply Gt.out1;exact rfl;exact rfl;intro w' hp)
   have b5 := u5.heap b fun h => by rcases h with h | h;exact (hlo _ h).2 rfl;exact h ⟨hne,trivial⟩
   refine ⟨v',rfl,⟨⟨cap,J,by rw [← hs1];exact hp.own.at (.head _),hp.upd.heap b5 fun y => y ⟨hne,trivial⟩⟩,?_,r1,r2⟩,?_,fun k hk => (hoff5 k hk).2⟩
   ·have h := ownsRow_upd ho5 hp.upd fun k hk y => y (hoff5 k hk).1
    rw [List.length_append,List.map_append,List.flatten_append]
    exact h
   ·exact u5.comp hp.upd fun k hk hs => by
     rcases hs with (h | h) | h
     ·exact .inr (.inl h)
     ·exact .inl (Classical.byContradiction fun hn => h ⟨fun e => hn e.symm,trivial⟩)
     ·exact .inl (Classical.byContradiction fun hn => h ⟨fun e => hn e.symm,trivial⟩)
 ·repeat' first | (apply Wl.loadH;exact rfl;exact rfl;exact ke;exact rfl) | apply Wl.nil
  refine Mt.backE (fun _ _ => trivial) ?_
  refine Mt.pu 17 ?_
  refine Wl.addI rfl rfl rfl ?_ ?_;constructor <;> omega;apply Wl.nilB
  refine Mt.eff2 (i := 5) (j := 9) kg zd zd ?_ ?_
  ·repeat' first | (apply Wl.loadH;exact rfl;exact rfl;exact ke;exact rfl) | apply Wl.nil
   refine Mt.backE (fun _ _ => trivial) ?_
   refine Mt.e1 9 ?_
   repeat' first | (apply Wl.lit;exact rfl;exact ki;exact rfl;exact rfl;exact kj;intro c hc ho) | apply Wl.nil
   refine Mt.backE (fun _ _ => trivial) ?_
   refine Mt.e1 10 ?_
   apply Wl.appendT (base := base) (n := ll.length) (m := 1) (sz := 2) (e := 111) (xs := (ll.map lineC).flatten)
   ·exact rfl
   ·exact rfl
   ·exact rfl
   ·assumption
   ·exact rfl
   ·exact hr
   ·exact fun k hk => ⟨fun e => (hlo k hk).1 e.symm,trivial⟩
   ·exact rfl
   ·exact rfl
   ·decide
   ·unfold maxLen;omega
   ·omega
   ·omega
   intro v' w5 ho5 u5 _ hoff5
   have hov := ho5.one
   have s5 := u5.size
   apply Wl.nil
   refine Mt.backE (fun _ _ => trivial) ?_
   refine Mt.pn 18 ?_
   refine Mt.pf 19 ?_
   refine Mt.e1 20 ?_
   apply Wl.store
   ·exact rfl
   ·exact rfl
   ·first | exact hov | exact rfl
   ·exact ke
   ·exact kx
   apply Wl.nil
   refine Mt.backE (fun _ _ => trivial) ?_
   refine Mt.pn 21 ?_
   refine Mt.pz 22 ?_
   refine Mt.e1 23 ?_
   apply Wl.store
   ·exact rfl
   ·exact rfl
   ·first | exact hov | exact rfl
   ·exact ke
   ·exact kx
   apply Wl.nil
   refine Mt.backE (fun _ _ => trivial) ?_
   refine Mt.toGt kg ?_
   repeat' first | refine Wl.assign rfl rfl ?_ | apply Wl.nil | apply St.seq | apply St.region | apply St.ret | apply Gt.next | apply Gt.inNormal | (apply Gt.out1;exact rfl;exact rfl;intro w' hp)
   have b5 := u5.heap b fun h => by rcases h with h | h;exact (hlo _ h).2 rfl;exact h ⟨hne,trivial⟩
   refine ⟨v',rfl,⟨⟨cap,J,by rw [← hs1];exact hp.own.at (.head _),hp.upd.heap b5 fun y => y ⟨hne,trivial⟩⟩,?_,r1,r2⟩,?_,fun k hk => (hoff5 k hk).2⟩
   ·have h := ownsRow_upd ho5 hp.upd fun k hk y => y (hoff5 k hk).1
    rw [List.length_append,List.map_append,List.flatten_append]
    exact h
   ·exact u5.comp hp.upd fun k hk hs => by
     rcases hs with (h | h) | h
     ·exact .inr (.inl h)
     ·exact .inl (Classical.byContradiction fun hn => h ⟨fun e => hn e.symm,trivial⟩)
     ·exact .inl (Classical.byContradiction fun hn => h ⟨fun e => hn e.symm,trivial⟩)
  ·repeat' first | (apply Wl.lit;exact rfl;exact ki;exact rfl;exact rfl;exact kj;intro c hc ho) | apply Wl.nil
   refine Mt.backE (fun _ _ => trivial) ?_
   refine Mt.e1 5 ?_
   repeat' first | (apply Wl.loadH;exact rfl;exact rfl;exact ke;exact rfl) | apply Wl.nil
   refine Mt.backE (fun _ _ => trivial) ?_
   refine Mt.e1 10 ?_
   apply Wl.appendT (base := base) (n := ll.length) (m := 1) (sz := 2) (e := 111) (xs := (ll.map lineC).flatten)
   ·exact rfl
   ·exact rfl
   ·exact rfl
   ·assumption
   ·exact rfl
   ·exact hr
   ·exact fun k hk => ⟨fun e => (hlo k hk).1 e.symm,trivial⟩
   ·exact rfl
   ·exact rfl
   ·decide
   ·unfold maxLen;omega
   ·omega
   ·omega
   intro v' w5 ho5 u5 _ hoff5
   have hov := ho5.one
   have s5 := u5.size
   apply Wl.nil
   refine Mt.backE (fun _ _ => trivial) ?_
   refine Mt.pn 18 ?_
   refine Mt.pf 19 ?_
   refine Mt.e1 20 ?_
   apply Wl.store
   ·exact rfl
   ·exact rfl
   ·first | exact hov | exact rfl
   ·exact ke
   ·exact kx
   apply Wl.nil
   refine Mt.backE (fun _ _ => trivial) ?_
   refine Mt.pn 21 ?_
   refine Mt.pz 22 ?_
   refine Mt.e1 23 ?_
   apply Wl.store
   ·exact rfl
   ·exact rfl
   ·first | exact hov | exact rfl
   ·exact ke
   ·exact kx
   apply Wl.nil
   refine Mt.backE (fun _ _ => trivial) ?_
   refine Mt.toGt kg ?_
   repeat' first | refine Wl.assign rfl rfl ?_ | apply Wl.nil | apply St.seq | apply St.region | apply St.ret | apply Gt.next | apply Gt.inNormal | (apply Gt.out1;exact rfl;exact rfl;intro w' hp)
   have b5 := u5.heap b fun h => by rcases h with h | h;exact (hlo _ h).2 rfl;exact h ⟨hne,trivial⟩
   refine ⟨v',rfl,⟨⟨cap,J,by rw [← hs1];exact hp.own.at (.head _),hp.upd.heap b5 fun y => y ⟨hne,trivial⟩⟩,?_,r1,r2⟩,?_,fun k hk => (hoff5 k hk).2⟩
   ·have h := ownsRow_upd ho5 hp.upd fun k hk y => y (hoff5 k hk).1
    rw [List.length_append,List.map_append,List.flatten_append]
    exact h
   ·exact u5.comp hp.upd fun k hk hs => by
     rcases hs with (h | h) | h
     ·exact .inr (.inl h)
     ·exact .inl (Classical.byContradiction fun hn => h ⟨fun e => hn e.symm,trivial⟩)
     ·exact .inl (Classical.byContradiction fun hn => h ⟨fun e => hn e.symm,trivial⟩)
end
structure Pays where
 dg : Nat → List UInt8
 sz : Nat → Int
 bi : Nat → Int
 ca : Nat → Int
 gn : Nat → Nat
 g : Nat → Nat → Int × Int × Int
 m : Nat → Nat
 en : Nat → Nat → Int × Int × Int
structure PaysOk (n : Nat) (E : Pays) : Prop where
 dg : ∀ i,i < n → (E.dg i).length = 32
 ca : ∀ i,i < n → 0 ≤ E.ca i ∧ E.ca i < 256
 gn : ∀ i,i < n → E.gn i ≤ 4
 g : ∀ i k,i < n → k < E.gn i → (0 ≤ (E.g i k).1 ∧ (E.g i k).1 < 4294967296) ∧ (0 ≤ (E.g i k).2.1 ∧ (E.g i k).2.1 < 4294967296) ∧ (0 ≤ (E.g i k).2.2 ∧ (E.g i k).2.2 < 8)
 m : ∀ i,i < n → E.m i ≤ 16
structure EnvS (w : World) (base n : Nat) (pv ev : Value) (E : Pays) : Prop where
 pay : ∃ pb po pc,pv = .slice (some ⟨pb,po,none⟩) n pc ∧ pb < base ∧ ∀ i,i < n → ∃ gb go gc,gb < base ∧ (∀ q v,(byteCells (E.dg i) ++ [.int .u32 (E.sz i),.int .u32 (E.bi i),.slice (some ⟨gb,go,none⟩) (E.gn i) gc,.int .i64 (E.ca i)])[q]? = some v → w.cell? ⟨pb,po + i * 36 + q,none⟩ = some v) ∧
  ∀ k,k < E.gn i → w.cell? ⟨gb,go + k * 3,none⟩ = some (.int .u32 (E.g i k).1) ∧ w.cell? ⟨gb,go + k * 3 + 1,none⟩ = some (.int .u32 (E.g i k).2.1) ∧ w.cell? ⟨gb,go + k * 3 + 2,none⟩ = some (.int .i64 (E.g i k).2.2)
 ent : ∃ eb eo ec,ev = .slice (some ⟨eb,eo,none⟩) n ec ∧ eb < base ∧ ∀ i,i < n → ∃ xb xo xc,w.cell? ⟨eb,eo + i,none⟩ = some (.slice (some ⟨xb,xo,none⟩) (E.m i) xc) ∧ xb < base ∧ EntX w (some ⟨xb,xo,none⟩) (E.m i) (E.en i)
 tab : tabOk w
 pos : 0 < base
 ok : PaysOk n E
theorem EnvS.upd {w w' : World} {base n : Nat} {pv ev : Value} {E : Pays} (k : EnvS w base n pv ev E) (u : Upd (fun b => base ≤ b) w w') : EnvS w' base n pv ev E where
 pay := by
  obtain ⟨pb,po,pc,e,h,hi⟩ := k.pay
  refine ⟨pb,po,pc,e,h,fun i hn => ?_⟩
  obtain ⟨gb,go,gc,h1,h2,h3⟩ := hi i hn
  exact ⟨gb,go,gc,h1,fun q v hq => u.cell (h2 q v hq) (Nat.not_le.2 h),fun k hk => ⟨u.cell (h3 k hk).1 (Nat.not_le.2 h1),u.cell (h3 k hk).2.1 (Nat.not_le.2 h1),u.cell (h3 k hk).2.2 (Nat.not_le.2 h1)⟩⟩
 ent := by
  obtain ⟨eb,eo,ec,e,h,hi⟩ := k.ent
  refine ⟨eb,eo,ec,e,h,fun i hn => ?_⟩
  obtain ⟨xb,xo,xc,h1,h2,h3⟩ := hi i hn
  refine ⟨xb,xo,xc,u.cell h1 (Nat.not_le.2 h),h2,fun j hj => ?_⟩
  obtain ⟨b,o,e',c1,c2,c3⟩ := h3 j hj
  cases e'
  exact ⟨xb,xo,rfl,u.cell c1 (Nat.not_le.2 h2),u.cell c2 (Nat.not_le.2 h2),u.cell c3 (Nat.not_le.2 h2)⟩
 tab := k.tab.upd u (Nat.not_le.2 k.pos)
 pos := k.pos
 ok := k.ok
theorem EnvS.hp {w w' : World} {base n : Nat} {pv ev : Value} {E : Pays} {H : List Blk} (k : EnvS w base n pv ev E) (hp : Hp w H w') (hH : ∀ x ∈ H,base ≤ x.b) : EnvS w' base n pv ev E :=
 k.upd (hp.upd.mono fun b _ hs => Nat.not_lt.1 fun hlt => hs (Off.of fun x hx e => by have := hH x hx;omega))
noncomputable def mayD (E : Pays) (who : Nat) (at_ n r : Int) : Bool := if n = 0 then true else if inM at_ n then chkG (E.m who) (E.en who) at_ n r else false
section
variable (base : Nat) (I : Mi) (M : Mv2) (E : Pays) (who : Nat) (w : World)
theorem dMay (at_ n r : Int) (hM : MonS w base I M) (hE : EnvS w base M.L.length M.pv M.ev E) (hw : who < M.L.length) (ha : 0 ≤ at_ ∧ at_ < 4294967296) (hn : 0 ≤ n ∧ n < 4294967296) :
  Calls Tryz.prog 123 #[.pointer (some ⟨I.d,0,none⟩),.int .i64 who,.int .u32 at_,.int .u32 n,.int .i64 r] w fun e w' => e = .returned (.bool (mayD E who at_ n r)) ∧ Hp w [] w' := by
 obtain ⟨eb,eo,ec,hev,_,hi⟩ := hE.ent
 obtain ⟨xb,xo,xc,h1,h2,h3⟩ := hi who hw
 have q1 : w.cell? ⟨I.d,1,none⟩ = some (.slice (some ⟨eb,eo,none⟩) M.L.length ec) := by rw [← hev];exact cell_of hM.dd rfl
 have q2 : w.cell? ⟨I.d,2,none⟩ = some (.pointer (some ⟨I.cM,0,none⟩)) := cell_of hM.dd rfl
 have q3 : w.cell? ⟨eb,eo + (who : Int).toNat,none⟩ = some (.slice (some ⟨xb,xo,none⟩) (E.m who) xc) := by rw [Int.toNat_natCast];exact h1
 have e3 : IntKind.i64.wrap n = n := by rw [IntKind.wrap_i64];omega
 have hm16 := hE.ok.m who hw
 refine enter (args := [_,_,_,_,_]) (Γ := [(0,_),(1,_),(2,_),(3,_),(4,_)]) Tryz.func123 Tryz.ntmps123 rfl odq (.cons rfl (.cons rfl (.cons rfl (.cons rfl (.cons rfl .nil))))) ?_
 by_cases h0 : n = 0
 ·have d0 : decide (n = 0) = true := decide_eq_true h0
  repeat' first | refine Wl.move rfl rfl ?_ | refine Wl.assign rfl rfl ?_ | (apply Wl.off;exact rfl;exact rfl;exact rfl;exact kq) | refine Wl.offU rfl rfl rfl ?_ | (apply Wl.pickT;exact rfl;exact rfl;exact ka;exact rfl) | (apply Wl.eqlIs;exact rfl;exact rfl;exact rfl;exact kv) | apply Wl.nil | apply St.seq | apply St.region | apply St.ret | apply Gt.next | (apply Gt.out1;exact rfl;exact rfl;intro w' hp)
  exact ⟨by unfold mayD;rw [if_pos h0],hp⟩
 ·have d0 : decide (n = 0) = false := decide_eq_false h0
  by_cases hi : inM at_ n
  ·have d1 : decide (2147483648 ≤ at_ ∧ at_ + n ≤ 2147483648 + 65536) = true := decide_eq_true hi
   repeat' first | (apply Wl.loadO;exact rfl;exact rfl;exact zw;exact kh) | refine Wl.move rfl rfl ?_ | refine Wl.assign rfl rfl ?_ | (apply Wl.on;exact rfl;exact rfl;exact ka) | refine Wl.nilCheck rfl rfl ?_ | refine Wl.fieldAddrZ rfl rfl ?_ | refine Wl.eql rfl rfl rfl ?_ | apply Wl.nil | apply St.seq | apply St.region | apply Gt.next
   apply Wl.callQ
   exact rfl
   (focus repeat constructor)
   ·intro wq hq
    exact hq.q (has_any I.cM at_ n wq ha hn)
   repeat' first | (apply Wl.loadO;exact rfl;exact rfl;exact zw;exact kh) | refine Wl.move rfl rfl ?_ | (apply Wl.on;exact rfl;exact rfl;exact ka) | refine Wl.nilCheck rfl rfl ?_ | refine Wl.fieldAddrZ rfl rfl ?_ | (refine Wl.convI64 rfl rfl ?_ ?_;constructor <;> omega) | (refine Wl.indexAddr1 rfl rfl rfl ?_ ?_;constructor <;> omega)
   apply Wl.callQ
   exact rfl
   (focus repeat constructor)
   ·intro wq hq
    exact hq.q (checkX (E.m who) xc (E.en who) (some ⟨xb,xo,none⟩) at_ n r wq hm16 (EntX.upd h3 hq.upd fun k _ y => y trivial) (hE.tab.upd hq.upd fun y => y trivial))
   repeat' first | refine Wl.assign rfl rfl ?_ | (apply Wl.on;exact rfl;exact rfl;exact ka) | (apply Wl.pickT;exact rfl;exact rfl;exact ka;exact rfl) | (apply Wl.pickF;exact rfl;exact rfl;exact ka;exact rfl) | apply Wl.nil | apply St.ret | apply Gt.next | (apply Gt.out1;exact rfl;exact rfl;intro w' hp)
   exact ⟨by unfold mayD;rw [if_neg h0,if_pos hi],hp⟩
  ·have d1 : decide (2147483648 ≤ at_ ∧ at_ + n ≤ 2147483648 + 65536) = false := decide_eq_false hi
   repeat' first | (apply Wl.loadO;exact rfl;exact rfl;exact zw;exact kh) | refine Wl.move rfl rfl ?_ | refine Wl.assign rfl rfl ?_ | (apply Wl.on;exact rfl;exact rfl;exact ka) | refine Wl.nilCheck rfl rfl ?_ | refine Wl.fieldAddrZ rfl rfl ?_ | refine Wl.eql rfl rfl rfl ?_ | apply Wl.nil | apply St.seq | apply St.region | apply Gt.next
   apply Wl.callQ
   exact rfl
   (focus repeat constructor)
   ·intro wq hq
    exact hq.q (has_any I.cM at_ n wq ha hn)
   repeat' first | refine Wl.move rfl rfl ?_ | refine Wl.assign rfl rfl ?_ | (apply Wl.on;exact rfl;exact rfl;exact ka) | (apply Wl.off;exact rfl;exact rfl;exact rfl;exact kq) | (apply Wl.pickF;exact rfl;exact rfl;exact ka;exact rfl) | apply Wl.nil | apply St.ret | apply Gt.next | (apply Gt.out1;exact rfl;exact rfl;intro w' hp)
   exact ⟨by unfold mayD;rw [if_neg h0,if_neg hi],hp⟩
theorem cMinus (n : Int) (hn : -10 ≤ n ∧ n ≤ 0) :
  Calls Tryz.prog 118 #[.int .i64 n] w fun e w' => e = .returned (.int .u32 (IntKind.u32.wrap n)) ∧ Hp w [] w' := by
 have e1 : IntKind.i32.wrap n = n := by simp [IntKind.wrap,IntKind.bits,IntKind.signed];omega
 refine enter (args := [_]) (Γ := [(0,_)]) Tryz.func118 Tryz.ntmps118 rfl odq (.cons rfl .nil) ?_
 repeat' first | refine Wl.move rfl rfl ?_ | refine Wl.assign rfl rfl ?_ | refine Wl.convI rfl rfl ?_ | apply Wl.nil | apply St.seq | apply St.region | apply St.ret | apply Gt.next | (apply Gt.out1;exact rfl;exact rfl;intro w' hp)
 exact ⟨by rw [e1],hp⟩
end
section
variable {w w' : World} {base : Nat} {I : Mi} {M : Mv2}
theorem MonS.put {f' : Nat → Int} (k : MonS w base I M) (hm : memH w' I.cM f') (u : Upd (fun b => b = I.cM) w w') : MonS w' base I {M with f := f'} := by
 obtain ⟨n1,n2,n3,n4,n5,n6,n7,n8,n9,n10,n11,n12,n13⟩ := k.off k.mem
 exact {
  mm := u.heap k.mm (n1 ze)
  dd := u.heap k.dd (n3 ze)
  ward := k.ward.upd u (n4 ze) (n5 ze)
  post := k.post.upd u (n6 ze) (n7 ze) n11
  board := k.board.upd u (n8 ze) (n9 ze) (n12 ze)
  mem := hm
  hart := k.hart.upd u (n2 ze)
  seen := ownsRow_upd k.seen u (n13 ze)
  rg := k.rg
  len := k.len
  ge := k.ge }
theorem MonS.snd {bx' : Nat → List Value} {ch : Nat} (k : MonS w base I M) (hc : ch ∈ I.cs) (hP : PostS w' I.pp I.pa I.cs bx') (u : Upd (fun b => b = ch) w w') : MonS w' base I {M with bx := bx'} := by
 obtain ⟨⟨wc,J1,wa,wb⟩,_⟩ := k.ward
 obtain ⟨⟨bc,J3,ba,bb⟩,hlv,_⟩ := k.board
 obtain ⟨i,hi⟩ := List.mem_iff_getElem?.1 hc
 have hch := k.post.2.1 i ch hi
 exact {
  mm := u.heap k.mm fun e => chan_ne hch k.mm e.symm
  dd := u.heap k.dd fun e => chan_ne hch k.dd e.symm
  ward := k.ward.upd u (fun e => chan_ne hch wa e.symm) (fun e => chan_ne hch wb e.symm)
  post := hP
  board := k.board.upd u (fun e => chan_ne hch ba e.symm) (fun e => chan_ne hch bb e.symm) fun b hb e => (hlv.heap hb).elim fun _ hg => chan_ne hch hg e.symm
  mem := u.heap k.mem fun e => chan_ne hch k.mem e.symm
  hart := k.hart.upd u fun e => chan_ne hch k.hart.2 e.symm
  seen := ownsRow_upd k.seen u fun b hb e => (k.seen.heap hb).elim fun _ hg => chan_ne hch hg e.symm
  rg := k.rg
  len := k.len
  ge := k.ge }
theorem MonS.brd {lv' : Value} {ll' : List (Int × List UInt8)} {used' : Int} (k : MonS w base I M) (hB : BoardS w' base I.bd I.ia lv' ll' used' M.ins) (u : Upd (fun b => b = I.bd ∨ M.lv.ownBlock = some b ∨ w.heap.size ≤ b) w w') : MonS w' base I {M with lv := lv',ll := ll',used := used'} := by
 obtain ⟨⟨wc,J1,wa,wb⟩,_⟩ := k.ward
 obtain ⟨⟨pc,J2,pa,pb⟩,hcs,_⟩ := k.post
 obtain ⟨⟨bc,J3,ba,bb⟩,hlv,_⟩ := k.board
 obtain ⟨n1,n2,n3,n4,n5,n6,n7,n8,n9,n10,n11,n12,n13⟩ := k.off ba
 have key : ∀ {b t : Nat} {cs : Array Value},w.heap[b]? = some (.cells cs t (0,0)) → t ≠ 111 → b ≠ I.bd → ¬ (b = I.bd ∨ M.lv.ownBlock = some b ∨ w.heap.size ≤ b) := fun hb ht hne h => by
  rcases h with h | h | h
  ·exact hne h
  ·exact row_neT hlv hb ht _ h rfl
  ·exact absurd (lt_of_block hb) (Nat.not_lt.2 h)
 exact {
  mm := u.heap k.mm (key k.mm ze (n1 ze))
  dd := u.heap k.dd (key k.dd ze (n3 ze))
  ward := k.ward.upd u (key wa ze (n4 ze)) (key wb ze (n5 ze))
  post := k.post.upd u (key pa ze (n6 ze)) (key pb ze (n7 ze)) fun c hc h => by
   obtain ⟨i,hi⟩ := List.mem_iff_getElem?.1 hc
   rcases h with h | h | h
   ·exact n11 c hc h
   ·exact (hlv.heap h).elim fun _ hg => chan_ne (hcs i c hi) hg rfl
   ·exact absurd (hcs i c hi).lt (Nat.not_lt.2 h)
  board := hB
  mem := u.heap k.mem (key k.mem ze (n10 ze))
  hart := k.hart.upd u (key k.hart.2 ze (n2 ze))
  seen := ownsRow_upd k.seen u fun b hb => (k.seen.heap hb).elim fun _ hg => key hg ze (n13 ze b hb)
  rg := k.rg
  len := k.len
  ge := k.ge }
end
structure DS where
 f : Nat → Int
 bx : Nat → List (Int × List UInt8)
 ll : List (Int × List UInt8)
 used : Int
 ins : List (List UInt8)
def DS.on (D : DS) (M : Mv2) (lv : Value) : Mv2 := {M with f := D.f,bx := fun i => (D.bx i).map letV,ll := D.ll,used := D.used,ins := D.ins,lv := lv}
structure DOk (D : DS) (n : Nat) : Prop where
 f : FB D.f
 bx : ∀ i,(D.bx i).length ≤ 4 ∧ ∀ x ∈ D.bx i,(1 ≤ x.2.length ∧ x.2.length ≤ 16) ∧ 0 ≤ x.1 ∧ x.1 < n
 used : 0 ≤ D.used ∧ D.used ≤ 256
 ll : (D.ll.length : Int) ≤ D.used
 ins : D.ins.length = n ∧ ∀ s ∈ D.ins,s.length ≤ 64
def mW (n : Int) : Int := IntKind.u32.wrap n
def hearD (D : DS) (who : Nat) : Int × DS := match D.ins[who]? with
 | some (z :: s) => ((z.toNat : Int),{D with ins := D.ins.set who s})
 | _ => (mW (-4),D)
noncomputable def saidD (D : DS) (who : Nat) (at_ n : Int) : Int × DS :=
 if 256 < D.used + n then (mW (-3),D) else if n = 0 then (n,D) else (n,{D with ll := D.ll ++ [((who : Int),memL D.f (at_ - 2147483648).toNat n.toNat)],used := D.used + n})
noncomputable def sayD (E : Pays) (D : DS) (who : Nat) (at_ n : Int) : Int × DS :=
 if 64 < n then (mW (-5),D) else if mayD E who at_ n 1 = true then saidD D who at_ n else (mW (-2),D)
abbrev KF (w : World) (I : Mi) (M : Mv2) : Nat → Prop := fun k => MonF I M k ∨ w.heap.size ≤ k
theorem Hp.quiet {w w' : World} {S : Nat → Prop} (h : Hp w [] w') : Upd S w w' := h.upd.mono fun _ _ y => (y trivial).elim
section
variable (base : Nat) (I : Mi) (M : Mv2) (lv : Value) (E : Pays) (D : DS) (who : Nat) (w : World)
theorem dHear (hM : MonS w base I (D.on M lv)) (hD : DOk D M.L.length) (hw : who < M.L.length) :
  Calls Tryz.prog 120 #[.pointer (some ⟨I.d,0,none⟩),.int .i64 who] w fun e w' => e = .returned (.int .u32 (hearD D who).1) ∧ MonS w' base I ((hearD D who).2.on M lv) ∧ Upd (KF w I (D.on M lv)) w w' := by
 have q1 : w.cell? ⟨I.d,4,none⟩ = some (.pointer (some ⟨I.bd,0,none⟩)) := cell_of hM.dd rfl
 obtain ⟨s0,hs0⟩ : ∃ s,D.ins[who]? = some s := ⟨_,List.getElem?_eq_getElem (by rw [hD.ins.1];exact hw)⟩
 refine enter (args := [_,_]) (Γ := [(0,_),(1,_)]) Tryz.func120 Tryz.ntmps120 rfl odq (.cons rfl (.cons rfl .nil)) ?_
 have hbb : ∀ wq,Hp w [] wq → BoardS wq base I.bd I.ia lv D.ll D.used D.ins := fun wq hq => hM.board.upd hq.upd nt0 nt0 fun _ _ y => y trivial
 cases s0 with
 | nil =>
  have hh : hearD D who = (mW (-4),D) := by unfold hearD;rw [hs0]
  rw [hh]
  repeat' first | (apply Wl.loadO;exact rfl;exact rfl;exact zw;exact kh) | refine Wl.move rfl rfl ?_ | refine Wl.assign rfl rfl ?_ | refine Wl.nilCheck rfl rfl ?_ | refine Wl.fieldAddrZ rfl rfl ?_ | apply Wl.nil | apply St.seq | apply St.region | apply Gt.next
  apply Wl.callQ
  exact rfl
  (focus repeat constructor)
  ·intro wq hq
   exact hq.q (bHearNo base I.bd I.ia lv D.ll D.used D.ins who wq (hbb wq hq) hs0)
  repeat' first | refine Wl.move rfl rfl ?_ | refine Wl.assign rfl rfl ?_ | refine Wl.extract rfl rfl rfl ?_ | refine Wl.neq rfl rfl rfl ?_ | apply Wl.nil | apply St.seq | apply St.region | (apply St.condT;exact rfl;exact ka) | apply Gt.next
  apply Wl.callQ
  exact rfl
  (focus repeat constructor)
  ·intro wq hq
   exact hq.q (cMinus wq (-4) ze)
  repeat' first | refine Wl.assign rfl rfl ?_ | apply Wl.nil | apply St.ret | apply Gt.next | apply Gt.thenRet | (apply Gt.out1;exact rfl;exact rfl;intro w' hp)
  exact ⟨rfl,hM.upd hp.upd fun b hb y => y trivial,Hp.quiet hp⟩
 | cons z s =>
  have hh : hearD D who = ((z.toNat : Int),{D with ins := D.ins.set who s}) := by unfold hearD;rw [hs0]
  rw [hh]
  repeat' first | (apply Wl.loadO;exact rfl;exact rfl;exact zw;exact kh) | refine Wl.move rfl rfl ?_ | refine Wl.assign rfl rfl ?_ | refine Wl.nilCheck rfl rfl ?_ | refine Wl.fieldAddrZ rfl rfl ?_ | apply Wl.nil | apply St.seq | apply St.region | apply Gt.next
  apply Wl.callC
  ·exact rfl
  ·exact ke
  intro wq hq
  refine (bHear base I.bd I.ia lv D.ll D.used D.ins who z s wq (hbb wq hq) hs0).mono ?_
  rintro e w1 ⟨rfl,hB1,u1⟩
  have hMq := hM.upd hq.upd fun b hb y => y trivial
  have hM1 := hMq.feed hB1 (List.length_set ..) u1
  have v1 : Upd (KF w I (D.on M lv)) w w1 := (Hp.quiet (S := KF w I (D.on M lv)) hq).comp u1 fun k hk hs => hs.elim id fun e => .inl (.inr (.inr (.inr (.inr (.inr (.inr (.inr (.inr (.inl e)))))))))
  refine ⟨_,_,rfl,Hp.start w1,?_⟩
  repeat' first | refine Wl.move rfl rfl ?_ | refine Wl.assign rfl rfl ?_ | refine Wl.extract rfl rfl rfl ?_ | (apply Wl.neqIs;exact rfl;exact rfl;exact rfl;exact kv) | refine Wl.convI rfl rfl ?_ | apply Wl.nil | apply St.seq | apply St.region | (apply St.condF;exact rfl;exact ka) | apply St.ret | apply St.skip | apply Gt.next | (apply Gt.out1;exact rfl;exact rfl;intro w' hp)
  refine ⟨?_,hM1.upd hp.upd fun b hb y => y trivial,v1.comp (Hp.quiet (S := KF w I (D.on M lv)) hp) fun k _ hs => hs.elim id id⟩
  show Ending.returned (.int .u32 (IntKind.u32.wrap (z.toNat : Int))) = Ending.returned (.int .u32 (z.toNat : Int))
  rw [show IntKind.u32.wrap (z.toNat : Int) = z.toNat by rw [IntKind.wrap_u32];have := z.toNat_lt;omega]
theorem mayD_inM {E : Pays} {who : Nat} {at_ n r : Int} (h : mayD E who at_ n r = true) (hn : n ≠ 0) : inM at_ n := by
 unfold mayD at h
 rw [if_neg hn] at h
 by_cases hi : inM at_ n
 ·exact hi
 ·rw [if_neg hi] at h;cases h
theorem dSay (at_ n : Int) (hM : MonS w base I (D.on M lv)) (hb : base ≤ w.heap.size) (hE : EnvS w base M.L.length M.pv M.ev E) (hD : DOk D M.L.length) (hw : who < M.L.length) (ha : 0 ≤ at_ ∧ at_ < 4294967296) (hn : 0 ≤ n ∧ n < 4294967296) :
  Calls Tryz.prog 119 #[.pointer (some ⟨I.d,0,none⟩),.int .i64 who,.int .u32 at_,.int .u32 n] w fun e w' => ∃ lv',e = .returned (.int .u32 (sayD E D who at_ n).1) ∧ MonS w' base I ((sayD E D who at_ n).2.on M lv') ∧ Upd (KF w I (D.on M lv)) w w' ∧ (∀ k,lv'.ownBlock = some k → lv.ownBlock = some k ∨ w.heap.size ≤ k) := by
 have q2 : w.cell? ⟨I.d,2,none⟩ = some (.pointer (some ⟨I.cM,0,none⟩)) := cell_of hM.dd rfl
 have hu := hD.used
 have hll := hD.ll
 have hwi : who < D.ins.length := by rw [hD.ins.1];exact hw
 refine enter (args := [_,_,_,_]) (Γ := [(0,_),(1,_),(2,_),(3,_)]) Tryz.func119 Tryz.ntmps119 rfl odq (.cons rfl (.cons rfl (.cons rfl (.cons rfl .nil)))) ?_
 by_cases h64 : 64 < n
 ·have d1 : decide (n > 64) = true := decide_eq_true h64
  have hh : sayD E D who at_ n = (mW (-5),D) := by unfold sayD;rw [if_pos h64]
  rw [hh]
  repeat' first | refine Wl.move rfl rfl ?_ | refine Wl.assign rfl rfl ?_ | refine Wl.gtr rfl rfl rfl ?_ | apply Wl.nil | apply St.seq | apply St.block | apply St.region | (apply St.condT;exact rfl;exact ka) | apply Gt.next
  apply Wl.callQ
  exact rfl
  (focus repeat constructor)
  ·intro wq hq
   exact hq.q (cMinus wq (-5) ze)
  repeat' first | refine Wl.assign rfl rfl ?_ | apply Wl.nil | apply St.ret | apply Gt.next | apply Gt.thenRet | apply Gt.inRet | (apply Gt.out1;exact rfl;exact rfl;intro w' hp)
  exact ⟨lv,rfl,hM.upd hp.upd fun b hb y => y trivial,Hp.quiet hp,fun k hk => .inl hk⟩
 have d1 : decide (n > 64) = false := decide_eq_false h64
 repeat' first | refine Wl.move rfl rfl ?_ | refine Wl.assign rfl rfl ?_ | refine Wl.gtr rfl rfl rfl ?_ | apply Wl.nil | apply St.seq | apply St.block | apply St.region | (apply St.condF;exact rfl;exact ka) | apply Gt.next
 apply Wl.callQ
 exact rfl
 (focus repeat constructor)
 ·intro wq hq
  exact hq.q (dMay base I (D.on M lv) E who wq at_ n 1 (hM.upd hq.upd fun b hb y => y trivial) (hE.hp hq qs) hw ha hn)
 by_cases hmay : mayD E who at_ n 1 = true
 rotate_left
 ·have hh : sayD E D who at_ n = (mW (-2),D) := by unfold sayD;rw [if_neg h64,if_neg hmay]
  have hm2 : (!mayD E who at_ n 1) = true := by rw [Bool.eq_false_iff.2 hmay];rfl
  rw [hh]
  repeat' first | refine Wl.assign rfl rfl ?_ | refine Wl.not rfl rfl ?_ | apply Wl.nil | apply St.seq | apply St.region | (apply St.condT;exact rfl;exact ka) | apply Gt.next
  apply Wl.callQ
  exact rfl
  (focus repeat constructor)
  ·intro wq hq
   exact hq.q (cMinus wq (-2) ze)
  repeat' first | refine Wl.assign rfl rfl ?_ | apply Wl.nil | apply St.ret | apply Gt.next | apply Gt.thenRet | apply Gt.inRet | (apply Gt.out1;exact rfl;exact rfl;intro w' hp)
  exact ⟨lv,rfl,hM.upd hp.upd fun b hb y => y trivial,Hp.quiet hp,fun k hk => .inl hk⟩
 have hh : sayD E D who at_ n = saidD D who at_ n := by unfold sayD;rw [if_neg h64,if_pos hmay]
 have hm2 : (!mayD E who at_ n 1) = false := by rw [hmay];rfl
 rw [hh]
 have d3 : decide ((16 : Int) ≠ 0) = true := by decide
 have d4 : decide ((0 : Int) ≠ 0) = false := by decide
 have finF : ∀ {w2 w' : World},256 < D.used + n → MonS w2 base I (D.on M lv) → Upd (KF w I (D.on M lv)) w w2 → Hp w2 [] w' → ∃ lv',Ending.returned (.int .u32 (mW (-3))) = .returned (.int .u32 (saidD D who at_ n).1) ∧ MonS w' base I ((saidD D who at_ n).2.on M lv') ∧ Upd (KF w I (D.on M lv)) w w' ∧ (∀ k,lv'.ownBlock = some k → lv.ownBlock = some k ∨ w.heap.size ≤ k) := by
  intro w2 w' hf hM2 hu2 hp
  have e : saidD D who at_ n = (mW (-3),D) := by unfold saidD;rw [if_pos hf]
  rw [e]
  exact ⟨lv,rfl,hM2.upd hp.upd fun b hb y => y trivial,hu2.comp (Hp.quiet (S := KF w I (D.on M lv)) hp) (fun k _ hs => hs.elim id id),fun k hk => .inl hk⟩
 by_cases hn0 : n = 0
 ·have d2 : decide (n > 0) = false := decide_eq_false ky
  have e0 : saidD D who at_ n = (n,D) := by unfold saidD;rw [if_neg ky,if_pos hn0]
  repeat' first | refine Wl.move rfl rfl ?_ | refine Wl.assign rfl rfl ?_ | refine Wl.not rfl rfl ?_ | refine Wl.gtr rfl rfl rfl ?_ | apply Wl.nil | apply St.seq | apply St.region | (apply St.condF;exact rfl;exact ka) | apply St.skip | apply Gt.next | apply Gt.inNormal
  have hM2 := hM
  have hwx : Upd (KF w I (D.on M lv)) w w := Upd.refl _ _
  have hbs : Bs w (.slice none 0 0) [] := Bs.nil w
  have hvo : ∀ k,(Value.slice none 0 0).ownBlock = some k → base ≤ k ∧ w.heap.size ≤ k := fun k hk => by cases hk
  refine St.tree (fun w' => w'.heap[I.d]? = some (.cells #[M.pv,M.ev,.pointer (some ⟨I.cM,0,none⟩),.pointer (some ⟨I.pp,0,none⟩),.pointer (some ⟨I.bd,0,none⟩)] 139 (0,0)) ∧ Bs w' (.slice none 0 0) []) mixed (fun _ h' => ⟨Hp.drew h',(hM2.upd (Hp.drew h').upd fun b hb y => y trivial).dd,hbs.upd (Hp.drew h').upd fun k _ _ _ y => y trivial⟩) ?_
  refine Mt.pm 0 ?_
  refine Mt.pm 4 ?_
  refine Mt.pm 5 ?_
  refine Mt.pn 1 ?_
  refine Mt.pu 6 ?_
  apply Wl.convBS (l := []);exact rfl;exact rfl;(intro w' h';exact h'.2);apply Wl.nilB
  refine Mt.pz 2 ?_
  refine Mt.pu 3 ?_
  apply Wl.loadF;exact rfl;exact rfl;(intro w' h';exact cell_of h'.1 rfl);apply Wl.nilB
  refine Mt.e1 7 ?_
  apply Wl.callC
  ·exact rfl
  ·exact ke
  intro wq hq
  have hMq := hM2.upd hq.upd fun b hb y => y trivial
  have zq := hq.upd.size
  refine (bSay0 base I.bd I.ia lv D.ll D.used D.ins who [] wq hMq.board hwi rfl hu).mono ?_
  rintro e w3 ⟨rfl,hp3⟩
  have hM3 := hMq.upd hp3.upd fun b hb y => y trivial
  have hb3 : Bs w3 (.slice none 0 0) [] := Bs.nil w3
  have hu3 : Upd (KF w I (D.on M lv)) w w3 := (Hp.quiet (S := KF w I (D.on M lv)) hq).comp (Hp.quiet (S := KF w I (D.on M lv)) hp3) fun k _ hs => hs.elim id id
  refine ⟨_,_,rfl,Hp.start w3,?_⟩
  apply Wl.nil
  refine Mt.backE (fun _ h' => ⟨(hM3.upd h'.upd fun b hb y => y trivial).dd,hb3.upd h'.upd fun k _ _ _ y => y trivial⟩) ?_
  refine Mt.pu 8 ?_
  apply Wl.neqIs;exact rfl;exact rfl;exact rfl;exact kv;apply Wl.nilB
  refine Mt.toGt kg ?_
  repeat' first | refine Wl.move rfl rfl ?_ | refine Wl.assign rfl rfl ?_ | apply Wl.nil | apply St.seq | apply St.region | (apply St.condF;exact rfl;exact ka) | apply St.ret | apply St.skip | apply Gt.next | (apply Gt.out1;exact rfl;exact rfl;intro w' hp)
  rw [e0]
  exact ⟨lv,rfl,hM3.upd hp.upd fun b hb y => y trivial,hu3.comp (Hp.quiet (S := KF w I (D.on M lv)) hp) (fun k _ hs => hs.elim id id),fun k hk => .inl hk⟩
 have d2 : decide (n > 0) = true := decide_eq_true ky
 repeat' first | (apply Wl.loadO;exact rfl;exact rfl;exact zw;exact kh) | refine Wl.move rfl rfl ?_ | refine Wl.assign rfl rfl ?_ | refine Wl.nilCheck rfl rfl ?_ | refine Wl.not rfl rfl ?_ | refine Wl.fieldAddrZ rfl rfl ?_ | refine Wl.gtr rfl rfl rfl ?_ | apply Wl.nil | apply St.seq | apply St.region | (apply St.condT;exact rfl;exact ka) | (apply St.condF;exact rfl;exact ka) | apply St.skip | apply Gt.next | apply Gt.inNormal
 apply Wl.callC
 ·exact rfl
 ·exact ke
 intro wq hq
 have hMq := hM.upd hq.upd fun b hb y => y trivial
 refine (mgetX I.cM D.f at_ n wq hMq.mem hD.f ha ky (mayD_inM hmay hn0)).mono ?_
 rintro e w2 ⟨v,rfl,hbs,hvo0,u2⟩
 have zq := hq.upd.size
 have hM2 := hMq.new u2 (Nat.le_refl _)
 have hwx : Upd (KF w I (D.on M lv)) w w2 := (Hp.quiet (S := KF w I (D.on M lv)) hq).comp u2 fun k hk hs => hs.elim id fun h => .inr ky
 have hvo : ∀ k,v.ownBlock = some k → base ≤ k ∧ w.heap.size ≤ k := fun k hk => by have := hvo0 k hk;omega
 have hsl : (memL D.f (at_ - 2147483648).toNat n.toNat).length = n.toNat := memL_len _ _ _
 have hsl' : ((memL D.f (at_ - 2147483648).toNat n.toNat).length : Int) = n := by rw [hsl];omega
 refine ⟨_,_,rfl,Hp.start w2,?_⟩
 repeat' first | refine Wl.move rfl rfl ?_ | refine Wl.assign rfl rfl ?_ | refine Wl.extract rfl rfl rfl ?_ | apply Wl.nil | apply St.seq | apply Gt.next
 refine St.tree (fun w' => w'.heap[I.d]? = some (.cells #[M.pv,M.ev,.pointer (some ⟨I.cM,0,none⟩),.pointer (some ⟨I.pp,0,none⟩),.pointer (some ⟨I.bd,0,none⟩)] 139 (0,0)) ∧ Bs w' v (memL D.f (at_ - 2147483648).toNat n.toNat)) mixed (fun _ h' => ⟨Hp.drew h',(hM2.upd (Hp.drew h').upd fun b hb y => y trivial).dd,hbs.upd (Hp.drew h').upd fun k _ _ _ y => y trivial⟩) ?_
 by_cases hf : 256 < D.used + n
 ·skip
  refine Mt.pm 0 ?_
  refine Mt.pm 4 ?_
  refine Mt.pm 5 ?_
  refine Mt.pn 1 ?_
  refine Mt.pu 6 ?_
  apply Wl.convBS (l := (memL D.f (at_ - 2147483648).toNat n.toNat));exact rfl;exact rfl;(intro w' h';exact h'.2);apply Wl.nilB
  refine Mt.pz 2 ?_
  refine Mt.pu 3 ?_
  apply Wl.loadF;exact rfl;exact rfl;(intro w' h';exact cell_of h'.1 rfl);apply Wl.nilB
  refine Mt.e1 7 ?_
  apply Wl.callC
  ·exact rfl
  ·exact ke
  intro wq hq
  have hMq := hM2.upd hq.upd fun b hb y => y trivial
  have zq := hq.upd.size
  refine (bSayFull base I.bd I.ia lv D.ll D.used D.ins who (memL D.f (at_ - 2147483648).toNat n.toNat) wq hMq.board hwi ky hu ky).mono ?_
  rintro e w3 ⟨rfl,hp3⟩
  have hM3 := hMq.upd hp3.upd fun b hb y => y trivial
  have hb3 : Bs w3 v (memL D.f (at_ - 2147483648).toNat n.toNat) := (hbs.upd hq.upd fun k _ _ _ y => y trivial).upd hp3.upd fun k _ _ _ y => y trivial
  have hu3 : Upd (KF w I (D.on M lv)) w w3 := (hwx.comp (Hp.quiet (S := KF w I (D.on M lv)) hq) (T := KF w I (D.on M lv)) fun k _ hs => hs.elim id id).comp (Hp.quiet (S := KF w I (D.on M lv)) hp3) fun k _ hs => hs.elim id id
  refine ⟨_,_,rfl,Hp.start w3,?_⟩
  apply Wl.nil
  refine Mt.backE (fun _ h' => ⟨(hM3.upd h'.upd fun b hb y => y trivial).dd,hb3.upd h'.upd fun k _ _ _ y => y trivial⟩) ?_
  refine Mt.pu 8 ?_
  refine Wl.neq rfl rfl rfl (Wl.nilB ?_)
  refine Mt.toGt kg ?_
  repeat' first | apply St.seq | apply St.region | (apply St.condT;exact rfl;exact ka) | apply Gt.next
  apply Wl.callQ
  exact rfl
  (focus repeat constructor)
  ·intro wq hq
   exact hq.q (cMinus wq (-3) ze)
  repeat' first | refine Wl.assign rfl rfl ?_ | apply Wl.nil | apply St.ret | apply Gt.next | apply Gt.thenRet | (apply Gt.out1;exact rfl;exact rfl;intro w' hp)
  exact finF hf hM3 hu3 hp
 have e1 : saidD D who at_ n = (n,{D with ll := D.ll ++ [((who : Int),(memL D.f (at_ - 2147483648).toNat n.toNat))],used := D.used + n}) := by unfold saidD;rw [if_neg hf,if_neg hn0]
 refine Mt.pm 0 ?_
 refine Mt.pm 4 ?_
 refine Mt.pm 5 ?_
 refine Mt.pn 1 ?_
 refine Mt.pu 6 ?_
 apply Wl.convBS (l := (memL D.f (at_ - 2147483648).toNat n.toNat));exact rfl;exact rfl;(intro w' h';exact h'.2);apply Wl.nilB
 refine Mt.pz 2 ?_
 refine Mt.pu 3 ?_
 apply Wl.loadF;exact rfl;exact rfl;(intro w' h';exact cell_of h'.1 rfl);apply Wl.nilB
 refine Mt.e1 7 ?_
 apply Wl.callC
 ·exact rfl
 ·exact ke
 intro wq hq
 have hMq := hM2.upd hq.upd fun b hb y => y trivial
 have zq := hq.upd.size
 have hvlt : ∀ k,v.ownBlock = some k → k < wq.heap.size → k ≠ I.bd ∧ lv.ownBlock ≠ some k := fun k hk hlt => ⟨fun e => by have := hvo k hk;have := (hM.lt I.bd (.inr (.inr (.inr (.inr (.inr (.inr (.inr (.inl rfl))))))))).2;omega,fun e => by have := hvo k hk;have := (hM.board.lt.2.2 k e).2;omega⟩
 refine (bSay base I.bd I.ia lv D.ll D.used D.ins who (memL D.f (at_ - 2147483648).toNat n.toNat) wq hMq.board hwi (fun e => by rw [e] at hsl;simp at hsl;omega) ky hu ky ky (by have := hwx.size;omega)).mono ?_
 rintro e w3 ⟨lv3,rfl,hB3,u3,n3⟩
 have hM3 := hMq.brd hB3 u3
 have hb3 : Bs w3 v (memL D.f (at_ - 2147483648).toNat n.toNat) := (hbs.upd hq.upd fun k _ _ _ y => y trivial).upd u3 fun k hk hlt _ hs => by
  rcases hs with h | h | h
  ·exact (hvlt k hk hlt).1 h
  ·exact (hvlt k hk hlt).2 h
  ·omega
 have hu3 : Upd (KF w I (D.on M lv)) w w3 := (hwx.comp (Hp.quiet (S := KF w I (D.on M lv)) hq) (T := KF w I (D.on M lv)) fun k _ hs => hs.elim id id).comp u3 fun k hk hs => by
  rcases hs with h | h | h | h
  ·exact h
  ·exact .inl (.inr (.inr (.inr (.inr (.inr (.inr (.inr (.inl h))))))))
  ·exact .inl (.inr (.inr (.inr (.inr (.inr (.inr (.inr (.inr (.inr (.inr (.inr (.inl h))))))))))))
  ·exact .inr (by have := hwx.size;omega)
 refine ⟨_,_,rfl,Hp.start w3,?_⟩
 apply Wl.nil
 refine Mt.backE (fun _ h' => ⟨(hM3.upd h'.upd fun b hb y => y trivial).dd,hb3.upd h'.upd fun k _ _ _ y => y trivial⟩) ?_
 refine Mt.pu 8 ?_
 apply Wl.neqIs;exact rfl;exact rfl;exact rfl;exact kv;apply Wl.nilB
 refine Mt.toGt kg ?_
 repeat' first | refine Wl.move rfl rfl ?_ | refine Wl.assign rfl rfl ?_ | apply Wl.nil | apply St.seq | apply St.region | (apply St.condF;exact rfl;exact ka) | apply St.ret | apply St.skip | apply Gt.next | (apply Gt.out1;exact rfl;exact rfl;intro w' hp)
 rw [e1]
 refine ⟨lv3,rfl,?_,hu3.comp (Hp.quiet (S := KF w I (D.on M lv)) hp) (fun k _ hs => hs.elim id id),fun k hk => (n3 k hk).imp id fun h => by have := hwx.size;omega⟩
 rw [hsl'] at hM3
 exact hM3.upd hp.upd fun b hb y => y trivial
end
end Go.Proofs.YtabbklpalbikdaaGreatDoor
end
section
namespace Go.Pt
open Go.RowKit
theorem fzF {β : Type} (w : World) (a : Addr) (n : Nat) (g : World → β) (hg : ∀ (w : World) (h : Array Obj),g { w with heap := h } = g w) : g (w.freeze a n) = g w := by
 unfold World.freeze
 split
 ·rfl
 ·exact hg _ _
theorem bytesWorld_upd (w : World) (e : TypeId) (s : ByteArray) : Upd (fun _ => False) w (Go.Lib.bytesWorld w e s) :=
 ⟨fzF _ _ _ (·.os) fun _ _ => rfl,fzF _ _ _ (·.tape) fun _ _ => rfl,fzF _ _ _ (·.output) fun _ _ => rfl,by rw [Go.Lib.bytesWorld_size];omega,fun k hk _ => Go.Lib.bytesWorld_at_old w e s k hk⟩
theorem Wl.convSB {P : Program} {N : Nat} {ops : Array Oper} {rest : List Oper} {Γ : Env} {Q : Exit → Act → World → Prop} {d e : Nat} {ty : TypeId} {pos : String} {af : Array Edge} {s t : TypeId} {x : Operand} {b : ByteArray} {w0 : World} {H : List Blk} [hs : TyD P s .string] [ht : TyD P t (.slice e)] [he : TyD P e (.int .u8)] (hd : Nat.blt d N = true)
  (hx : ev Γ x = some (.string b)) (hm : b.size ≤ 140737488355328)
  (h : ∀ v w1,Bs w1 v b.data.toList → Upd (fun k => ¬ Off H k) w0 w1 → (∀ k,v.ownBlock = some k → w0.heap.size ≤ k ∧ Off H k ∧ k < w1.heap.size) → Wl rest P .seq ops N ((d,v) :: Γ) (Hp w1 H) Q) :
  Wl (⟨some d,.convert s t x,ty,pos,af,none⟩ :: rest) P .seq ops N Γ (Hp w0 H) Q :=
 Wl.eff fun a w ha hw => by
  have u := bytesWorld_upd w e b
  have hown : Own (Go.Lib.bytesWorld w e b) H := hw.own.upd u fun y hy hk => hk
  have hlen : b.data.toList.length = b.size := Array.length_toList
  have hge := grownCap_ge w b.size 0 e
  have hcm : grownCap w b.size 0 e ≤ maxLen := grownCap_le_maxLen w b.size 0 e (by unfold maxLen;omega)
  have hbs : Bs (Go.Lib.bytesWorld w e b) (.slice (some ⟨w.heap.size,0,none⟩) b.size (grownCap w b.size 0 e)) b.data.toList := by
   refine ⟨by rw [byteCells_length,Nat.mul_one],some ⟨w.heap.size,0,none⟩,grownCap w b.size 0 e,by rw [hlen],by rw [hlen];exact hge,hcm,fun h => (by cases h),fun _ => ⟨w.heap.size,0,rfl,fun i hi => ?_⟩⟩
   rw [byteCells_length,hlen] at hi
   rw [Nat.zero_add,Go.Lib.bytesWorld_cell w e b i hi]
   simp [byteCells,List.getD,hlen,hi]
  refine ⟨_,_,.inl ?_,(h _ _ hbs ((hw.upd).trans (u.mono fun _ _ y => y.elim)) fun k hk => ?_).elim _ _ (ha.put hd _) ⟨Upd.refl _ _,hown,hw.apart⟩⟩
  ·simp only [execOp,ha.ev hx]
   simp [Go.Lib.run_convert_string_bytes (P := P) w s t e b hs.out ht.out he.out]
  ·have hk' : w.heap.size = k := Option.some.inj hk
   exact ⟨by have := hw.upd.size;omega,Off.of fun y hy e' => by have := hw.own.lt hy;omega,by rw [Go.Lib.bytesWorld_size];omega⟩
end Go.Pt
end
section
namespace Go.Proofs.YtabbklpalbikdaaGreatDoor
open Go.RowKit Go.Pt
noncomputable def sentD (D : DS) (who : Nat) (to at_ k : Int) : Int × DS :=
 if 4 ≤ (D.bx to.toNat).length then (mW (-3),D) else (0,{D with bx := fun j => if j = to.toNat then D.bx to.toNat ++ [((who : Int),memL D.f (at_ - 2147483648).toNat k.toNat)] else D.bx j})
noncomputable def sendD (E : Pays) (D : DS) (n who : Nat) (to at_ k : Int) : Int × DS :=
 if (n : Int) ≤ to ∨ k < 1 ∨ 16 < k then (mW (-5),D) else if mayD E who at_ k 1 = true then sentD D who to at_ k else (mW (-2),D)
theorem bx_map (D : DS) (i : Nat) (x : Int × List UInt8) : (fun j => if j = i then (fun i => (D.bx i).map letV) i ++ [letV x] else (fun i => (D.bx i).map letV) j) = fun j => ((fun j => if j = i then D.bx i ++ [x] else D.bx j) j).map letV := by
 funext j
 by_cases h : j = i
 ·simp [h]
 ·simp [h]
theorem bx_mapT (D : DS) (i : Nat) (r : List (Int × List UInt8)) : (fun j => if j = i then r.map letV else (fun i => (D.bx i).map letV) j) = fun j => ((fun j => if j = i then r else D.bx j) j).map letV := by
 funext j
 by_cases h : j = i
 ·simp [h]
 ·simp [h]
section
variable (base : Nat) (I : Mi) (M : Mv2) (lv : Value) (E : Pays) (D : DS) (who : Nat) (w : World)
theorem dSend (to at_ k : Int) (hM : MonS w base I (D.on M lv)) (hb : base ≤ w.heap.size) (hE : EnvS w base M.L.length M.pv M.ev E) (hD : DOk D M.L.length) (hw : who < M.L.length) (ht : 0 ≤ to ∧ to < 4294967296) (ha : 0 ≤ at_ ∧ at_ < 4294967296) (hn : 0 ≤ k ∧ k < 4294967296) :
  Calls Tryz.prog 121 #[.pointer (some ⟨I.d,0,none⟩),.int .i64 who,.int .u32 to,.int .u32 at_,.int .u32 k] w fun e w' => e = .returned (.int .u32 (sendD E D M.L.length who to at_ k).1) ∧ MonS w' base I ((sendD E D M.L.length who to at_ k).2.on M lv) ∧ Upd (KF w I (D.on M lv)) w w' := by
 obtain ⟨tn,rfl⟩ : ∃ tn : Nat,to = (tn : Int) := ⟨to.toNat,by omega⟩
 obtain ⟨pb,po,pc,hpv,_⟩ := hE.pay
 have q0 : w.cell? ⟨I.d,0,none⟩ = some (.slice (some ⟨pb,po,none⟩) M.L.length pc) := by rw [← hpv];exact cell_of hM.dd rfl
 have q2 : w.cell? ⟨I.d,2,none⟩ = some (.pointer (some ⟨I.cM,0,none⟩)) := cell_of hM.dd rfl
 have hn4 : 1 ≤ M.L.length ∧ M.L.length ≤ 4 := hM.ward.2.2
 refine enter (args := [_,_,_,_,_]) (Γ := [(0,_),(1,_),(2,_),(3,_),(4,_)]) Tryz.func121 Tryz.ntmps121 rfl odq (.cons rfl (.cons rfl (.cons rfl (.cons rfl (.cons rfl .nil))))) ?_
 have bad : ∀ {w' : World},(M.L.length : Int) ≤ tn ∨ k < 1 ∨ 16 < k → Hp w [] w' → Ending.returned (.int .u32 (mW (-5))) = .returned (.int .u32 (sendD E D M.L.length who (tn : Int) at_ k).1) ∧ MonS w' base I ((sendD E D M.L.length who (tn : Int) at_ k).2.on M lv) ∧ Upd (KF w I (D.on M lv)) w w' := by
  intro w' h hp
  have e : sendD E D M.L.length who (tn : Int) at_ k = (mW (-5),D) := by unfold sendD;rw [if_pos h]
  rw [e]
  exact ⟨rfl,hM.upd hp.upd fun b hb y => y trivial,Hp.quiet hp⟩
 have eL : IntKind.u32.wrap (M.L.length : Int) = (M.L.length : Int) := by rw [IntKind.wrap_u32];omega
 by_cases c1 : (M.L.length : Int) ≤ tn
 ·have d1 : decide ((tn : Int) ≥ (M.L.length : Int)) = true := decide_eq_true c1
  repeat' first | (apply Wl.loadO;exact rfl;exact rfl;exact zw;exact kh) | refine Wl.move rfl rfl ?_ | refine Wl.assign rfl rfl ?_ | (apply Wl.off;exact rfl;exact rfl;exact rfl;exact kq) | refine Wl.nilCheck rfl rfl ?_ | (apply Wl.pickT;exact rfl;exact rfl;exact ka;exact rfl) | refine Wl.fieldAddr0 rfl rfl ?_ | refine Wl.geq rfl rfl rfl ?_ | (refine Wl.convU32 rfl rfl ?_ ?_;constructor <;> omega) | refine Wl.len rfl rfl ?_ | apply Wl.nil | apply St.seq | apply St.block | apply St.region | (apply St.condT;exact rfl;exact ka) | apply Gt.next
  all_goals first | (exfalso;omega) | skip
  apply Wl.callQ
  exact rfl
  (focus repeat constructor)
  ·intro wq hq
   exact hq.q (cMinus wq (-5) ze)
  repeat' first | refine Wl.assign rfl rfl ?_ | apply Wl.nil | apply St.ret | apply Gt.next | apply Gt.thenRet | apply Gt.inRet | (apply Gt.out1;exact rfl;exact rfl;intro w' hp)
  exact bad (.inl c1) hp
 have d1 : decide ((tn : Int) ≥ (M.L.length : Int)) = false := decide_eq_false c1
 by_cases c2 : k < 1
 ·have d2 : decide (k < 1) = true := decide_eq_true c2
  repeat' first | (apply Wl.loadO;exact rfl;exact rfl;exact zw;exact kh) | refine Wl.move rfl rfl ?_ | refine Wl.assign rfl rfl ?_ | (apply Wl.on;exact rfl;exact rfl;exact ka) | (apply Wl.off;exact rfl;exact rfl;exact rfl;exact kq) | refine Wl.nilCheck rfl rfl ?_ | (apply Wl.pickT;exact rfl;exact rfl;exact ka;exact rfl) | (apply Wl.pickF;exact rfl;exact rfl;exact ka;exact rfl) | refine Wl.fieldAddr0 rfl rfl ?_ | refine Wl.lss rfl rfl rfl ?_ | refine Wl.geq rfl rfl rfl ?_ | (refine Wl.convU32 rfl rfl ?_ ?_;constructor <;> omega) | refine Wl.len rfl rfl ?_ | apply Wl.nil | apply St.seq | apply St.block | apply St.region | (apply St.condT;exact rfl;exact ka) | apply Gt.next
  all_goals first | (exfalso;omega) | skip
  apply Wl.callQ
  exact rfl
  (focus repeat constructor)
  ·intro wq hq
   exact hq.q (cMinus wq (-5) ze)
  repeat' first | refine Wl.assign rfl rfl ?_ | apply Wl.nil | apply St.ret | apply Gt.next | apply Gt.thenRet | apply Gt.inRet | (apply Gt.out1;exact rfl;exact rfl;intro w' hp)
  exact bad (.inr (.inl c2)) hp
 have d2 : decide (k < 1) = false := decide_eq_false c2
 by_cases c3 : 16 < k
 ·have d3 : decide (k > 16) = true := decide_eq_true c3
  repeat' first | (apply Wl.loadO;exact rfl;exact rfl;exact zw;exact kh) | refine Wl.move rfl rfl ?_ | refine Wl.assign rfl rfl ?_ | (apply Wl.on;exact rfl;exact rfl;exact ka) | refine Wl.nilCheck rfl rfl ?_ | (apply Wl.pickF;exact rfl;exact rfl;exact ka;exact rfl) | refine Wl.fieldAddr0 rfl rfl ?_ | refine Wl.lss rfl rfl rfl ?_ | refine Wl.gtr rfl rfl rfl ?_ | refine Wl.geq rfl rfl rfl ?_ | (refine Wl.convU32 rfl rfl ?_ ?_;constructor <;> omega) | refine Wl.len rfl rfl ?_ | apply Wl.nil | apply St.seq | apply St.block | apply St.region | (apply St.condT;exact rfl;exact ka) | apply Gt.next
  all_goals first | (exfalso;omega) | skip
  apply Wl.callQ
  exact rfl
  (focus repeat constructor)
  ·intro wq hq
   exact hq.q (cMinus wq (-5) ze)
  repeat' first | refine Wl.assign rfl rfl ?_ | apply Wl.nil | apply St.ret | apply Gt.next | apply Gt.thenRet | apply Gt.inRet | (apply Gt.out1;exact rfl;exact rfl;intro w' hp)
  exact bad (.inr (.inr c3)) hp
 have d3 : decide (k > 16) = false := decide_eq_false c3
 repeat' first | (apply Wl.loadO;exact rfl;exact rfl;exact zw;exact kh) | refine Wl.move rfl rfl ?_ | refine Wl.assign rfl rfl ?_ | (apply Wl.on;exact rfl;exact rfl;exact ka) | refine Wl.nilCheck rfl rfl ?_ | (apply Wl.pickF;exact rfl;exact rfl;exact ka;exact rfl) | refine Wl.fieldAddr0 rfl rfl ?_ | refine Wl.lss rfl rfl rfl ?_ | refine Wl.gtr rfl rfl rfl ?_ | refine Wl.geq rfl rfl rfl ?_ | (refine Wl.convU32 rfl rfl ?_ ?_;constructor <;> omega) | refine Wl.len rfl rfl ?_ | apply Wl.nil | apply St.seq | apply St.block | apply St.region | (apply St.condF;exact rfl;exact ka) | apply Gt.next
 all_goals first | (exfalso;omega) | skip
 apply Wl.callQ
 exact rfl
 (focus repeat constructor)
 ·intro wq hq
  exact hq.q (dMay base I (D.on M lv) E who wq at_ k 1 (hM.upd hq.upd fun b hb y => y trivial) (hE.hp hq qs) hw ha hn)
 have nb : ¬ ((M.L.length : Int) ≤ tn ∨ k < 1 ∨ 16 < k) := by omega
 by_cases hmay : mayD E who at_ k 1 = true
 rotate_left
 ·have hh : sendD E D M.L.length who (tn : Int) at_ k = (mW (-2),D) := by unfold sendD;rw [if_neg nb,if_neg hmay]
  have hm2 : (!mayD E who at_ k 1) = true := by rw [Bool.eq_false_iff.2 hmay];rfl
  rw [hh]
  repeat' first | refine Wl.assign rfl rfl ?_ | refine Wl.not rfl rfl ?_ | apply Wl.nil | apply St.seq | apply St.region | (apply St.condT;exact rfl;exact ka) | apply Gt.next
  apply Wl.callQ
  exact rfl
  (focus repeat constructor)
  ·intro wq hq
   exact hq.q (cMinus wq (-2) ze)
  repeat' first | refine Wl.assign rfl rfl ?_ | apply Wl.nil | apply St.ret | apply Gt.next | apply Gt.thenRet | apply Gt.inRet | (apply Gt.out1;exact rfl;exact rfl;intro w' hp)
  exact ⟨rfl,hM.upd hp.upd fun b hb y => y trivial,Hp.quiet hp⟩
 have hh : sendD E D M.L.length who (tn : Int) at_ k = sentD D who (tn : Int) at_ k := by unfold sendD;rw [if_neg nb,if_pos hmay]
 have hm2 : (!mayD E who at_ k 1) = false := by rw [hmay];rfl
 rw [hh]
 have d4 : decide ((16 : Int) ≠ 0) = true := by decide
 have d5 : decide ((0 : Int) ≠ 0) = false := by decide
 repeat' first | (apply Wl.loadO;exact rfl;exact rfl;exact zw;exact kh) | refine Wl.move rfl rfl ?_ | refine Wl.assign rfl rfl ?_ | refine Wl.nilCheck rfl rfl ?_ | refine Wl.not rfl rfl ?_ | refine Wl.fieldAddrZ rfl rfl ?_ | apply Wl.nil | apply St.seq | apply St.region | (apply St.condF;exact rfl;exact ka) | apply St.skip | apply Gt.next | apply Gt.inNormal
 apply Wl.callC
 ·exact rfl
 ·exact ke
 intro wq hq
 have hMq := hM.upd hq.upd fun b hb y => y trivial
 refine (mgetX I.cM D.f at_ k wq hMq.mem hD.f ha ky (mayD_inM hmay ky)).mono ?_
 rintro e w2 ⟨v,rfl,hbs,hvo0,u2⟩
 have zq := hq.upd.size
 have hM2 := hMq.new u2 (Nat.le_refl _)
 have hwx : Upd (KF w I (D.on M lv)) w w2 := (Hp.quiet (S := KF w I (D.on M lv)) hq).comp u2 fun k hk hs => hs.elim id fun h => .inr ky
 have hvo : ∀ k,v.ownBlock = some k → base ≤ k ∧ w.heap.size ≤ k := fun k hk => by have := hvo0 k hk;omega
 have hsl : (memL D.f (at_ - 2147483648).toNat k.toNat).length = k.toNat := memL_len _ _ _
 obtain ⟨ch,hch⟩ : ∃ c,I.cs[tn]? = some c := ⟨_,List.getElem?_eq_getElem (by have : I.cs.length = M.L.length := hM.len.1;omega)⟩
 have hlch := (hM.post.2.1 _ _ hch).lt
 refine ⟨_,_,rfl,Hp.start w2,?_⟩
 repeat' first | refine Wl.move rfl rfl ?_ | refine Wl.assign rfl rfl ?_ | refine Wl.extract rfl rfl rfl ?_ | apply Wl.nil | apply St.seq | apply Gt.next
 refine St.tree (fun w' => w'.heap[I.d]? = some (.cells #[M.pv,M.ev,.pointer (some ⟨I.cM,0,none⟩),.pointer (some ⟨I.pp,0,none⟩),.pointer (some ⟨I.bd,0,none⟩)] 139 (0,0)) ∧ Bs w' v (memL D.f (at_ - 2147483648).toNat k.toNat)) mixed (fun _ h' => ⟨Hp.drew h',(hM2.upd (Hp.drew h').upd fun b hb y => y trivial).dd,hbs.upd (Hp.drew h').upd fun k _ _ _ y => y trivial⟩) ?_
 refine Mt.pm 0 ?_
 refine Mt.pm 4 ?_
 refine Mt.pm 6 ?_
 refine Mt.pm 7 ?_
 refine Mt.pn 1 ?_
 refine Mt.pu 5 ?_
 refine Wl.convI64 rfl rfl ?_ ?_;constructor <;> omega;apply Wl.nilB
 refine Mt.pu 8 ?_
 apply Wl.convBS (l := (memL D.f (at_ - 2147483648).toNat k.toNat));exact rfl;exact rfl;(intro w' h';exact h'.2);apply Wl.nilB
 refine Mt.pz 2 ?_
 refine Mt.pu 9 ?_
 apply Wl.buildS;exact rfl;exact ki;exact kc;apply Wl.nilB
 refine Mt.pu 3 ?_
 apply Wl.loadF;exact rfl;exact rfl;(intro w' h';exact cell_of h'.1 rfl);apply Wl.nilB
 refine Mt.e1 10 ?_
 apply Wl.callC
 ·exact rfl
 ·exact ke
 intro wq hq
 have hMq := hM2.upd hq.upd fun b hb y => y trivial
 have zq := hq.upd.size
 refine (pSend I.pp I.pa I.cs (fun i => (D.bx i).map letV) tn ch ((who : Int),(memL D.f (at_ - 2147483648).toNat k.toNat)) wq hMq.post hch (by rw [hsl];omega)).mono ?_
 intro e w3 h3
 have h3 : ∃ r D3,e = .returned (.int .i64 r) ∧ MonS w3 base I (DS.on D3 M lv) ∧ Upd (fun k => k = ch) wq w3 ∧ ((r = 16 ∧ sentD D who (tn : Int) at_ k = (mW (-3),D3)) ∨ (r = 0 ∧ sentD D who (tn : Int) at_ k = (0,D3))) := by
  rcases h3 with ⟨hl,he,hP,u⟩ | ⟨hl,he,hp⟩
  ·rw [bx_map] at hP
   rw [List.length_map] at hl
   exact ⟨0,{D with bx := fun j => if j = tn then D.bx tn ++ [((who : Int),(memL D.f (at_ - 2147483648).toNat k.toNat))] else D.bx j},he,hMq.snd (List.mem_of_getElem? hch) hP u,u,.inr ⟨rfl,by unfold sentD;rw [Int.toNat_natCast,if_neg ky]⟩⟩
  ·rw [List.length_map] at hl
   exact ⟨16,D,he,hMq.upd hp.upd fun b hb y => y trivial,hp.upd.mono fun _ _ y => (y trivial).elim,.inl ⟨rfl,by unfold sentD;rw [Int.toNat_natCast,if_pos hl]⟩⟩
 obtain ⟨r,D3,rfl,hM3,u3,hr⟩ := h3
 have hb3 : Bs w3 v (memL D.f (at_ - 2147483648).toNat k.toNat) := (hbs.upd hq.upd fun k _ _ _ y => y trivial).upd u3 fun k hk _ _ e => by have := hvo k hk;omega
 have hu3 : Upd (KF w I (D.on M lv)) w w3 := (hwx.comp (Hp.quiet (S := KF w I (D.on M lv)) hq) (T := KF w I (D.on M lv)) fun k _ hs => hs.elim id id).comp u3 fun k hk hs => hs.elim id fun e => .inl (.inr (.inr (.inr (.inr (.inr (.inr (.inr (.inr (.inr (.inr (.inl (e ▸ List.mem_of_getElem? hch))))))))))))
 refine ⟨_,_,rfl,Hp.start w3,?_⟩
 apply Wl.nil
 refine Mt.backE (fun _ h' => ⟨(hM3.upd h'.upd fun b hb y => y trivial).dd,hb3.upd h'.upd fun k _ _ _ y => y trivial⟩) ?_
 refine Mt.pu 11 ?_
 refine Wl.neq rfl rfl rfl (Wl.nilB ?_)
 refine Mt.toGt kg ?_
 rcases hr with ⟨rfl,hr⟩ | ⟨rfl,hr⟩
 ·skip
  rw [hr]
  repeat' first | apply St.seq | apply St.region | (apply St.condT;exact rfl;exact ka) | apply Gt.next
  apply Wl.callQ
  exact rfl
  (focus repeat constructor)
  ·intro wq hq
   exact hq.q (cMinus wq (-3) ze)
  repeat' first | refine Wl.assign rfl rfl ?_ | apply Wl.nil | apply St.ret | apply Gt.next | apply Gt.thenRet | (apply Gt.out1;exact rfl;exact rfl;intro w' hp)
  exact ⟨rfl,hM3.upd hp.upd fun b hb y => y trivial,hu3.comp (Hp.quiet (S := KF w I (D.on M lv)) hp) fun k _ hs => hs.elim id id⟩
 ·skip
  rw [hr]
  repeat' first | refine Wl.assign rfl rfl ?_ | apply Wl.nil | apply St.seq | apply St.region | (apply St.condF;exact rfl;exact ka) | apply St.ret | apply St.skip | apply Gt.next | (apply Gt.out1;exact rfl;exact rfl;intro w' hp)
  exact ⟨rfl,hM3.upd hp.upd fun b hb y => y trivial,hu3.comp (Hp.quiet (S := KF w I (D.on M lv)) hp) fun k _ hs => hs.elim id id⟩
noncomputable def tookD (D : DS) (who : Nat) (at_ old : Int) : (Int × Int) × DS := match D.bx who with
 | [] => ((mW (-4),old),D)
 | x :: r => (((x.2.length : Int),x.1),{D with bx := fun j => if j = who then r else D.bx j,f := putF D.f (at_ - 2147483648).toNat x.2})
noncomputable def takeD (E : Pays) (D : DS) (who : Nat) (at_ old : Int) : (Int × Int) × DS :=
 if mayD E who at_ 16 2 = true then tookD D who at_ old else ((mW (-2),old),D)
theorem Hp.onB {w w1 w2 : World} {I : Mi} {M : Mv2} {H : List Blk} (h : Hp w1 H w2) (hu : Upd (KF w I M) w w1) (hH : ∀ x ∈ H,w.heap.size ≤ x.b) : Upd (KF w I M) w w2 :=
 hu.comp h.upd fun j _ hs => hs.elim id fun y => .inr (Classical.byContradiction fun hlt => y (Off.of fun x hx e => by have := hH x hx;omega))
theorem Hp.restD {S : Nat → Prop} {w0 w w' : World} {H : List Blk} (h : Hp w0 H w) (u : Upd S w w') (hs : ∀ x ∈ H,¬ S x.b) : Hp w' H w' := ⟨Upd.refl _ _,h.own.upd u hs,h.apart⟩
theorem dTake (at_ old : Int) (hM : MonS w base I (D.on M lv)) (hb : base ≤ w.heap.size) (hE : EnvS w base M.L.length M.pv M.ev E) (hD : DOk D M.L.length) (hw : who < M.L.length) (ha : 0 ≤ at_ ∧ at_ < 4294967296) (hold : 0 ≤ old ∧ old < 4294967296) :
  Calls Tryz.prog 122 #[.pointer (some ⟨I.d,0,none⟩),.int .i64 who,.int .u32 at_,.int .u32 old] w fun e w' => e = .returned (.tuple #[.int .u32 (takeD E D who at_ old).1.1,.int .u32 (takeD E D who at_ old).1.2]) ∧ MonS w' base I ((takeD E D who at_ old).2.on M lv) ∧ Upd (KF w I (D.on M lv)) w w' := by
 have q3 : w.cell? ⟨I.d,3,none⟩ = some (.pointer (some ⟨I.pp,0,none⟩)) := cell_of hM.dd rfl
 have hn4 : 1 ≤ M.L.length ∧ M.L.length ≤ 4 := hM.ward.2.2
 obtain ⟨ch,hch⟩ : ∃ c,I.cs[who]? = some c := ⟨_,List.getElem?_eq_getElem (by have : I.cs.length = M.L.length := hM.len.1;omega)⟩
 have hlch := (hM.post.2.1 _ _ hch).lt
 refine enter (args := [_,_,_,_]) (Γ := [(0,_),(1,_),(2,_),(3,_)]) Tryz.func122 Tryz.ntmps122 rfl odq (.cons rfl (.cons rfl (.cons rfl (.cons rfl .nil)))) ?_
 repeat' first | refine Wl.move rfl rfl ?_ | refine Wl.assign rfl rfl ?_ | apply Wl.nil | apply St.seq | apply St.region | apply Gt.next
 apply Wl.callQ
 exact rfl
 (focus repeat constructor)
 ·intro wq hq
  exact hq.q (dMay base I (D.on M lv) E who wq at_ 16 2 (hM.upd hq.upd fun b hb y => y trivial) (hE.hp hq qs) hw ha ze)
 by_cases hmay : mayD E who at_ 16 2 = true
 rotate_left
 ·have hh : takeD E D who at_ old = ((mW (-2),old),D) := by unfold takeD;rw [if_neg hmay]
  have hm2 : (!mayD E who at_ 16 2) = true := by rw [Bool.eq_false_iff.2 hmay];rfl
  rw [hh]
  repeat' first | refine Wl.not rfl rfl ?_ | apply Wl.nil | apply St.seq | apply St.region | (apply St.condT;exact rfl;exact ka) | apply Gt.next
  apply Wl.callQ
  exact rfl
  (focus repeat constructor)
  ·intro wq hq
   exact hq.q (cMinus wq (-2) ze)
  repeat' first | refine Wl.move rfl rfl ?_ | refine Wl.assign rfl rfl ?_ | apply Wl.nil | apply St.ret | apply Gt.next | apply Gt.thenRet | (apply Gt.out2;exact rfl;exact rfl;exact rfl;intro w' hp)
  exact ⟨rfl,hM.upd hp.upd fun b hb y => y trivial,Hp.quiet hp⟩
 have hh : takeD E D who at_ old = tookD D who at_ old := by unfold takeD;rw [if_pos hmay]
 have hm2 : (!mayD E who at_ 16 2) = false := by rw [hmay];rfl
 obtain ⟨i1,i2⟩ := mayD_inM hmay ze
 rw [hh]
 have d4 : decide ((17 : Int) ≠ 0) = true := by decide
 have d5 : decide ((0 : Int) ≠ 0) = false := by decide
 repeat' first | (apply Wl.loadO;exact rfl;exact rfl;exact zw;exact kh) | refine Wl.move rfl rfl ?_ | refine Wl.nilCheck rfl rfl ?_ | refine Wl.not rfl rfl ?_ | refine Wl.fieldAddrZ rfl rfl ?_ | apply Wl.nil | apply St.seq | apply St.region | (apply St.condF;exact rfl;exact ka) | apply St.skip | apply Gt.next
 apply Wl.callC
 ·exact rfl
 ·exact ke
 intro wq hq
 have hMq := hM.upd hq.upd fun b hb y => y trivial
 refine (pTake I.pp I.pa I.cs (fun i => (D.bx i).map letV) who ch wq hMq.post hch (fun v hv => by obtain ⟨x,_,rfl⟩ := List.mem_map.1 hv;exact ⟨x,rfl⟩)).mono ?_
 intro e w1 h1
 cases hbx : D.bx who with
 | nil =>
  have e0 : tookD D who at_ old = ((mW (-4),old),D) := by unfold tookD;rw [hbx]
  rw [e0]
  rcases h1 with ⟨x,r,h,_⟩ | ⟨_,rfl,hp1⟩
  ·rw [hbx] at h;cases h
  have hM1 := hMq.upd hp1.upd fun b hb y => y trivial
  have hu1 : Upd (KF w I (D.on M lv)) w w1 := (Hp.quiet (S := KF w I (D.on M lv)) hq).comp (Hp.quiet (S := KF w I (D.on M lv)) hp1) fun k _ hs => hs.elim id id
  have z1 := hu1.size
  refine ⟨_,_,rfl,Hp.start w1,?_⟩
  repeat' first | refine Wl.move rfl rfl ?_ | refine Wl.assign rfl rfl ?_ | refine Wl.extract rfl rfl rfl ?_ | refine Wl.neq rfl rfl rfl ?_ | (apply Wl.storeA;exact rfl;exact rfl;exact rfl;exact rfl;exact ke;exact kf) | (apply Wl.alloc;exact rfl;intro c hc ho) | apply Wl.nil | apply St.seq | apply St.region | (apply St.condT;exact rfl;exact ka) | apply Gt.next
  apply Wl.callQ
  exact rfl
  (focus repeat constructor)
  ·intro wq hq
   exact hq.q (cMinus wq (-4) ze)
  repeat' first | refine Wl.move rfl rfl ?_ | refine Wl.assign rfl rfl ?_ | apply Wl.nil | apply St.ret | apply Gt.next | apply Gt.thenRet | (apply Gt.out2;exact rfl;exact rfl;exact rfl;intro w' hp)
  exact ⟨rfl,hM1.upd hp.upd fun b hb y => y ⟨by have := (hM1.lt b hb).2;simp only;omega,trivial⟩,Hp.onB hp hu1 kb⟩
 | cons x r =>
  have e0 : tookD D who at_ old = (((x.2.length : Int),x.1),{D with bx := fun j => if j = who then r else D.bx j,f := putF D.f (at_ - 2147483648).toNat x.2}) := by unfold tookD;rw [hbx]
  rw [e0]
  obtain ⟨hb1,hb2⟩ := (hD.bx who).2 x (by rw [hbx];exact .head _)
  rcases h1 with ⟨x',r',h,he,hP,u1⟩ | ⟨h,_,_⟩
  rotate_left
  ·rw [hbx] at h;cases h
  rw [hbx,List.map_cons,List.cons.injEq] at h
  obtain ⟨hx,hr⟩ := h
  rw [← hx] at he
  rw [← hr,bx_mapT] at hP
  subst he
  have hM1 : MonS w1 base I (DS.on {D with bx := fun j => if j = who then r else D.bx j} M lv) := hMq.snd (List.mem_of_getElem? hch) hP u1
  have hu1 : Upd (KF w I (D.on M lv)) w w1 := (Hp.quiet (S := KF w I (D.on M lv)) hq).comp u1 fun k hk hs => hs.elim id fun e => .inl (.inr (.inr (.inr (.inr (.inr (.inr (.inr (.inr (.inr (.inr (.inl (e ▸ List.mem_of_getElem? hch))))))))))))
  have z1 := hu1.size
  have hs1 := strV_size x.2
  refine ⟨_,_,rfl,Hp.start w1,?_⟩
  repeat' first | refine Wl.move rfl rfl ?_ | refine Wl.assign rfl rfl ?_ | refine Wl.extract rfl rfl rfl ?_ | (apply Wl.neqIs;exact rfl;exact rfl;exact rfl;exact kv) | (apply Wl.storeA;exact rfl;exact rfl;exact rfl;exact rfl;exact ke;exact kf) | (apply Wl.alloc;exact rfl;intro c hc ho) | apply Wl.nil | apply St.seq | apply St.region | (apply St.condF;exact rfl;exact ka) | apply St.skip | apply Gt.next
  have hcc : w1.heap.size ≤ c := by assumption
  have hMlt := hM1.lt
  have hof : ∀ {cs : List Value} {t b : Nat},MonF I (DS.on {D with bx := fun j => if j = who then r else D.bx j} M lv) b → Off [⟨c,cs,t⟩] b := fun hb => ⟨by have := (hMlt _ hb).2;simp only;omega,trivial⟩
  refine St.tree (fun w' => w'.heap[I.d]? = some (.cells #[M.pv,M.ev,.pointer (some ⟨I.cM,0,none⟩),.pointer (some ⟨I.pp,0,none⟩),.pointer (some ⟨I.bd,0,none⟩)] 139 (0,0)) ∧ w'.heap[c]? = some (.cells ([.int .i64 x.1,strV x.2] : List Value).toArray 78 (0,0))) mixed (fun _ h' => ⟨Hp.drew h',(hM1.upd (Hp.drew h').upd fun b hb y => y (hof hb)).dd,(Hp.drew h').own.at (.head _)⟩) ?_
  refine Mt.pm 0 ?_
  refine Mt.pm 4 ?_
  refine Mt.pz 5 ?_
  refine Mt.pn 1 ?_
  refine Mt.pu 6 ?_
  apply Wl.loadF;exact rfl;exact rfl;(intro w' h';first | exact cell_of h'.1 rfl | exact cell_of h'.2 rfl);apply Wl.nilB
  refine Mt.pz 2 ?_
  refine Mt.pu 3 ?_
  apply Wl.loadF;exact rfl;exact rfl;(intro w' h';first | exact cell_of h'.1 rfl | exact cell_of h'.2 rfl);apply Wl.nilB
  refine Mt.e1 7 ?_
  apply Wl.convSB
  ·exact rfl
  ·exact rfl
  ·show (strOf x.2).size ≤ _;omega
  intro v w2 hbs2 u2 hvo2
  have hM2 := hM1.upd u2 fun b hb y => y (hof hb)
  have hbs2 : Bs w2 v x.2 := hbs2
  have hu2 : Upd (KF w I (D.on M lv)) w w2 := hu1.comp u2 fun k hk hs => hs.elim id fun y => .inr (Classical.byContradiction fun hlt => y ⟨by simp only;omega,trivial⟩)
  have z2 := u2.size
  have hvc : ∀ k,v.ownBlock = some k → k ≠ I.cM := fun k hk e => by have := (hvo2 k hk).1;have := (hMlt I.cM (.inr (.inr (.inr (.inr (.inr (.inr (.inr (.inr (.inr (.inl rfl))))))))))).2;omega
  apply Wl.nil
  refine Mt.backE (fun _ h' => ⟨(hM2.upd h'.upd fun b hb y => y (hof hb)).dd,h'.own.at (.head _)⟩) ?_
  refine Mt.e1 8 ?_
  apply Wl.callC
  ·exact rfl
  ·exact ke
  intro wq3 hq3
  have hMq3 := hM2.upd hq3.upd fun b hb y => y (hof hb)
  refine (mputX I.cM D.f at_ v x.2 wq3 hMq3.mem (hbs2.upd hq3.upd fun k hk _ _ y => y ⟨fun e => (hvo2 k hk).2.1.1 e,trivial⟩) hvc ha (by unfold inM;omega) ky).mono ?_
  rintro e w3 ⟨rfl,hm3,u3⟩
  have hM3 : MonS w3 base I (DS.on {D with bx := fun j => if j = who then r else D.bx j,f := putF D.f (at_ - 2147483648).toNat x.2} M lv) := hMq3.put hm3 u3
  have hu3 : Upd (KF w I (D.on M lv)) w w3 := (Hp.onB hq3 hu2 kb).comp u3 fun k hk hs => hs.elim id fun e => .inl (.inr (.inr (.inr (.inr (.inr (.inr (.inr (.inr (.inr (.inl e))))))))))
  have hq3' := Hp.restD hq3 u3 (by simp only [List.mem_cons,List.not_mem_nil,or_false,forall_eq];intro e;exact (hof (cs := []) (t := 0) (.inr (.inr (.inr (.inr (.inr (.inr (.inr (.inr (.inr (.inl rfl))))))))))).1 e)
  refine ⟨_,_,rfl,hq3',?_⟩
  apply Wl.nil
  refine Mt.backE (fun _ h' => ⟨(hM3.upd h'.upd fun b hb y => y (hof hb)).dd,h'.own.at (.head _)⟩) ?_
  refine Mt.toGt kg ?_
  repeat' first | apply St.seq | apply Gt.next
  refine St.tree (fun w' => w'.heap[c]? = some (.cells ([.int .i64 x.1,strV x.2] : List Value).toArray 78 (0,0))) mixed (fun _ h' => ⟨Hp.drew h',(Hp.drew h').own.at (.head _)⟩) ?_
  refine Mt.pz 0 ?_
  refine Mt.pf 4 ?_
  refine Mt.pu 1 ?_
  apply Wl.loadF;exact rfl;exact rfl;(intro w' h';exact cell_of h' rfl);apply Wl.nilB
  refine Mt.pu 5 ?_
  apply Wl.loadF;exact rfl;exact rfl;(intro w' h';exact cell_of h' rfl);apply Wl.nilB
  refine Mt.pu 2 ?_
  refine Wl.lenS rfl rfl (Wl.nilB ?_)
  refine Mt.pu 6 ?_
  refine Wl.convU32 rfl rfl ?_ ?_;constructor <;> omega;apply Wl.nilB
  refine Mt.pu 3 ?_
  refine Wl.convU32 rfl rfl ?_ ?_;constructor <;> omega;apply Wl.nilB
  refine Mt.pu 7 ?_
  refine Wl.assign rfl rfl (Wl.nilB ?_)
  refine Mt.pu 8 ?_
  refine Wl.assign rfl rfl (Wl.nilB ?_)
  refine Mt.toGt kg ?_
  repeat' first | apply St.ret | apply Gt.next | (apply Gt.out2;exact rfl;exact rfl;exact rfl;intro w' hp)
  refine ⟨?_,hM3.upd hp.upd fun b hb y => y (hof hb),Hp.onB hp hu3 kb⟩
  rw [hs1]
end
end Go.Proofs.YtabbklpalbikdaaGreatDoor
end
section
namespace Go.Pt
open Go.RowKit
theorem Wl.loadAB {P : Program} {md : Md} {ops : Array Oper} {N : Nat} {rest : List Oper} {Γ : Env} {Q : Exit → Act → World → Prop} {d : Nat} {ty : TypeId} {pos : String} {af : Array Edge} {w0 : World} {H : List Blk} {t n : TypeId} [TyA P t n] {x : Operand} {b o : Nat} {xs : List Value}
  (hd : Nat.blt d N = true) (hx : ev Γ x = some (.pointer (some ⟨b,o,none⟩))) (hc : ∀ j v,xs[j]? = some v → w0.cell? ⟨b,o + j,none⟩ = some v) (ho : Off H b) (hn : xs.length = n)
  (h : Wl rest P md ops N ((d,.agg xs.toArray) :: Γ) (Hp w0 H) Q) : Wl (⟨some d,.load t x,ty,pos,af,none⟩ :: rest) P md ops N Γ (Hp w0 H) Q :=
 Wl.loadAF hd hx hn (fun w hw i v hv => by rw [addLit];exact hw.old (hc i v hv) ho) h
theorem Wl.sliceArrW {P : Program} {md : Md} {N : Nat} {ops : Array Oper} {rest : List Oper} {Γ : Env} {C : World → Prop} {Q : Exit → Act → World → Prop} {d : Nat} {ty : TypeId} {pos : String} {af : Array Edge} {t e n sz by_ : TypeId} {x : Operand} {b o : Nat} [ht : TyD P t (.array n e)] [TyS P e sz by_]
  (hd : Nat.blt d N = true) (hx : ev Γ x = some (.pointer (some ⟨b,o,none⟩))) (hn : n ≠ 0) (h : Wl rest P md ops N ((d,.slice (some ⟨b,o,none⟩) n n) :: Γ) C Q) : Wl (⟨some d,.slice t x none none none,ty,pos,af,none⟩ :: rest) P md ops N Γ C Q :=
 Wl.val hd (fun a w ha _ => by
  simp [execOp,ha.ev hx,Instr.sliceAt,run_underlying ht.out,Instr.sliceBounds,Instr.sureAddr,Addr.add,run_size (P := P) (t := e),hn]) h
end Go.Pt
namespace Go.Proofs.YtabbklpalbikdaaGreatDoor
open Go.RowKit Go.Pt
def payC (E : Pays) (i : Nat) (gv : Value) : List Value := byteCells (E.dg i) ++ [.int .u32 (E.sz i),.int .u32 (E.bi i),gv,.int .i64 (E.ca i)]
theorem payC_len {E : Pays} {i : Nat} {gv : Value} (h : (E.dg i).length = 32) : (payC E i gv).length = 36 := by simp [payC,byteCells_length,h]
theorem payC_one {E : Pays} {i : Nat} {gv : Value} (h : gv.oneCell' = true) : (payC E i gv).all Value.oneCell' = true := by
 rw [List.all_eq_true]
 intro v hv
 simp only [payC,List.mem_append,byteCells,List.mem_map,List.mem_cons,List.not_mem_nil,or_false] at hv
 rcases hv with ⟨b,_,rfl⟩ | rfl | rfl | rfl | rfl
 ·rfl
 ·rfl
 ·rfl
 ·exact h
 ·rfl
theorem payC_tail {E : Pays} {i : Nat} {gv : Value} (h : (E.dg i).length = 32) (q : Nat) : (payC E i gv)[32 + q]? = [Value.int .u32 (E.sz i),.int .u32 (E.bi i),gv,.int .i64 (E.ca i)][q]? := by
 have hb : (byteCells (E.dg i)).length = 32 := by rw [byteCells_length,h]
 unfold payC
 rw [List.getElem?_append_right ky,hb,show 32 + q - 32 = q by omega]
abbrev st (xs : List Value) (r : Nat) (v : Int) : List Value := xs.set r (.int .u32 v)
theorem st_len (xs : List Value) (r : Nat) (v : Int) : (st xs r v).length = xs.length := List.length_set
theorem st_one {xs : List Value} {r : Nat} {v : Int} (h : xs.all Value.oneCell' = true) : (st xs r v).all Value.oneCell' = true := by
 rw [List.all_eq_true] at h ⊢
 intro x hx
 rcases List.mem_or_eq_of_mem_set hx with h' | rfl
 ·exact h x h'
 ·rfl
def askB (E : Pays) (who : Nat) (a7 : Int) : Int := bits .and .i64 ((E.ca who).fdiv (2 ^ min a7.toNat IntKind.i64.bits)) 1
noncomputable def doA (E : Pays) (D : DS) (n who : Nat) (xs : List Value) (a7 a0 a1 a2 : Int) : (List Value × Int) × DS :=
 if 7 < a7 then ((st xs 10 (mW (-1)),0),D)
 else if askB E who a7 = 0 then ((st xs 10 (mW (-1)),0),D)
 else if a7 = 0 then ((xs,1),D)
 else if a7 = 1 then ((st xs 10 0,2),D)
 else if a7 = 2 then ((st xs 10 (sayD E D who a0 a1).1,0),(sayD E D who a0 a1).2)
 else if a7 = 3 then ((st xs 10 (hearD D who).1,0),(hearD D who).2)
 else if a7 = 4 then ((st xs 10 (sendD E D n who a0 a1 a2).1,0),(sendD E D n who a0 a1 a2).2)
 else if a7 = 5 then ((st (st xs 10 (takeD E D who a0 a1).1.1) 11 (takeD E D who a0 a1).1.2,0),(takeD E D who a0 a1).2)
 else if a7 = 6 then (if (E.gn who : Int) ≤ a0 then ((st xs 10 (mW (-5)),0),D) else ((st (st (st (st xs 10 0) 11 (E.g who a0.toNat).1) 12 (E.g who a0.toNat).2.1) 13 (E.g who a0.toNat).2.2,0),D))
 else if mayD E who a0 32 2 = true then ((st xs 10 who,0),{D with f := putF D.f (a0 - 2147483648).toNat (E.dg who)}) else ((st xs 10 (mW (-2)),0),D)
theorem bsPay {w : World} {E : Pays} {i c t : Nat} {gv : Value} (h : w.heap[c]? = some (.cells (payC E i gv).toArray t (0,0))) (hd : (E.dg i).length = 32) : Bs w (.slice (some ⟨c,0,none⟩) 32 32) (E.dg i) := by
 refine ⟨by rw [byteCells_length,Nat.mul_one],some ⟨c,0,none⟩,32,by rw [hd],by rw [hd];exact Nat.le_refl _,by unfold maxLen;omega,fun e => (by cases e),fun _ => ⟨c,0,rfl,fun j hj => ?_⟩⟩
 refine cell_of h ?_
 rw [Nat.zero_add]
 unfold payC
 rw [List.getElem?_append_left hj,List.getElem?_eq_getElem hj]
theorem MonS.offF {w : World} {base : Nat} {I : Mi} {M : Mv2} (k : MonS w base I M) {b t : Nat} {cs : Array Value} (hb : w.heap[b]? = some (.cells cs t (0,0)))
  (ht : t ≠ 130 ∧ t ≠ 133 ∧ t ≠ 139 ∧ t ≠ 210 ∧ t ≠ 44 ∧ t ≠ 255 ∧ t ≠ 232 ∧ t ≠ 231 ∧ t ≠ 9 ∧ t ≠ 156 ∧ t ≠ 111 ∧ t ≠ 70) : ∀ x,MonF I M x → x ≠ b := by
 obtain ⟨t1,t2,t3,t4,t5,t6,t7,t8,t9,t10,t12,t13⟩ := ht
 obtain ⟨n1,n2,n3,n4,n5,n6,n7,n8,n9,n10,n11,n12,n13⟩ := k.off hb
 rintro x (rfl | rfl | rfl | rfl | rfl | rfl | rfl | rfl | rfl | rfl | h | h | h)
 ·exact n1 t1
 ·exact n2 t2
 ·exact n3 t3
 ·exact n4 t4
 ·exact n5 t5
 ·exact n6 t6
 ·exact n7 t7
 ·exact n8 t8
 ·exact n9 t9
 ·exact n10 t10
 ·exact n11 x h
 ·exact n12 t12 x h
 ·exact n13 t13 x h
theorem Hp.onB0 {w w2 : World} {I : Mi} {M : Mv2} {H : List Blk} (h : Hp w H w2) (hH : ∀ x ∈ H,w.heap.size ≤ x.b) : Upd (KF w I M) w w2 := Hp.onB h (Upd.refl _ _) hH
section
variable (base : Nat) (I : Mi) (M : Mv2) (lv : Value) (E : Pays) (D : DS) (who : Nat) (w : World)
theorem dDo (xs : List Value) (a7 a0 a1 a2 : Int) (hM : MonS w base I (D.on M lv)) (hb : base ≤ w.heap.size) (hE : EnvS w base M.L.length M.pv M.ev E) (hD : DOk D M.L.length) (hw : who < M.L.length)
  (hl : xs.length = 32) (hone : xs.all Value.oneCell' = true) (h7 : xs[17]? = some (.int .u32 a7)) (h10 : xs[10]? = some (.int .u32 a0)) (h11 : xs[11]? = some (.int .u32 a1)) (h12 : xs[12]? = some (.int .u32 a2))
  (r7 : 0 ≤ a7 ∧ a7 < 4294967296) (r0 : 0 ≤ a0 ∧ a0 < 4294967296) (r1 : 0 ≤ a1 ∧ a1 < 4294967296) (r2 : 0 ≤ a2 ∧ a2 < 4294967296) :
  Calls Tryz.prog 66 #[.pointer (some ⟨I.d,0,none⟩),.int .i64 who,.agg xs.toArray] w fun e w' => ∃ lv',e = .returned (.tuple #[.agg (doA E D M.L.length who xs a7 a0 a1 a2).1.1.toArray,.int .i64 (doA E D M.L.length who xs a7 a0 a1 a2).1.2]) ∧ MonS w' base I ((doA E D M.L.length who xs a7 a0 a1 a2).2.on M lv') ∧ Upd (KF w I (D.on M lv)) w w' ∧ (∀ k,lv'.ownBlock = some k → lv.ownBlock = some k ∨ w.heap.size ≤ k) := by
 obtain ⟨pb,po,pc,hpv,_,hpay⟩ := hE.pay
 obtain ⟨eb,eo,ec,hev,_,_⟩ := hE.ent
 obtain ⟨gb,go,gc,hgb,hcell,hg⟩ := hpay who hw
 have q0 : w.cell? ⟨I.d,0,none⟩ = some (.slice (some ⟨pb,po,none⟩) M.L.length pc) := by rw [← hpv];exact cell_of hM.dd rfl
 have q1 : w.cell? ⟨I.d,1,none⟩ = some (.slice (some ⟨eb,eo,none⟩) M.L.length ec) := by rw [← hev];exact cell_of hM.dd rfl
 have hn4 : 1 ≤ M.L.length ∧ M.L.length ≤ 4 := hM.ward.2.2
 have d0 : decide ((who : Int) < 0) = false := decide_eq_false ky
 have d1 : decide ((who : Int) ≥ (M.L.length : Int)) = false := decide_eq_false ky
 have hdg := hE.ok.dg who hw
 have hgn := hE.ok.gn who hw
 have hld : I.d < w.heap.size := lt_of_block hM.dd
 have hpb : pb < w.heap.size := World.block_lt_of_cell? w _ (hcell 0 _ (by show (payC E who _)[0]? = _;exact List.getElem?_eq_getElem (by rw [payC_len hdg];decide)))
 have hcell' : ∀ j v,(payC E who (.slice (some ⟨gb,go,none⟩) (E.gn who) gc))[j]? = some v → w.cell? ⟨pb,po + (who : Int).toNat * 36 + j,none⟩ = some v := fun j v hj => by rw [Int.toNat_natCast];exact hcell j v hj
 refine enter (args := [_,_,_]) (Γ := [(0,_),(1,_),(2,_)]) Tryz.func66 Tryz.ntmps66 rfl odq (.cons rfl (.cons rfl (.cons rfl .nil))) ?_
 have hca : (payC E who (.slice (some ⟨gb,go,none⟩) (E.gn who) gc))[35]? = some (.int .i64 (E.ca who)) := payC_tail hdg 3
 have hgv : (payC E who (.slice (some ⟨gb,go,none⟩) (E.gn who) gc))[34]? = some (.slice (some ⟨gb,go,none⟩) (E.gn who) gc) := payC_tail hdg 2
 repeat' first | (apply Wl.loadO;exact rfl;exact rfl;exact zw;exact kh) | (apply Wl.loadH;exact rfl;exact rfl;exact ke;assumption) | (apply Wl.loadAB (xs := payC E who (.slice (some ⟨gb,go,none⟩) (E.gn who) gc));exact rfl;exact rfl;(intro j v hj;exact hcell' j v hj);exact kh;exact payC_len hdg) | (apply Wl.storeA (xs := payC E who (.slice (some ⟨gb,go,none⟩) (E.gn who) gc));exact rfl;exact rfl;exact payC_len hdg;exact payC_one rfl;exact ke;exact .z (LOver.whole (by rw [payC_len hdg];rfl))) | refine Wl.move rfl rfl ?_ | refine Wl.assign rfl rfl ?_ | (apply Wl.on;exact rfl;exact rfl;exact ka) | refine Wl.nilCheck rfl rfl ?_ | (apply Wl.pickF;exact rfl;exact rfl;exact ka;exact rfl) | refine Wl.fieldAddr0 rfl rfl ?_ | refine Wl.fieldAddrZ rfl rfl ?_ | refine Wl.eqlPN rfl rfl rfl ?_ | refine Wl.lss rfl rfl rfl ?_ | refine Wl.geq rfl rfl rfl ?_ | refine Wl.len rfl rfl ?_ | (apply Wl.boxA;exact rfl;exact rfl;intro c hc ho) | (apply Wl.alloc;exact rfl;intro c hc ho) | (refine Wl.indexAddr rfl rfl rfl ?_ ?_;constructor <;> omega) | (refine Wl.indexArr rfl rfl rfl ?_ ?_;constructor <;> omega) | apply Wl.nil | apply St.region | (apply St.condF;exact rfl;exact ka) | apply St.skip | apply Gt.next | (apply St.seqK (k := 5);exact rfl) | (apply St.seqKS (k := 5);exact rfl)
 rename_i c5 hc5 ho5 c6 hc6 ho6
 generalize c = c8 at *
 have hc8 : w.heap.size ≤ c8 := by assumption
 have hMlt := hM.lt
 by_cases e7 : 7 < a7
 ·have g7 : decide (a7 > 7) = true := decide_eq_true e7
  have de : doA E D M.L.length who xs a7 a0 a1 a2 = ((st xs 10 (mW (-1)),0),D) := by unfold doA;rw [if_pos e7]
  repeat' first | refine Wl.move rfl rfl ?_ | (apply Wl.off;exact rfl;exact rfl;exact rfl;exact kq) | (apply Wl.pickT;exact rfl;exact rfl;exact ka;exact rfl) | refine Wl.gtr rfl rfl rfl ?_ | apply Wl.nil | apply St.seq | apply St.region | (apply St.condT;exact rfl;exact ka) | apply Gt.next
  apply Wl.callQ
  exact rfl
  (focus repeat constructor)
  ·intro wq hq
   exact hq.q (cMinus wq (-1) ze)
  repeat' first | (apply Wl.store;exact rfl;exact rfl;exact rfl;exact ke;exact zm) | (apply Wl.loadAH;exact rfl;exact rfl;exact ke;exact LSub.whole' zi) | (apply Wl.storeA;exact rfl;exact rfl;exact zi;(repeat apply st_one);exact hone;exact ke;exact .z (LOver.whole qc)) | (apply Gt.outCT;exact rfl;infer_instance;exact rfl;exact rfl;exact ke;exact LSub.whole' zi;intro w' hp) | refine Wl.assign rfl rfl ?_ | (refine Wl.indexArr rfl rfl rfl ?_ ?_;constructor <;> omega) | apply Wl.nil | apply St.seq | apply St.region | apply St.ret | apply Gt.next | apply Gt.thenRet
  exact ⟨lv,by rw [de];try rfl,by rw [de];exact hM.hp hp kb,Hp.onB0 hp kb,fun k hk => .inl hk⟩
 have g7 : decide (a7 > 7) = false := decide_eq_false e7
 by_cases eb : askB E who a7 = 0
 ·have gb7 : decide (bits .and .i64 ((E.ca who).fdiv (2 ^ min a7.toNat IntKind.i64.bits)) 1 = 0) = true := decide_eq_true eb
  have de : doA E D M.L.length who xs a7 a0 a1 a2 = ((st xs 10 (mW (-1)),0),D) := by unfold doA;rw [if_neg e7,if_pos eb]
  repeat' first | (apply Wl.loadH;exact rfl;exact rfl;exact ke;assumption) | refine Wl.move rfl rfl ?_ | (apply Wl.on;exact rfl;exact rfl;exact ka) | (apply Wl.pickF;exact rfl;exact rfl;exact ka;exact rfl) | refine Wl.fieldAddrZ rfl rfl ?_ | refine Wl.eql rfl rfl rfl ?_ | refine Wl.gtr rfl rfl rfl ?_ | refine Wl.and rfl rfl rfl ?_ | (refine Wl.shr rfl rfl rfl ?_ ?_;omega) | apply Wl.nil | apply St.seq | apply St.region | (apply St.condT;exact rfl;exact ka) | apply Gt.next
  all_goals first | (exfalso;omega) | skip
  apply Wl.callQ
  exact rfl
  (focus repeat constructor)
  ·intro wq hq
   exact hq.q (cMinus wq (-1) ze)
  repeat' first | (apply Wl.store;exact rfl;exact rfl;exact rfl;exact ke;exact zm) | (apply Wl.loadAH;exact rfl;exact rfl;exact ke;exact LSub.whole' zi) | (apply Wl.storeA;exact rfl;exact rfl;exact zi;(repeat apply st_one);exact hone;exact ke;exact .z (LOver.whole qc)) | (apply Gt.outCT;exact rfl;infer_instance;exact rfl;exact rfl;exact ke;exact LSub.whole' zi;intro w' hp) | refine Wl.assign rfl rfl ?_ | (refine Wl.indexArr rfl rfl rfl ?_ ?_;constructor <;> omega) | apply Wl.nil | apply St.seq | apply St.region | apply St.ret | apply Gt.next | apply Gt.thenRet
  exact ⟨lv,by rw [de];try rfl,by rw [de];exact hM.hp hp kb,Hp.onB0 hp kb,fun k hk => .inl hk⟩
 have gb7 : decide (bits .and .i64 ((E.ca who).fdiv (2 ^ min a7.toNat IntKind.i64.bits)) 1 = 0) = false := decide_eq_false eb
 by_cases n0 : a7 = 0
 ·have m0 : decide (a7 = 0) = true := decide_eq_true n0
  have de : doA E D M.L.length who xs a7 a0 a1 a2 = ((xs,1),D) := by unfold doA;rw [if_neg e7,if_neg eb,if_pos n0]
  repeat' first | (apply Wl.loadH;exact rfl;exact rfl;exact ke;assumption) | (apply Wl.loadAH;exact rfl;exact rfl;exact ke;exact LSub.whole' zi) | (apply Wl.storeA;exact rfl;exact rfl;exact zi;(repeat apply st_one);exact hone;exact ke;exact .z (LOver.whole qc)) | (apply Gt.outCT;exact rfl;infer_instance;exact rfl;exact rfl;exact ke;exact LSub.whole' zi;intro w' hp) | refine Wl.move rfl rfl ?_ | refine Wl.assign rfl rfl ?_ | (apply Wl.on;exact rfl;exact rfl;exact ka) | (apply Wl.pickF;exact rfl;exact rfl;exact ka;exact rfl) | refine Wl.fieldAddrZ rfl rfl ?_ | (apply Wl.eqlIs;exact rfl;exact rfl;exact rfl;exact kv) | refine Wl.eql rfl rfl rfl ?_ | refine Wl.gtr rfl rfl rfl ?_ | refine Wl.and rfl rfl rfl ?_ | (refine Wl.shr rfl rfl rfl ?_ ?_;omega) | apply Wl.nil | apply St.seq | apply St.block | apply St.region | (apply St.condT;exact rfl;exact ka) | (apply St.condF;exact rfl;exact ka) | apply St.ret | apply St.skip | apply Gt.next | apply Gt.thenRet | apply Gt.inRet
  all_goals first | (exfalso;omega) | skip
  exact ⟨lv,by rw [de];try rfl,by rw [de];exact hM.hp hp kb,Hp.onB0 hp kb,fun k hk => .inl hk⟩
 have m0 : decide (a7 = 0) = false := decide_eq_false n0
 by_cases n1 : a7 = 1
 ·have m1 : decide (a7 = 1) = true := decide_eq_true n1
  have de : doA E D M.L.length who xs a7 a0 a1 a2 = ((st xs 10 0,2),D) := by unfold doA;rw [if_neg e7,if_neg eb,if_neg n0,if_pos n1]
  repeat' first | (apply Wl.loadH;exact rfl;exact rfl;exact ke;assumption) | (apply Wl.store;exact rfl;exact rfl;exact rfl;exact ke;exact zm) | (apply Wl.loadAH;exact rfl;exact rfl;exact ke;exact LSub.whole' zi) | (apply Wl.storeA;exact rfl;exact rfl;exact zi;(repeat apply st_one);exact hone;exact ke;exact .z (LOver.whole qc)) | (apply Gt.outCT;exact rfl;infer_instance;exact rfl;exact rfl;exact ke;exact LSub.whole' zi;intro w' hp) | refine Wl.move rfl rfl ?_ | refine Wl.assign rfl rfl ?_ | (apply Wl.on;exact rfl;exact rfl;exact ka) | (apply Wl.pickF;exact rfl;exact rfl;exact ka;exact rfl) | refine Wl.fieldAddrZ rfl rfl ?_ | (apply Wl.eqlIs;exact rfl;exact rfl;exact rfl;exact kv) | refine Wl.eql rfl rfl rfl ?_ | refine Wl.gtr rfl rfl rfl ?_ | refine Wl.and rfl rfl rfl ?_ | (refine Wl.shr rfl rfl rfl ?_ ?_;omega) | (refine Wl.indexArr rfl rfl rfl ?_ ?_;constructor <;> omega) | apply Wl.nil | apply St.seq | apply St.block | apply St.region | (apply St.condT;exact rfl;exact ka) | (apply St.condF;exact rfl;exact ka) | apply St.ret | apply St.skip | apply Gt.next | apply Gt.thenRet | apply Gt.inRet
  all_goals first | (exfalso;omega) | skip
  exact ⟨lv,by rw [de];try rfl,by rw [de];exact hM.hp hp kb,Hp.onB0 hp kb,fun k hk => .inl hk⟩
 have m1 : decide (a7 = 1) = false := decide_eq_false n1
 by_cases n2 : a7 = 2
 ·have m2 : decide (a7 = 2) = true := decide_eq_true n2
  have de : doA E D M.L.length who xs a7 a0 a1 a2 = ((st xs 10 (sayD E D who a0 a1).1,0),(sayD E D who a0 a1).2) := by unfold doA;rw [if_neg e7,if_neg eb,if_neg n0,if_neg n1,if_pos n2]
  repeat' first | (apply Wl.loadH;exact rfl;exact rfl;exact ke;assumption) | refine Wl.move rfl rfl ?_ | refine Wl.assign rfl rfl ?_ | (apply Wl.on;exact rfl;exact rfl;exact ka) | (apply Wl.pickF;exact rfl;exact rfl;exact ka;exact rfl) | refine Wl.fieldAddrZ rfl rfl ?_ | (apply Wl.eqlIs;exact rfl;exact rfl;exact rfl;exact kv) | refine Wl.eql rfl rfl rfl ?_ | refine Wl.gtr rfl rfl rfl ?_ | refine Wl.and rfl rfl rfl ?_ | (refine Wl.shr rfl rfl rfl ?_ ?_;omega) | (refine Wl.indexArr rfl rfl rfl ?_ ?_;constructor <;> omega) | apply Wl.nil | apply St.seq | apply St.block | apply St.region | (apply St.condT;exact rfl;exact ka) | (apply St.condF;exact rfl;exact ka) | apply St.skip | apply Gt.next
  all_goals first | (exfalso;omega) | skip
  apply Wl.callC
  ·exact rfl
  ·exact ke
  intro wq hq
  have hMq := hM.hp hq kb
  have hEq := hE.hp hq kb
  have zq := hq.upd.size
  have hlt : ∀ x : Blk,x ∈ _ → x.b < wq.heap.size := fun x hx => hq.own.lt hx
  simp only [List.mem_cons,List.not_mem_nil,or_false,forall_eq_or_imp,forall_eq] at hlt
  refine (dSay base I M lv E D who wq a0 a1 hMq ky hEq hD hw r0 r1).mono ?_
  rintro e w3 ⟨lv3,rfl,h3,u3,n3⟩
  have hq3 := Hp.restD hq u3 zu
  have hu3 : Upd (KF w I (D.on M lv)) w w3 := (Hp.onB0 hq kb).comp u3 fun k hk hs => hs.elim id fun h => h.elim .inl fun h => .inr ky
  have z3 := u3.size
  refine ⟨_,_,rfl,hq3,?_⟩
  repeat' first | (apply Wl.store;exact rfl;exact rfl;exact rfl;exact ke;exact zm) | (apply Wl.loadAH;exact rfl;exact rfl;exact ke;exact LSub.whole' zi) | (apply Wl.storeA;exact rfl;exact rfl;exact zi;(repeat apply st_one);exact hone;exact ke;exact .z (LOver.whole qc)) | (apply Gt.outCT;exact rfl;infer_instance;exact rfl;exact rfl;exact ke;exact LSub.whole' zi;intro w' hp) | refine Wl.assign rfl rfl ?_ | (refine Wl.indexArr rfl rfl rfl ?_ ?_;constructor <;> omega) | apply Wl.nil | apply St.seq | apply St.region | apply St.ret | apply Gt.next | apply Gt.inNormal
  have f8 := h3.offF (b := c8) (t := 116) (hq3.own.at (.head _)) ze
  have f6 := h3.offF (b := c6) (t := 42) (hq3.own.at (.tail _ (.head _))) ze
  have f5 := h3.offF (b := c5) (t := 42) (hq3.own.at (.tail _ (.tail _ (.head _)))) ze
  refine ⟨lv3,by rw [de];try rfl,?_,Hp.onB hp hu3 kb,fun k hk => (n3 k hk).imp id fun h => by omega⟩
  rw [de]
  exact h3.upd hp.upd fun b hb y => y ⟨(f8 b hb).symm,(f6 b hb).symm,(f5 b hb).symm,trivial⟩
 have m2 : decide (a7 = 2) = false := decide_eq_false n2
 by_cases n3 : a7 = 3
 ·have m3 : decide (a7 = 3) = true := decide_eq_true n3
  have de : doA E D M.L.length who xs a7 a0 a1 a2 = ((st xs 10 (hearD D who).1,0),(hearD D who).2) := by unfold doA;rw [if_neg e7,if_neg eb,if_neg n0,if_neg n1,if_neg n2,if_pos n3]
  repeat' first | (apply Wl.loadH;exact rfl;exact rfl;exact ke;assumption) | refine Wl.move rfl rfl ?_ | refine Wl.assign rfl rfl ?_ | (apply Wl.on;exact rfl;exact rfl;exact ka) | (apply Wl.pickF;exact rfl;exact rfl;exact ka;exact rfl) | refine Wl.fieldAddrZ rfl rfl ?_ | (apply Wl.eqlIs;exact rfl;exact rfl;exact rfl;exact kv) | refine Wl.eql rfl rfl rfl ?_ | refine Wl.gtr rfl rfl rfl ?_ | refine Wl.and rfl rfl rfl ?_ | (refine Wl.shr rfl rfl rfl ?_ ?_;omega) | apply Wl.nil | apply St.seq | apply St.block | apply St.region | (apply St.condT;exact rfl;exact ka) | (apply St.condF;exact rfl;exact ka) | apply St.skip | apply Gt.next
  all_goals first | (exfalso;omega) | skip
  apply Wl.callC
  ·exact rfl
  ·exact ke
  intro wq hq
  have hMq := hM.hp hq kb
  have hEq := hE.hp hq kb
  have zq := hq.upd.size
  have hlt : ∀ x : Blk,x ∈ _ → x.b < wq.heap.size := fun x hx => hq.own.lt hx
  simp only [List.mem_cons,List.not_mem_nil,or_false,forall_eq_or_imp,forall_eq] at hlt
  refine (dHear base I M lv D who wq hMq hD hw).mono ?_
  rintro e w3 ⟨rfl,h3,u3⟩
  have hq3 := Hp.restD hq u3 zu
  have hu3 : Upd (KF w I (D.on M lv)) w w3 := (Hp.onB0 hq kb).comp u3 fun k hk hs => hs.elim id fun h => h.elim .inl fun h => .inr ky
  have z3 := u3.size
  refine ⟨_,_,rfl,hq3,?_⟩
  repeat' first | (apply Wl.store;exact rfl;exact rfl;exact rfl;exact ke;exact zm) | (apply Wl.loadAH;exact rfl;exact rfl;exact ke;exact LSub.whole' zi) | (apply Wl.storeA;exact rfl;exact rfl;exact zi;(repeat apply st_one);exact hone;exact ke;exact .z (LOver.whole qc)) | (apply Gt.outCT;exact rfl;infer_instance;exact rfl;exact rfl;exact ke;exact LSub.whole' zi;intro w' hp) | refine Wl.assign rfl rfl ?_ | (refine Wl.indexArr rfl rfl rfl ?_ ?_;constructor <;> omega) | apply Wl.nil | apply St.seq | apply St.region | apply St.ret | apply Gt.next | apply Gt.inNormal
  have f8 := h3.offF (b := c8) (t := 116) (hq3.own.at (.head _)) ze
  have f6 := h3.offF (b := c6) (t := 42) (hq3.own.at (.tail _ (.head _))) ze
  have f5 := h3.offF (b := c5) (t := 42) (hq3.own.at (.tail _ (.tail _ (.head _)))) ze
  refine ⟨lv,by rw [de];try rfl,?_,Hp.onB hp hu3 kb,fun k hk => .inl hk⟩
  rw [de]
  exact h3.upd hp.upd fun b hb y => y ⟨(f8 b hb).symm,(f6 b hb).symm,(f5 b hb).symm,trivial⟩
 have m3 : decide (a7 = 3) = false := decide_eq_false n3
 by_cases n4 : a7 = 4
 ·have m4 : decide (a7 = 4) = true := decide_eq_true n4
  have de : doA E D M.L.length who xs a7 a0 a1 a2 = ((st xs 10 (sendD E D M.L.length who a0 a1 a2).1,0),(sendD E D M.L.length who a0 a1 a2).2) := by unfold doA;rw [if_neg e7,if_neg eb,if_neg n0,if_neg n1,if_neg n2,if_neg n3,if_pos n4]
  repeat' first | (apply Wl.loadH;exact rfl;exact rfl;exact ke;assumption) | refine Wl.move rfl rfl ?_ | refine Wl.assign rfl rfl ?_ | (apply Wl.on;exact rfl;exact rfl;exact ka) | (apply Wl.pickF;exact rfl;exact rfl;exact ka;exact rfl) | refine Wl.fieldAddrZ rfl rfl ?_ | (apply Wl.eqlIs;exact rfl;exact rfl;exact rfl;exact kv) | refine Wl.eql rfl rfl rfl ?_ | refine Wl.gtr rfl rfl rfl ?_ | refine Wl.and rfl rfl rfl ?_ | (refine Wl.shr rfl rfl rfl ?_ ?_;omega) | (refine Wl.indexArr rfl rfl rfl ?_ ?_;constructor <;> omega) | apply Wl.nil | apply St.seq | apply St.block | apply St.region | (apply St.condT;exact rfl;exact ka) | (apply St.condF;exact rfl;exact ka) | apply St.skip | apply Gt.next
  all_goals first | (exfalso;omega) | skip
  apply Wl.callC
  ·exact rfl
  ·exact ke
  intro wq hq
  have hMq := hM.hp hq kb
  have hEq := hE.hp hq kb
  have zq := hq.upd.size
  have hlt : ∀ x : Blk,x ∈ _ → x.b < wq.heap.size := fun x hx => hq.own.lt hx
  simp only [List.mem_cons,List.not_mem_nil,or_false,forall_eq_or_imp,forall_eq] at hlt
  refine (dSend base I M lv E D who wq a0 a1 a2 hMq ky hEq hD hw r0 r1 r2).mono ?_
  rintro e w3 ⟨rfl,h3,u3⟩
  have hq3 := Hp.restD hq u3 zu
  have hu3 : Upd (KF w I (D.on M lv)) w w3 := (Hp.onB0 hq kb).comp u3 fun k hk hs => hs.elim id fun h => h.elim .inl fun h => .inr ky
  have z3 := u3.size
  refine ⟨_,_,rfl,hq3,?_⟩
  repeat' first | (apply Wl.store;exact rfl;exact rfl;exact rfl;exact ke;exact zm) | (apply Wl.loadAH;exact rfl;exact rfl;exact ke;exact LSub.whole' zi) | (apply Wl.storeA;exact rfl;exact rfl;exact zi;(repeat apply st_one);exact hone;exact ke;exact .z (LOver.whole qc)) | (apply Gt.outCT;exact rfl;infer_instance;exact rfl;exact rfl;exact ke;exact LSub.whole' zi;intro w' hp) | refine Wl.assign rfl rfl ?_ | (refine Wl.indexArr rfl rfl rfl ?_ ?_;constructor <;> omega) | apply Wl.nil | apply St.seq | apply St.region | apply St.ret | apply Gt.next | apply Gt.inNormal
  have f8 := h3.offF (b := c8) (t := 116) (hq3.own.at (.head _)) ze
  have f6 := h3.offF (b := c6) (t := 42) (hq3.own.at (.tail _ (.head _))) ze
  have f5 := h3.offF (b := c5) (t := 42) (hq3.own.at (.tail _ (.tail _ (.head _)))) ze
  refine ⟨lv,by rw [de];try rfl,?_,Hp.onB hp hu3 kb,fun k hk => .inl hk⟩
  rw [de]
  exact h3.upd hp.upd fun b hb y => y ⟨(f8 b hb).symm,(f6 b hb).symm,(f5 b hb).symm,trivial⟩
 have m4 : decide (a7 = 4) = false := decide_eq_false n4
 by_cases n5 : a7 = 5
 ·have m5 : decide (a7 = 5) = true := decide_eq_true n5
  have de : doA E D M.L.length who xs a7 a0 a1 a2 = ((st (st xs 10 (takeD E D who a0 a1).1.1) 11 (takeD E D who a0 a1).1.2,0),(takeD E D who a0 a1).2) := by unfold doA;rw [if_neg e7,if_neg eb,if_neg n0,if_neg n1,if_neg n2,if_neg n3,if_neg n4,if_pos n5]
  repeat' first | (apply Wl.loadH;exact rfl;exact rfl;exact ke;assumption) | refine Wl.move rfl rfl ?_ | refine Wl.assign rfl rfl ?_ | (apply Wl.on;exact rfl;exact rfl;exact ka) | (apply Wl.pickF;exact rfl;exact rfl;exact ka;exact rfl) | refine Wl.fieldAddrZ rfl rfl ?_ | (apply Wl.eqlIs;exact rfl;exact rfl;exact rfl;exact kv) | refine Wl.eql rfl rfl rfl ?_ | refine Wl.gtr rfl rfl rfl ?_ | refine Wl.and rfl rfl rfl ?_ | (refine Wl.shr rfl rfl rfl ?_ ?_;omega) | (refine Wl.indexArr rfl rfl rfl ?_ ?_;constructor <;> omega) | apply Wl.nil | apply St.seq | apply St.block | apply St.region | (apply St.condT;exact rfl;exact ka) | (apply St.condF;exact rfl;exact ka) | apply St.skip | apply Gt.next
  all_goals first | (exfalso;omega) | skip
  apply Wl.callC
  ·exact rfl
  ·exact ke
  intro wq hq
  have hMq := hM.hp hq kb
  have hEq := hE.hp hq kb
  have zq := hq.upd.size
  have hlt : ∀ x : Blk,x ∈ _ → x.b < wq.heap.size := fun x hx => hq.own.lt hx
  simp only [List.mem_cons,List.not_mem_nil,or_false,forall_eq_or_imp,forall_eq] at hlt
  refine (dTake base I M lv E D who wq a0 a1 hMq ky hEq hD hw r0 r1).mono ?_
  rintro e w3 ⟨rfl,h3,u3⟩
  have hq3 := Hp.restD hq u3 zu
  have hu3 : Upd (KF w I (D.on M lv)) w w3 := (Hp.onB0 hq kb).comp u3 fun k hk hs => hs.elim id fun h => h.elim .inl fun h => .inr ky
  have z3 := u3.size
  refine ⟨_,_,rfl,hq3,?_⟩
  repeat' first | (apply Wl.store;exact rfl;exact rfl;exact rfl;exact ke;exact zm) | (apply Wl.loadAH;exact rfl;exact rfl;exact ke;exact LSub.whole' zi) | (apply Wl.storeA;exact rfl;exact rfl;exact zi;(repeat apply st_one);exact hone;exact ke;exact .z (LOver.whole qc)) | (apply Gt.outCT;exact rfl;infer_instance;exact rfl;exact rfl;exact ke;exact LSub.whole' zi;intro w' hp) | refine Wl.move rfl rfl ?_ | refine Wl.assign rfl rfl ?_ | refine Wl.extract rfl rfl rfl ?_ | (refine Wl.indexArr rfl rfl rfl ?_ ?_;constructor <;> omega) | apply Wl.nil | apply St.seq | apply St.region | apply St.ret | apply Gt.next | apply Gt.inNormal
  have f8 := h3.offF (b := c8) (t := 116) (hq3.own.at (.head _)) ze
  have f6 := h3.offF (b := c6) (t := 42) (hq3.own.at (.tail _ (.head _))) ze
  have f5 := h3.offF (b := c5) (t := 42) (hq3.own.at (.tail _ (.tail _ (.head _)))) ze
  refine ⟨lv,by rw [de];try rfl,?_,Hp.onB hp hu3 kb,fun k hk => .inl hk⟩
  rw [de]
  exact h3.upd hp.upd fun b hb y => y ⟨(f8 b hb).symm,(f6 b hb).symm,(f5 b hb).symm,trivial⟩
 have m5 : decide (a7 = 5) = false := decide_eq_false n5
 by_cases n6 : a7 = 6
 ·have m6 : decide (a7 = 6) = true := decide_eq_true n6
  by_cases ng : (E.gn who : Int) ≤ a0
  ·have mg : decide (a0 ≥ (E.gn who : Int)) = true := decide_eq_true ng
   have de : doA E D M.L.length who xs a7 a0 a1 a2 = ((st xs 10 (mW (-5)),0),D) := by unfold doA;rw [if_neg e7,if_neg eb,if_neg n0,if_neg n1,if_neg n2,if_neg n3,if_neg n4,if_neg n5,if_pos n6,if_pos ng]
   repeat' first | (apply Wl.loadH;exact rfl;exact rfl;exact ke;assumption) | refine Wl.move rfl rfl ?_ | refine Wl.assign rfl rfl ?_ | (apply Wl.on;exact rfl;exact rfl;exact ka) | (apply Wl.pickF;exact rfl;exact rfl;exact ka;exact rfl) | refine Wl.fieldAddrZ rfl rfl ?_ | (apply Wl.eqlIs;exact rfl;exact rfl;exact rfl;exact kv) | refine Wl.eql rfl rfl rfl ?_ | refine Wl.gtr rfl rfl rfl ?_ | refine Wl.geq rfl rfl rfl ?_ | refine Wl.and rfl rfl rfl ?_ | (refine Wl.shr rfl rfl rfl ?_ ?_;omega) | (refine Wl.convU32 rfl rfl ?_ ?_;constructor <;> omega) | refine Wl.len rfl rfl ?_ | (refine Wl.indexArr rfl rfl rfl ?_ ?_;constructor <;> omega) | apply Wl.nil | apply St.seq | apply St.block | apply St.region | (apply St.condT;exact rfl;exact ka) | (apply St.condF;exact rfl;exact ka) | apply St.skip | apply Gt.next
   all_goals first | (exfalso;omega) | skip
   apply Wl.callQ
   exact rfl
   (focus repeat constructor)
   ·intro wq hq
    exact hq.q (cMinus wq (-5) ze)
   repeat' first | (apply Wl.store;exact rfl;exact rfl;exact rfl;exact ke;exact zm) | (apply Wl.loadAH;exact rfl;exact rfl;exact ke;exact LSub.whole' zi) | (apply Wl.storeA;exact rfl;exact rfl;exact zi;(repeat apply st_one);exact hone;exact ke;exact .z (LOver.whole qc)) | (apply Gt.outCT;exact rfl;infer_instance;exact rfl;exact rfl;exact ke;exact LSub.whole' zi;intro w' hp) | refine Wl.assign rfl rfl ?_ | (refine Wl.indexArr rfl rfl rfl ?_ ?_;constructor <;> omega) | apply Wl.nil | apply St.seq | apply St.region | apply St.ret | apply St.exit | apply Gt.next | apply Gt.thenExit | apply Gt.inExit
   exact ⟨lv,by rw [de];try rfl,by rw [de];exact hM.hp hp kb,Hp.onB0 hp kb,fun k hk => .inl hk⟩
  have mg : decide (a0 ≥ (E.gn who : Int)) = false := decide_eq_false ng
  have de : doA E D M.L.length who xs a7 a0 a1 a2 = ((st (st (st (st xs 10 0) 11 (E.g who a0.toNat).1) 12 (E.g who a0.toNat).2.1) 13 (E.g who a0.toNat).2.2,0),D) := by unfold doA;rw [if_neg e7,if_neg eb,if_neg n0,if_neg n1,if_neg n2,if_neg n3,if_neg n4,if_neg n5,if_pos n6,if_neg ng]
  obtain ⟨g1,g2,g3⟩ := hg a0.toNat ky
  have hgc : ∀ j v,[Value.int .u32 (E.g who a0.toNat).1,.int .u32 (E.g who a0.toNat).2.1,.int .i64 (E.g who a0.toNat).2.2][j]? = some v → w.cell? ⟨gb,go + a0.toNat * 3 + j,none⟩ = some v := by
   intro j v hj
   match j,hj with
   | 0,hj => cases hj;exact g1
   | 1,hj => cases hj;exact g2
   | 2,hj => cases hj;exact g3
  have hgb2 : gb < w.heap.size := World.block_lt_of_cell? w _ g1
  have hgk := hE.ok.g who a0.toNat hw ky
  repeat' first | (apply Wl.loadH;exact rfl;exact rfl;exact ke;assumption) | (apply Wl.loadAB (xs := [Value.int .u32 (E.g who a0.toNat).1,.int .u32 (E.g who a0.toNat).2.1,.int .i64 (E.g who a0.toNat).2.2]);exact rfl;exact rfl;(intro j v hj;exact hgc j v hj);exact kh;exact rfl) | refine Wl.move rfl rfl ?_ | refine Wl.assign rfl rfl ?_ | (apply Wl.on;exact rfl;exact rfl;exact ka) | (apply Wl.pickF;exact rfl;exact rfl;exact ka;exact rfl) | refine Wl.fieldAddrZ rfl rfl ?_ | (apply Wl.eqlIs;exact rfl;exact rfl;exact rfl;exact kv) | refine Wl.eql rfl rfl rfl ?_ | refine Wl.gtr rfl rfl rfl ?_ | refine Wl.geq rfl rfl rfl ?_ | refine Wl.and rfl rfl rfl ?_ | (refine Wl.shr rfl rfl rfl ?_ ?_;omega) | (refine Wl.convU32 rfl rfl ?_ ?_;constructor <;> omega) | refine Wl.len rfl rfl ?_ | (apply Wl.storeA;exact rfl;exact rfl;exact rfl;exact rfl;exact ke;exact kf) | (apply Wl.alloc;exact rfl;intro c hc ho) | (refine Wl.indexAddr rfl rfl rfl ?_ ?_;constructor <;> omega) | (refine Wl.indexArr rfl rfl rfl ?_ ?_;constructor <;> omega) | apply Wl.nil | apply St.seq | apply St.block | apply St.region | (apply St.condT;exact rfl;exact ka) | (apply St.condF;exact rfl;exact ka) | apply St.skip | apply Gt.next
  all_goals first | (exfalso;omega) | skip
  have hcc : w.heap.size ≤ c := by assumption
  refine St.tree (fun w' => w'.heap[c]? = some (.cells ([Value.int .u32 (E.g who a0.toNat).1,.int .u32 (E.g who a0.toNat).2.1,.int .i64 (E.g who a0.toNat).2.2]).toArray 180 (0,0))) mixed (fun _ h' => ⟨Hp.drew h',(Hp.drew h').own.at (.head _)⟩) ?_
  refine Mt.pf 0 ?_
  refine Mt.pz 2 ?_
  refine Mt.pz 4 ?_
  refine Mt.pu 7 ?_
  refine Wl.indexArr rfl rfl rfl ?_ ?_;constructor <;> omega;apply Wl.nilB
  refine Mt.pu 1 ?_
  apply Wl.loadF;exact rfl;exact rfl;(intro w' h';exact cell_of h' rfl);apply Wl.nilB
  refine Mt.pu 3 ?_
  apply Wl.loadF;exact rfl;exact rfl;(intro w' h';exact cell_of h' rfl);apply Wl.nilB
  refine Mt.pu 5 ?_
  apply Wl.loadF;exact rfl;exact rfl;(intro w' h';exact cell_of h' rfl);apply Wl.nilB
  refine Mt.pu 6 ?_
  refine Wl.convU32 rfl rfl ?_ ?_;constructor <;> omega;apply Wl.nilB
  refine Mt.e1 8 ?_
  apply Wl.store
  ·exact rfl
  ·exact rfl
  ·exact rfl
  ·exact ke
  ·exact LSet.of j9
  apply Wl.nil
  refine Mt.backE (fun _ h' => h'.own.at (.head _)) ?_
  refine Mt.pu 9 ?_
  refine Wl.indexArr rfl rfl rfl ?_ ?_;constructor <;> omega;apply Wl.nilB
  refine Mt.e1 10 ?_
  apply Wl.store
  ·exact rfl
  ·exact rfl
  ·exact rfl
  ·exact ke
  ·exact LSet.of j9
  apply Wl.nil
  refine Mt.backE (fun _ h' => h'.own.at (.head _)) ?_
  refine Mt.pu 11 ?_
  refine Wl.indexArr rfl rfl rfl ?_ ?_;constructor <;> omega;apply Wl.nilB
  refine Mt.e1 12 ?_
  apply Wl.store
  ·exact rfl
  ·exact rfl
  ·exact rfl
  ·exact ke
  ·exact LSet.of j9
  apply Wl.nil
  refine Mt.backE (fun _ h' => h'.own.at (.head _)) ?_
  refine Mt.pu 13 ?_
  refine Wl.indexArr rfl rfl rfl ?_ ?_;constructor <;> omega;apply Wl.nilB
  refine Mt.e1 14 ?_
  apply Wl.store
  ·exact rfl
  ·exact rfl
  ·exact rfl
  ·exact ke
  ·exact LSet.of j9
  apply Wl.nil
  refine Mt.backE (fun _ h' => h'.own.at (.head _)) ?_
  refine Mt.toGt kg ?_
  repeat' first | (apply Wl.loadAH;exact rfl;exact rfl;exact ke;exact LSub.whole' zi) | (apply Wl.storeA;exact rfl;exact rfl;exact zi;(repeat apply st_one);exact hone;exact ke;exact .z (LOver.whole qc)) | (apply Gt.outCT;exact rfl;infer_instance;exact rfl;exact rfl;exact ke;exact LSub.whole' zi;intro w' hp) | refine Wl.assign rfl rfl ?_ | apply Wl.nil | apply St.seq | apply St.region | apply St.ret | apply Gt.next | apply Gt.inNormal
  exact ⟨lv,by rw [de];try rfl,by rw [de];exact hM.hp hp kb,Hp.onB0 hp kb,fun k hk => .inl hk⟩
 have m6 : decide (a7 = 6) = false := decide_eq_false n6
 repeat' first | (apply Wl.loadH;exact rfl;exact rfl;exact ke;assumption) | refine Wl.move rfl rfl ?_ | refine Wl.assign rfl rfl ?_ | (apply Wl.on;exact rfl;exact rfl;exact ka) | (apply Wl.pickF;exact rfl;exact rfl;exact ka;exact rfl) | refine Wl.fieldAddrZ rfl rfl ?_ | refine Wl.eql rfl rfl rfl ?_ | refine Wl.gtr rfl rfl rfl ?_ | refine Wl.and rfl rfl rfl ?_ | (refine Wl.shr rfl rfl rfl ?_ ?_;omega) | (refine Wl.indexArr rfl rfl rfl ?_ ?_;constructor <;> omega) | apply Wl.nil | apply St.seq | apply St.block | apply St.region | (apply St.condF;exact rfl;exact ka) | apply St.skip | apply Gt.next
 all_goals first | (exfalso;omega) | skip
 apply Wl.callQ
 exact rfl
 (focus repeat constructor)
 ·intro wq hq
  exact hq.q (dMay base I (D.on M lv) E who wq a0 32 2 (hM.hp hq kb) (hE.hp hq kb) hw r0 ze)
 by_cases hmay : mayD E who a0 32 2 = true
 rotate_left
 ·have hm2 : (!mayD E who a0 32 2) = true := by rw [Bool.eq_false_iff.2 hmay];rfl
  have de : doA E D M.L.length who xs a7 a0 a1 a2 = ((st xs 10 (mW (-2)),0),D) := by unfold doA;rw [if_neg e7,if_neg eb,if_neg n0,if_neg n1,if_neg n2,if_neg n3,if_neg n4,if_neg n5,if_neg n6,if_neg hmay]
  repeat' first | refine Wl.not rfl rfl ?_ | apply Wl.nil | apply St.seq | apply St.region | (apply St.condT;exact rfl;exact ka) | apply Gt.next
  apply Wl.callQ
  exact rfl
  (focus repeat constructor)
  ·intro wq hq
   exact hq.q (cMinus wq (-2) ze)
  repeat' first | (apply Wl.store;exact rfl;exact rfl;exact rfl;exact ke;exact zm) | (apply Wl.loadAH;exact rfl;exact rfl;exact ke;exact LSub.whole' zi) | (apply Wl.storeA;exact rfl;exact rfl;exact zi;(repeat apply st_one);exact hone;exact ke;exact .z (LOver.whole qc)) | (apply Gt.outCT;exact rfl;infer_instance;exact rfl;exact rfl;exact ke;exact LSub.whole' zi;intro w' hp) | refine Wl.assign rfl rfl ?_ | (refine Wl.indexArr rfl rfl rfl ?_ ?_;constructor <;> omega) | apply Wl.nil | apply St.seq | apply St.region | apply St.ret | apply St.exit | apply Gt.next | apply Gt.thenExit | apply Gt.inExit
  exact ⟨lv,by rw [de];try rfl,by rw [de];exact hM.hp hp kb,Hp.onB0 hp kb,fun k hk => .inl hk⟩
 have hm2 : (!mayD E who a0 32 2) = false := by rw [hmay];rfl
 obtain ⟨i1,i2⟩ := mayD_inM hmay ze
 have de : doA E D M.L.length who xs a7 a0 a1 a2 = ((st xs 10 who,0),{D with f := putF D.f (a0 - 2147483648).toNat (E.dg who)}) := by unfold doA;rw [if_neg e7,if_neg eb,if_neg n0,if_neg n1,if_neg n2,if_neg n3,if_neg n4,if_neg n5,if_neg n6,if_pos hmay]
 repeat' first | refine Wl.not rfl rfl ?_ | apply Wl.nil | apply St.seq | (apply St.condF;exact rfl;exact ka) | apply St.skip | apply Gt.next
 refine St.tree (fun w' => w'.heap[I.d]? = some (.cells #[M.pv,M.ev,.pointer (some ⟨I.cM,0,none⟩),.pointer (some ⟨I.pp,0,none⟩),.pointer (some ⟨I.bd,0,none⟩)] 139 (0,0)) ∧ w'.heap[c5]? = some (.cells xs.toArray 42 (0,0))) mixed (fun _ h' => ⟨Hp.drew h',(hM.hp (Hp.drew h') kb).dd,(Hp.drew h').own.at (.tail _ (.tail _ (.head _)))⟩) ?_
 refine Mt.pm 0 ?_
 refine Mt.pu 4 ?_
 refine Wl.indexArr rfl rfl rfl ?_ ?_;constructor <;> omega;apply Wl.nilB
 refine Mt.pf 6 ?_
 refine Mt.pn 1 ?_
 refine Mt.pu 5 ?_
 apply Wl.loadF;exact rfl;exact rfl;(intro w' h';first | exact cell_of h'.1 rfl | exact cell_of h'.2 h10);apply Wl.nilB
 refine Mt.pu 7 ?_
 apply Wl.sliceArrW;exact rfl;exact rfl;decide;apply Wl.nilB
 refine Mt.pz 2 ?_
 refine Mt.pu 3 ?_
 apply Wl.loadF;exact rfl;exact rfl;(intro w' h';first | exact cell_of h'.1 rfl | exact cell_of h'.2 h10);apply Wl.nilB
 refine Mt.e1 8 ?_
 apply Wl.callC
 ·exact rfl
 ·exact ke
 intro wq hq
 have hMq := hM.hp hq kb
 have zq := hq.upd.size
 have hlt : ∀ x : Blk,x ∈ _ → x.b < wq.heap.size := fun x hx => hq.own.lt hx
 simp only [List.mem_cons,List.not_mem_nil,or_false,forall_eq_or_imp,forall_eq] at hlt
 have hlc := (hMlt I.cM (.inr (.inr (.inr (.inr (.inr (.inr (.inr (.inr (.inr (.inl rfl))))))))))).2
 refine (mputX I.cM D.f a0 _ (E.dg who) wq hMq.mem (bsPay (hq.own.at (.head _)) hdg) (fun k hk e => by have e' : c8 = k := Option.some.inj hk;omega) r0 (by rw [hdg];exact ⟨i1,i2⟩) ky).mono ?_
 rintro e w3 ⟨rfl,hm3,u3⟩
 have h3 : MonS w3 base I (DS.on {D with f := putF D.f (a0 - 2147483648).toNat (E.dg who)} M lv) := hMq.put hm3 u3
 have hq3 := Hp.restD hq u3 kb
 have hu3 : Upd (KF w I (D.on M lv)) w w3 := (Hp.onB0 hq kb).comp u3 fun k hk hs => hs.elim id fun e => .inl (.inr (.inr (.inr (.inr (.inr (.inr (.inr (.inr (.inr (.inl e))))))))))
 have z3 := u3.size
 have f8 := h3.offF (b := c8) (t := 116) (hq3.own.at (.head _)) ze
 have f6 := h3.offF (b := c6) (t := 42) (hq3.own.at (.tail _ (.head _))) ze
 have f5 := h3.offF (b := c5) (t := 42) (hq3.own.at (.tail _ (.tail _ (.head _)))) ze
 refine ⟨_,_,rfl,hq3,?_⟩
 apply Wl.nil
 refine Mt.backE (fun _ h' => ⟨(h3.upd h'.upd fun b hb y => y ⟨(f8 b hb).symm,(f6 b hb).symm,(f5 b hb).symm,trivial⟩).dd,h'.own.at (.tail _ (.tail _ (.head _)))⟩) ?_
 refine Mt.toGt kg ?_
 repeat' first | (apply Wl.store;exact rfl;exact rfl;exact rfl;exact ke;exact zm) | (apply Wl.loadAH;exact rfl;exact rfl;exact ke;exact LSub.whole' zi) | (apply Wl.storeA;exact rfl;exact rfl;exact zi;(repeat apply st_one);exact hone;exact ke;exact .z (LOver.whole qc)) | (apply Gt.outCT;exact rfl;infer_instance;exact rfl;exact rfl;exact ke;exact LSub.whole' zi;intro w' hp) | refine Wl.move rfl rfl ?_ | refine Wl.assign rfl rfl ?_ | (refine Wl.convU32 rfl rfl ?_ ?_;constructor <;> omega) | (refine Wl.indexArr rfl rfl rfl ?_ ?_;constructor <;> omega) | apply Wl.nil | apply St.seq | apply St.region | apply St.ret | apply Gt.next | apply Gt.inNormal
 refine ⟨lv,by rw [de];try rfl,?_,Hp.onB hp hu3 kb,fun k hk => .inl hk⟩
 rw [de]
 exact h3.upd hp.upd fun b hb y => y ⟨(f8 b hb).symm,(f6 b hb).symm,(f5 b hb).symm,trivial⟩
end
end Go.Proofs.YtabbklpalbikdaaGreatDoor
end
