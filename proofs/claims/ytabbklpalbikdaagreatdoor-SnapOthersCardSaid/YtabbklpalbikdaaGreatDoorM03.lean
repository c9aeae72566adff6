/-
 35 texts,one behind the other;each says what it proves. Conditions: as each text says.
-/
import Derived.Test.YtabbklpalbikdaaGreatDoorM02
import Derived.Laws.IdiomCopy
import Derived.Test.YtabbklpalbikdaaGreatDoorM01
import Derived.Lib.ConvBytes
import Derived.Scope
set_option maxHeartbeats 32000000
set_option linter.unusedVariables false
set_option linter.unusedSimpArgs false
section
namespace Go.Pt
open Go.RowKit
theorem SmN.tail {P : Program} {N : Nat} {Γ : Env} {C : World → Prop} {Q : Exit → Act → World → Prop} {l : List Oper} (kk : Nat) (h : Wl (l.drop kk) P .seq l.toArray N Γ C Q) : SmN P l.toArray (List.range' kk (l.drop kk).length) N Γ C Q :=
 SmN.of (fun j => by simp) h
theorem run_eql_chan {P : Program} (w : World) {t e : TypeId} {dir : ChanDir} (a b : Option Nat) (ht : P.underlying t = some (.chan dir e)) :
  (binOp .eql t (.chan a) (.chan b)).run P w = .ok (.bool (a == b)) w := by
 have h : ∀ d : Nat,(Op.equalIn (d + 1) t (.chan a) (.chan b)).run P w = .ok (a == b) w := fun d => by
  simp [Op.equalIn,run_underlying ht]
 simp only [binOp]
 simp [Op.equal,Op.maxDepth,h 9999]
section
variable {P : Program} {md : Md} {N : Nat} {ops : Array Oper} {rest : List Oper} {Γ : Env} {C : World → Prop} {Q : Exit → Act → World → Prop} {d : Nat} {ty t u e : TypeId} {pos : String} {af : Array Edge}
theorem Wl.eqlC {x y : Operand} {a b : Option Nat} {r : Bool} {dir : ChanDir} (ht : P.underlying t = some (.chan dir e)) (hd : Nat.blt d N = true) (hx : ev Γ x = some (.chan a)) (hy : ev Γ y = some (.chan b)) (hr : (a == b) = r) (h : Wl rest P md ops N ((d,.bool r) :: Γ) C Q) : Wl (⟨some d,.binOp .eql t x y u,ty,pos,af,none⟩ :: rest) P md ops N Γ C Q :=
 Wl.val hd (fun c w ha _ => by subst hr;simp only [execOp,ha.ev hx,ha.ev hy,eqGuard_at_chan,pure_bind,Sem.run_bind,run_eql_chan w a b ht];rfl) h
end
end Go.Pt
namespace Go.Proofs.YtabbklpalbikdaaGreatDoor
open Go.RowKit Go.Pt
theorem chan_ne {w : World} {c b cap t : Nat} {l : List Value} {cs : Array Value} (h1 : ChanB w c cap l) (h2 : w.heap[b]? = some (.cells cs t (0,0))) : c ≠ b := by
 rintro rfl
 obtain ⟨s,r,h⟩ := h1
 rw [h] at h2
 cases h2
def letV (x : Int × List UInt8) : Value := .agg #[.int .i64 x.1,strV x.2]
def zLet : Value := .agg #[.int .i64 0,.string ⟨#[]⟩]
theorem pSend (pp pa : Nat) (cs : List Nat) (bx : Nat → List Value) (i ch : Nat) (x : Int × List UInt8) (w : World) (hP : PostS w pp pa cs bx) (hi : cs[i]? = some ch) (hx : 1 ≤ x.2.length ∧ x.2.length ≤ 16) :
  Calls Tryz.prog 80 #[.pointer (some ⟨pp,0,none⟩),.int .i64 i,letV x] w fun e w' => ((bx i).length < 4 ∧ e = .returned (.int .i64 0) ∧ PostS w' pp pa cs (fun j => if j = i then bx i ++ [letV x] else bx j) ∧ Upd (fun k => k = ch) w w') ∨ (4 ≤ (bx i).length ∧ e = .returned (.int .i64 16) ∧ Hp w [] w') := by
 have hP0 := hP
 have hs1 := strV_size x.2
 have hlts := hP.lt
 have hlc := (hP.2.1 i ch hi).lt
 have hd0 : decide (((strOf x.2).size : Int) < 1) = false := decide_eq_false kf
 have hd1 : decide (((strOf x.2).size : Int) > 16) = false := decide_eq_false kf
 refine enterN (args := [_,_,_]) (Γ := [(0,_),(1,_),(2,_)]) Tryz.func80 Tryz.ntmps80 rfl odq (.cons rfl (.cons rfl (.cons rfl .nil))) ?_
 refine StN.seq (StN.of ?_)
 repeat' first | refine Wl.assign rfl rfl ?_ | (apply Wl.boxA;exact rfl;exact rfl;intro c hc ho) | apply Wl.nil | apply St.region
 refine GtN.next (StN.seq (StN.of ?_))
 repeat' first | refine Wl.move rfl rfl ?_ | apply St.region
 apply Wl.callQ
 exact rfl
 (focus repeat constructor)
 ·intro wq hq
  exact hq.q (pBox pp pa cs bx i ch wq (hP0.upd hq.upd (fun y => y ⟨by simp only;omega,trivial⟩) (fun y => y ⟨by simp only;omega,trivial⟩) fun z hz y => y ⟨by have := hlts.2.2 z hz;simp only;omega,trivial⟩) hi)
 repeat' first | refine Wl.assign rfl rfl ?_ | apply Wl.nil
 refine GtN.next (StN.seq (StN.of ?_))
 repeat' first | (apply Wl.eqlC (r := false) chTy;exact rfl;exact rfl;exact rfl;exact rfl) | refine Wl.move rfl rfl ?_ | (apply Wl.on;exact rfl;exact rfl;exact k5) | (apply Wl.pickF;exact rfl;exact rfl;exact k5;exact rfl) | refine Wl.fieldAddrZ rfl rfl ?_ | (apply Wl.loadH;exact rfl;exact rfl;exact kd;exact rfl) | refine Wl.lss rfl rfl rfl ?_ | refine Wl.gtr rfl rfl rfl ?_ | refine Wl.lenS rfl rfl ?_ | apply Wl.nil | apply St.seq | apply St.region | (apply St.condF;exact rfl;exact k5) | apply St.skip | apply Gt.next
 refine GtN.next (StN.seq (StN.of ?_))
 repeat' first | refine Wl.move rfl rfl ?_ | (apply Wl.loadAH;exact rfl;exact rfl;exact kd;exact kd) | apply Wl.nil | apply St.seq | apply St.region | apply Gt.next
 refine GtN.next (GtN.base fun wz hz => StN.seq (StN.region ?_))
 have hcz : ChanB wz ch 4 (bx i) := (hP0.2.1 i ch hi).upd hz.upd fun y => y ⟨by simp only;omega,trivial⟩
 refine SmN.selSend (ch := .tmp 25) (x := .tmp 26) (t := 0) (v := letV x) (zv := zLet) (c := ch) (cap := 4) (l := bx i) rfl rfl rfl rfl (fun w' a ha => ?_) hcz ⟨by simp only;omega,trivial⟩ (fun hl w1 hc1 u1 => ?_) (fun hl => ?_)
 ·have e25 : a.eval (.tmp 25) = .chan (some ch) := ha.ev rfl
  have e26 : a.eval (.tmp 26) = letV x := ha.ev rfl
  simp [execOp,e25,e26,Go.Conc.scase,run_zero (P := Tryz.prog) (t := 78),zLet]
 ·refine SmN.tail 1 ?_
  simp only [List.drop_succ_cons,List.drop_zero]
  repeat' first | refine Wl.extract rfl rfl rfl ?_ | (apply Wl.eqlIs;exact rfl;exact rfl;exact rfl;exact kw) | apply Wl.nil
  refine GtN.next (StN.of ?_)
  repeat' first | refine Wl.assign rfl rfl ?_ | apply Wl.nil | apply St.seq | apply St.block | apply St.region | (apply St.condT;exact rfl;exact k5) | apply St.ret | apply Gt.next | apply Gt.inRet | (apply Gt.out1;exact rfl;exact rfl;intro w' hp)
  have of : ∀ k,k < w.heap.size → Off [⟨c,[.int .i64 x.1,strV x.2],78⟩] k := fun k hk => ⟨by simp only;omega,trivial⟩
  have u : Upd (fun k => k = ch) w w' := (hz.upd.comp u1 (T := fun k => k = ch) fun k hk hs => hs.elim (fun y => (y (of k hk)).elim) fun y => y.elim id fun y => (y (of k hk)).elim).comp hp.upd fun k hk hs => hs.elim id fun y => (y (of k hk)).elim
  obtain ⟨⟨cap,J,a,b⟩,hch,hj,r⟩ := hP
  refine .inl ⟨hl,rfl,⟨⟨cap,J,u.heap a fun e => chan_ne (hch i ch hi) a e.symm,u.heap b fun e => chan_ne (hch i ch hi) b e.symm⟩,fun j c' hj' => ?_,hj,r⟩,u⟩
  by_cases e : j = i
  ·subst e
   rw [hi] at hj'
   cases hj'
   show ChanB _ _ _ (ite _ _ _)
   rw [if_pos rfl]
   exact hc1.upd hp.upd fun y => y (of _ hlc)
  ·show ChanB _ _ _ (ite _ _ _)
   rw [if_neg e]
   exact (hch j c' hj').upd u fun e' => e (hj j i ch (e' ▸ hj') hi)
 ·refine SmN.tail 1 ?_
  simp only [List.drop_succ_cons,List.drop_zero]
  repeat' first | refine Wl.extract rfl rfl rfl ?_ | refine Wl.eql rfl rfl rfl ?_ | apply Wl.nil
  refine GtN.next (StN.of ?_)
  repeat' first | refine Wl.assign rfl rfl ?_ | apply Wl.nil | apply St.seq | apply St.block | apply St.region | (apply St.condF;exact rfl;exact k5) | apply St.ret | apply Gt.next | apply Gt.inRet | (apply Gt.out1;exact rfl;exact rfl;intro w' hp)
  exact .inr ⟨hl,rfl,Hp.drop (H := [⟨c,[.int .i64 x.1,strV x.2],78⟩]) ⟨hz.upd.trans hp.upd,hp.own,hp.apart⟩ k6⟩
theorem row_neT {w : World} {b e sz n c t : Nat} {v : Value} {xs : List Value} {cs : Array Value} (h1 : w.ownsRow b e sz v n xs) (h2 : w.heap[c]? = some (.cells cs t (0,0))) (he : t ≠ e) : ∀ k,v.ownBlock = some k → k ≠ c := row_neB h1 h2 he.symm
theorem MonS.off {w : World} {base : Nat} {I : Mi} {M : Mv2} (k : MonS w base I M) {b t : Nat} {cs : Array Value} (hb : w.heap[b]? = some (.cells cs t (0,0))) :
  (t ≠ 130 → I.m ≠ b) ∧ (t ≠ 133 → I.h ≠ b) ∧ (t ≠ 139 → I.d ≠ b) ∧ (t ≠ 210 → I.wd ≠ b) ∧ (t ≠ 44 → I.sa ≠ b) ∧ (t ≠ 255 → I.pp ≠ b) ∧ (t ≠ 232 → I.pa ≠ b) ∧ (t ≠ 231 → I.bd ≠ b) ∧ (t ≠ 9 → I.ia ≠ b) ∧ (t ≠ 156 → I.cM ≠ b) ∧ (∀ c ∈ I.cs,c ≠ b) ∧ (t ≠ 111 → ∀ c,M.lv.ownBlock = some c → c ≠ b) ∧ (t ≠ 70 → ∀ c,M.seen.ownBlock = some c → c ≠ b) := by
 obtain ⟨⟨wc,J1,wa,wb⟩,_⟩ := k.ward
 obtain ⟨⟨pc,J2,pa,pb⟩,hch,_⟩ := k.post
 obtain ⟨⟨bc,J3,ba,bb⟩,hlv,_⟩ := k.board
 refine ⟨fun h => (blk_ne hb k.mm h).symm,fun h => (blk_ne hb k.hart.2 h).symm,fun h => (blk_ne hb k.dd h).symm,fun h => (blk_ne hb wa h).symm,fun h => (blk_ne hb wb h).symm,fun h => (blk_ne hb pa h).symm,fun h => (blk_ne hb pb h).symm,fun h => (blk_ne hb ba h).symm,fun h => (blk_ne hb bb h).symm,fun h => (blk_ne hb k.mem h).symm,?_,fun h => row_neT hlv hb h,fun h => row_neT k.seen hb h⟩
 intro c hc
 obtain ⟨i,hi⟩ := List.mem_iff_getElem?.1 hc
 exact chan_ne (hch i c hi) hb
section
variable {w w' : World} {base : Nat} {I : Mi} {M : Mv2}
theorem MonS.lts (k : MonS w base I M) : I.m < w.heap.size ∧ I.h < w.heap.size ∧ I.d < w.heap.size ∧ I.wd < w.heap.size ∧ I.sa < w.heap.size ∧ I.pp < w.heap.size ∧ I.pa < w.heap.size ∧ I.bd < w.heap.size ∧ I.ia < w.heap.size ∧ I.cM < w.heap.size ∧ (∀ c ∈ I.cs,c < w.heap.size) ∧ (∀ c,M.lv.ownBlock = some c → c < w.heap.size) ∧ (∀ c,M.seen.ownBlock = some c → c < w.heap.size) :=
 ⟨(k.lt _ (.inl rfl)).2,(k.lt _ (.inr (.inl rfl))).2,(k.lt _ (.inr (.inr (.inl rfl)))).2,k.ward.lt.1,k.ward.lt.2,k.post.lt.1,k.post.lt.2.1,k.board.lt.1,k.board.lt.2.1,lt_of_block k.mem,k.post.lt.2.2,fun c h => (k.board.lt.2.2 c h).2,fun c h => (k.seen.ge c h).2⟩
theorem MonS.set {L' : List Sta} {t' : Int} {sa' : Nat} (k : MonS w base I M) (hW : WardS w' I.wd sa' L' t') (hl : L'.length = M.L.length) (hsa : base ≤ sa') (u : Upd (fun b => b = I.wd ∨ w.heap.size ≤ b) w w') : MonS w' base {I with sa := sa'} {M with L := L',t := t'} := by
 obtain ⟨⟨wc,J1,wa,wb⟩,_⟩ := k.ward
 obtain ⟨n1,n2,n3,n4,n5,n6,n7,n8,n9,n10,n11,n12,n13⟩ := k.off wa
 obtain ⟨l1,l2,l3,l4,l5,l6,l7,l8,l9,l10,l11,l12,l13⟩ := k.lts
 obtain ⟨g1,g2,g3,g4,g5,g6,g7,g8,g9,g10,g11⟩ := k.ge
 exact {
  mm := u.heap k.mm fun h => h.elim (n1 ku) fun h => absurd h (Nat.not_le.2 l1)
  dd := u.heap k.dd fun h => h.elim (n3 ku) fun h => absurd h (Nat.not_le.2 l3)
  ward := hW
  post := k.post.upd u (fun h => h.elim (n6 ku) fun h => absurd h (Nat.not_le.2 l6)) (fun h => h.elim (n7 ku) fun h => absurd h (Nat.not_le.2 l7)) fun c hc h => h.elim (n11 c hc) fun h => absurd h (Nat.not_le.2 (l11 c hc))
  board := k.board.upd u (fun h => h.elim (n8 ku) fun h => absurd h (Nat.not_le.2 l8)) (fun h => h.elim (n9 ku) fun h => absurd h (Nat.not_le.2 l9)) fun c hc h => h.elim (n12 ku c hc) fun h => absurd h (Nat.not_le.2 (l12 c hc))
  mem := u.heap k.mem fun h => h.elim (n10 ku) fun h => absurd h (Nat.not_le.2 l10)
  hart := k.hart.upd u fun h => h.elim (n2 ku) fun h => absurd h (Nat.not_le.2 l2)
  seen := ownsRow_upd k.seen u fun c hc h => h.elim (n13 ku c hc) fun h => absurd h (Nat.not_le.2 (l13 c hc))
  rg := k.rg
  len := ⟨k.len.1.trans hl.symm,k.len.2.trans hl.symm⟩
  ge := ⟨g1,g2,g3,g4,hsa,g6,g7,g8,g9,g10,g11⟩ }
theorem MonS.feed {ins' : List (List UInt8)} (k : MonS w base I M) (hB : BoardS w' base I.bd I.ia M.lv M.ll M.used ins') (hl : ins'.length = M.ins.length) (u : Upd (fun b => b = I.ia) w w') : MonS w' base I {M with ins := ins'} := by
 obtain ⟨⟨bc,J3,ba,bb⟩,hlv,_⟩ := k.board
 obtain ⟨n1,n2,n3,n4,n5,n6,n7,n8,n9,n10,n11,n12,n13⟩ := k.off bb
 exact {
  mm := u.heap k.mm (n1 ku)
  dd := u.heap k.dd (n3 ku)
  ward := k.ward.upd u (n4 ku) (n5 ku)
  post := k.post.upd u (n6 ku) (n7 ku) n11
  board := hB
  mem := u.heap k.mem (n10 ku)
  hart := k.hart.upd u (n2 ku)
  seen := ownsRow_upd k.seen u (n13 ku)
  rg := k.rg
  len := ⟨k.len.1,hl.trans k.len.2⟩
  ge := k.ge }
end
end Go.Proofs.YtabbklpalbikdaaGreatDoor
end
section
namespace Go.Pt
open Go.RowKit
theorem run_copy_off {P : Program} (w : World) {dT sT ty elem : TypeId} {c o n cap m cap' bt : Nat} {a : Addr} {cs xs : List Value} (hu : P.underlying dT = some (.slice elem)) (hs : (P.info? elem).map (·.size) = some 1) (hm : xs.length = m) (hmn : m ≤ n) (hnc : o + n ≤ cs.length)
  (hsrc : ∀ j v,xs[j]? = some v → w.cell? (a.add j) = some v) (hb : w.heap[c]? = some (.cells cs.toArray bt (0,0))) (h1 : ∀ v ∈ xs,v.oneCell' = true) :
  (Builtin.copy_ #[dT,sT] ty #[.slice (some ⟨c,o,none⟩) n cap,.slice (some a) m cap']).run P w = .ok (goInt xs.length) (w.setRow c (cs.take o ++ xs ++ cs.drop (o + xs.length)).toArray) := by
 have hl := run_loadCells_list (P := P) w a xs hsrc
 have hst := run_storeCells_at P c o bt xs 0 cs.toArray w hb zf h1
 simp only [Nat.add_zero] at hst
 have hmin : Nat.min m n = xs.length := by rw [hm];exact Nat.min_eq_left hmn
 cases hq : P.info? elem with
 | none => simp [hq] at hs
 | some i =>
  have hi : i.size = 1 := by simpa [hq] using hs
  simp [Builtin.copy_,run_underlying hu,Builtin.lenOf,Builtin.firstCells,sizeOf,typeInfo,hq,hi,hmin,hl]
  simp at hst
  rw [hst]
  simp
section
variable {P : Program} {md : Md} {N : Nat} {ops : Array Oper} {rest : List Oper} {Γ : Env} {C : World → Prop} {Q : Exit → Act → World → Prop} {d : Nat} {ty : TypeId} {pos : String} {af : Array Edge}
theorem Wl.copyO {w0 : World} {H H' : List Blk} {dT sT e by_ c o n cap bt : Nat} {y : Value} {l : List UInt8} {cs cs' : List Value} {p q : Operand} [ht : TyD P dT (.slice e)] [hz : TyS P e 1 by_]
  (hd : Nat.blt d N = true) (hx : ev Γ p = some (.slice (some ⟨c,o,none⟩) n cap)) (hy : ev Γ q = some y) (hs : HSet c cs cs' bt H H') (he : cs.take o ++ byteCells l ++ cs.drop (o + l.length) = cs') (hl : l.length ≤ n) (hn : o + n ≤ cs.length) (hb : ∀ w,Hp w0 H w → Bs w y l)
  (h : Wl rest P .seq ops N ((d,.int .i64 l.length) :: Γ) (Hp w0 H') Q) : Wl (⟨some d,.call { callee := .builtin .copy,args := #[p,q],argTypes := #[dT,sT] },ty,pos,af,none⟩ :: rest) P .seq ops N Γ (Hp w0 H) Q :=
 Wl.eff fun a w ha hw => by
  subst he
  obtain ⟨ad,cap',rfl,h1,h2⟩ := (hb w hw).shape
  have hsz : (P.info? e).map (·.size) = some 1 := by
   have := hz.out
   cases hq : P.info? e with
   | none => simp [hq] at this
   | some i => simp [hq] at this ⊢;exact this.1
  have hcell := hw.own.at hs.mem
  by_cases hne : l = []
  ·subst hne
   have hr := run_copy_none (P := P) w dT sT ty e (some ⟨c,o,none⟩) ad n cap 0 cap' ht.out hsz (Nat.zero_min n)
   refine ⟨.int .i64 0,w,.inl ?_,h.elim _ _ (ha.put hd _) (hw.hset hs (Upd.refl _ _) ?_)⟩
   ·simp only [execOp,resolve,invoke,builtin,ha.ev hx,ha.ev hy]
    simp [ha.ev hx,ha.ev hy] 
    simp [hr,goInt]
   ·simpa [byteCells] using hcell
  ·obtain ⟨g,og,e',hc'⟩ := (hb w hw).cells hne
   cases e'
   have hr := run_copy_off (P := P) w (dT := dT) (sT := sT) (ty := ty) (elem := e) (c := c) (o := o) (n := n) (cap := cap) (m := l.length) (cap' := cap') (bt := bt) (a := ⟨g,og,none⟩) (cs := cs) (xs := byteCells l) ht.out hsz (byteCells_length l) hl hn (fun j v hj => by
    obtain ⟨h1,h2⟩ := List.getElem?_eq_some_iff.1 hj
    rw [byteCells_length] at h1
    rw [addLit,hc' j h1,← h2]
    simp [byteCells]) hcell (fun v hv => by
    simp only [byteCells,List.mem_map] at hv
    obtain ⟨b,_,rfl⟩ := hv
    rfl)
   rw [byteCells_length] at hr
   refine ⟨.int .i64 l.length,w.setRow c (cs.take o ++ byteCells l ++ cs.drop (o + l.length)).toArray,.inl ?_,h.elim _ _ (ha.put hd _) (hw.hset hs ⟨rfl,rfl,rfl,by simp,fun k hk hne => ?_⟩ ?_)⟩
   ·simp only [execOp,resolve,invoke,builtin,ha.ev hx,ha.ev hy]
    simp [ha.ev hx,ha.ev hy]
    simp [hr,goInt]
   ·exact setRow_other w c k _ hne
   ·exact setRow_heap w c _ _ bt _ hcell
theorem Wl.sliceArr3 {t e sz by_ n : TypeId} {x lo hi : Operand} {b o : Nat} {k k' : IntKind} {i j : Int} (l h' : Nat) [ht : TyD P t (.array n e)] [TyS P e sz by_] (hd : Nat.blt d N = true) (hx : ev Γ x = some (.pointer (some ⟨b,o,none⟩))) (hlo : ev Γ lo = some (.int k i)) (hhi : ev Γ hi = some (.int k' j)) (ei : i = (l : Int)) (ej : j = (h' : Int)) (h1 : l ≤ h') (h2 : h' ≤ n) (h3 : l < n)
  (h : Wl rest P md ops N ((d,.slice (some ⟨b,o + l * sz,none⟩) (h' - l) (n - l)) :: Γ) C Q) : Wl (⟨some d,.slice t x (some lo) (some hi) none,ty,pos,af,none⟩ :: rest) P md ops N Γ C Q :=
 Wl.val hd (fun a w ha _ => by
  subst ei ej
  have e1 : ∀ c,(Instr.sliceBound (.int k (l : Int)) h' c).run P w = .ok l w := fun c => by
   simp only [Instr.sliceBound,asIntOf,pure_bind]
   rw [if_pos kf]
   simp
  have e2 : ∀ c,(Instr.sliceBound (.int k' (h' : Int)) n c).run P w = .ok h' w := fun c => by
   simp only [Instr.sliceBound,asIntOf,pure_bind]
   rw [if_pos kf]
   simp
  have hnl : ¬ n = l := Nat.ne_of_gt h3
  simp [execOp,ha.ev hx,ha.ev hlo,ha.ev hhi,Instr.sliceAt,run_underlying ht.out,Instr.sureAddr,Instr.sliceBounds,e1,e2,run_size (P := P) (t := e),Addr.add,hnl]) h
theorem Wl.sliceArr1 {t e sz by_ n : TypeId} {x lo : Operand} {b o : Nat} {k : IntKind} {i : Int} (l : Nat) [ht : TyD P t (.array n e)] [TyS P e sz by_] (hd : Nat.blt d N = true) (hx : ev Γ x = some (.pointer (some ⟨b,o,none⟩))) (hlo : ev Γ lo = some (.int k i)) (ei : i = (l : Int)) (h3 : l < n)
  (h : Wl rest P md ops N ((d,.slice (some ⟨b,o + l * sz,none⟩) (n - l) (n - l)) :: Γ) C Q) : Wl (⟨some d,.slice t x (some lo) none none,ty,pos,af,none⟩ :: rest) P md ops N Γ C Q :=
 Wl.val hd (fun a w ha _ => by
  subst ei
  have e1 : ∀ c,(Instr.sliceBound (.int k (l : Int)) n c).run P w = .ok l w := fun c => by
   simp only [Instr.sliceBound,asIntOf,pure_bind]
   rw [if_pos kf]
   simp
  have hnl : ¬ n = l := Nat.ne_of_gt h3
  simp [execOp,ha.ev hx,ha.ev hlo,Instr.sliceAt,run_underlying ht.out,Instr.sureAddr,Instr.sliceBounds,e1,run_size (P := P) (t := e),Addr.add,hnl]) h
end
end Go.Pt
namespace Go.Proofs.YtabbklpalbikdaaGreatDoor
open Go.RowKit Go.Pt
def FB (f : Nat → Int) : Prop := ∀ j,0 ≤ f j ∧ f j < 256
def memL (f : Nat → Int) (o n : Nat) : List UInt8 := (List.range n).map fun j => UInt8.ofNat (f (o + j)).toNat
theorem memL_len (f : Nat → Int) (o n : Nat) : (memL f o n).length = n := by simp [memL]
theorem memL_cells {f : Nat → Int} (hf : FB f) (o n j : Nat) (hj : j < n) : (byteCells (memL f o n))[j]? = some (.int .u8 (f (o + j))) := by
 have h := hf (o + j)
 simp only [byteCells,memL,List.map_map,List.getElem?_map,List.getElem?_range hj,Option.map_some,Function.comp]
 rw [show ((UInt8.ofNat (f (o + j)).toNat).toNat : Int) = f (o + j) by
  rw [UInt8.toNat_ofNat']
  omega]
def putF (f : Nat → Int) (o : Nat) (l : List UInt8) : Nat → Int := fun j => if o ≤ j then (match l[j - o]? with | some b => (b.toNat : Int) | none => f j) else f j
theorem putF_cells (f : Nat → Int) (o : Nat) (l : List UInt8) (h : o + l.length ≤ 65536) : (memC f).take o ++ byteCells l ++ (memC f).drop (o + l.length) = memC (putF f o l) := by
 apply List.ext_getElem?
 intro j
 by_cases hj : j < 65536
 ·rw [memC_get hj]
  by_cases h1 : j < o
  ·rw [List.append_assoc,List.getElem?_append_left (by rw [List.length_take,memC_len];omega),List.getElem?_take,if_pos h1,memC_get hj,putF,if_neg kf]
  ·by_cases h2 : j < o + l.length
   ·rw [List.getElem?_append_left (by rw [List.length_append,List.length_take,memC_len,byteCells_length];omega),List.getElem?_append_right (by rw [List.length_take,memC_len];omega),List.length_take,memC_len,show min o 65536 = o by omega]
    rw [putF,if_pos kf]
    obtain ⟨b,hb⟩ : ∃ b,l[j - o]? = some b := ⟨_,List.getElem?_eq_getElem kf⟩
    rw [hb]
    simp [byteCells,hb]
   ·rw [List.getElem?_append_right (by rw [List.length_append,List.length_take,memC_len,byteCells_length];omega),List.getElem?_drop,List.length_append,List.length_take,memC_len,byteCells_length,show o + l.length + (j - (min o 65536 + l.length)) = j by omega,memC_get hj,putF,if_pos kf,List.getElem?_eq_none kf]
 ·rw [List.getElem?_eq_none (by simp only [List.length_append,List.length_take,List.length_drop,memC_len,byteCells_length];omega),List.getElem?_eq_none (by rw [memC_len];omega)]
theorem putF_FB {f : Nat → Int} (hf : FB f) (o : Nat) (l : List UInt8) : FB (putF f o l) := fun j => by
 unfold putF
 split
 ·split
  ·rename_i b _
   have := b.toNat_lt
   omega
  ·exact hf j
 ·exact hf j
theorem mgetX (c : Nat) (f : Nat → Int) (at_ n : Int) (w : World) (hc : memH w c f) (hf : FB f) (ha : 0 ≤ at_ ∧ at_ < 4294967296) (hn : 1 ≤ n ∧ n < 4294967296) (hi : inM at_ n) :
  Calls Tryz.prog 24 #[.pointer (some ⟨c,0,none⟩),.int .u32 at_,.int .u32 n] w fun e w' => ∃ v,e = .returned (.tuple #[v,.int .i64 0]) ∧ Bs w' v (memL f (at_ - 2147483648).toNat n.toNat) ∧ (∀ k,v.ownBlock = some k → w.heap.size ≤ k) ∧ Upd (fun k => w.heap.size ≤ k) w w' := by
 unfold memH at hc
 obtain ⟨i1,i2⟩ := id hi
 have hd : decide (2147483648 ≤ at_ ∧ at_ + n ≤ 2147483648 + 65536) = true := decide_eq_true hi
 have hd2 : (!decide (2147483648 ≤ at_ ∧ at_ + n ≤ 2147483648 + 65536)) = false := by rw [hd];rfl
 obtain ⟨o,ho⟩ : ∃ o : Nat,at_ = 2147483648 + o := ⟨(at_ - 2147483648).toNat,by omega⟩
 obtain ⟨m,hm⟩ : ∃ m : Nat,n = m := ⟨n.toNat,by omega⟩
 subst ho hm
 rw [show (2147483648 + (o : Int) - 2147483648).toNat = o by omega,Int.toNat_natCast]
 have e1 : IntKind.u32.wrap (2147483648 + (o : Int) - 2147483648) = (o : Int) := by rw [IntKind.wrap_u32];omega
 have e2 : IntKind.u32.wrap ((o : Int) + (m : Int)) = ((o + m : Nat) : Int) := by rw [IntKind.wrap_u32];omega
 have hl : (byteCells (memL f o m)).length = m * 1 := by rw [byteCells_length,memL_len,Nat.mul_one]
 refine enter (args := [_,_,_]) (Γ := [(0,_),(1,_),(2,_)]) Tryz.func24 Tryz.ntmps24 rfl odq (.cons rfl (.cons rfl (.cons rfl .nil))) ?_
 repeat' first | refine Wl.move rfl rfl ?_ | refine Wl.assign rfl rfl ?_ | apply Wl.nil | apply St.seq | apply St.region | apply Gt.next
 apply Wl.callQ
 exact rfl
 (focus repeat constructor)
 ·intro wq hq
  exact hq.q (has_any c (2147483648 + (o : Int)) m wq ha kf)
 repeat' first | (apply Wl.sliceArr3 o (o + m);exact rfl;exact rfl;exact rfl;exact rfl;exact e1;(first | exact e2 | (rw [e1];exact e2));omega;omega;omega) | refine Wl.move rfl rfl ?_ | refine Wl.nilCheck rfl rfl ?_ | refine Wl.not rfl rfl ?_ | refine Wl.fieldAddr0 rfl rfl ?_ | refine Wl.add rfl rfl rfl ?_ | refine Wl.sub' rfl rfl rfl ?_ | apply Wl.nil | apply St.seq | apply St.region | (apply St.condF;exact rfl;exact k5) | apply St.skip | apply Gt.next
 apply Wl.append (base := w.heap.size) (n := 0) (xs := []) (news := byteCells (memL f o m)) (v := .slice none 0 0)
 ·exact rfl
 ·exact rfl
 ·exact rfl
 ·exact World.ownsRow_nil w _ _ _
 ·rw [byteCells_length,memL_len];omega
 ·intro wq hq j u hj
  have hjm : j < m := by have := (List.getElem?_eq_some_iff.1 hj).1;rw [byteCells_length,memL_len] at this;exact this
  rw [memL_cells hf o m j hjm] at hj
  cases hj
  rw [addLit]
  exact hq.old (cell_of hc (by rw [Nat.zero_add,Nat.mul_one];exact memC_get kf)) trivial
 ·exact fun k hk => by cases hk
 ·rw [List.all_eq_true]
  intro v hv
  simp only [byteCells,List.mem_map] at hv
  obtain ⟨b,_,rfl⟩ := hv
  rfl
 ·exact rfl
 ·decide
 ·unfold maxLen;omega
 ·omega
 ·exact Nat.le_refl _
 intro v1 w1 h1 u1 h3 h4
 have g1 := h1.ge
 have b1 : Bs w1 v1 (memL f o m) := by
  have h := Sv.ofOwn h1
  rw [List.nil_append,Nat.zero_add,show o + m - o = m by omega] at h
  unfold Bs
  rw [memL_len]
  exact h
 repeat' first | refine Wl.assign rfl rfl ?_ | apply Wl.nil | apply St.ret | apply Gt.next | (apply Gt.out2;exact rfl;exact rfl;exact rfl;intro w' hp)
 have hu1 : Upd (fun k => w.heap.size ≤ k) w w1 := u1.mono fun k _ hk => hk.elim (fun e => by cases e) fun y => absurd trivial y
 exact ⟨v1,rfl,b1.upd hp.upd fun k _ _ _ y => y trivial,fun k hk => (g1 k hk).1,hu1.comp hp.upd fun k hk hs => hs.elim id fun y => absurd trivial y⟩
theorem mputX1 (c : Nat) (f : Nat → Int) (at_ : Int) (v : Value) (l : List UInt8) (w : World) (hc : memH w c f) (hv : Bs w v l) (hvc : ∀ k,v.ownBlock = some k → l ≠ [] → k ≠ c) (ha : 0 ≤ at_ ∧ at_ < 4294967296) (hi : inM at_ l.length) (ho1 : at_ < 2147483648 + 65536) :
  Calls Tryz.prog 53 #[.pointer (some ⟨c,0,none⟩),.int .u32 at_,v] w fun e w' => e = .returned (.int .i64 0) ∧ memH w' c (putF f (at_ - 2147483648).toNat l) ∧ Upd (fun k => k = c) w w' := by
 unfold memH at hc
 obtain ⟨i1,i2⟩ := id hi
 obtain ⟨ad,cap,rfl,hs1,hs2⟩ := hv.shape
 have hd : decide (2147483648 ≤ at_ ∧ at_ + (l.length : Int) ≤ 2147483648 + 65536) = true := decide_eq_true hi
 have hd2 : (!decide (2147483648 ≤ at_ ∧ at_ + (l.length : Int) ≤ 2147483648 + 65536)) = false := by rw [hd];rfl
 obtain ⟨o,ho⟩ : ∃ o : Nat,at_ = 2147483648 + o := ⟨(at_ - 2147483648).toNat,by omega⟩
 subst ho
 rw [show (2147483648 + (o : Int) - 2147483648).toNat = o by omega]
 have e0 : IntKind.u64.wrap (l.length : Int) = (l.length : Int) := by rw [IntKind.wrap_u64];omega
 have e3 : IntKind.u32.wrap (l.length : Int) = (l.length : Int) := by rw [IntKind.wrap_u32];omega
 have hd0 : decide ((l.length : Int) > 65536) = false := decide_eq_false kf
 have e1 : IntKind.u32.wrap (2147483648 + (o : Int) - 2147483648) = (o : Int) := by rw [IntKind.wrap_u32];omega
 refine enter (args := [_,_,_]) (Γ := [(0,_),(1,_),(2,_)]) Tryz.func53 Tryz.ntmps53 rfl odq (.cons rfl (.cons rfl (.cons rfl .nil))) ?_
 repeat' first | refine Wl.move rfl rfl ?_ | refine Wl.assign rfl rfl ?_ | (apply Wl.on;exact rfl;exact rfl;exact k5) | refine Wl.gtr rfl rfl rfl ?_ | (refine Wl.convU64 rfl rfl ?_ ?_;constructor <;> omega) | (refine Wl.convU32 rfl rfl ?_ ?_;constructor <;> omega) | refine Wl.len rfl rfl ?_ | apply Wl.nil | apply St.seq | apply St.region | apply Gt.next
 apply Wl.callQ
 exact rfl
 (focus repeat constructor)
 ·intro wq hq
  exact hq.q (has_any c (2147483648 + (o : Int)) l.length wq ha kf)
 repeat' first | (apply Wl.sliceArr1 o;exact rfl;exact rfl;exact rfl;exact e1;omega) | refine Wl.move rfl rfl ?_ | (apply Wl.on;exact rfl;exact rfl;exact k5) | refine Wl.nilCheck rfl rfl ?_ | (apply Wl.pickF;exact rfl;exact rfl;exact k5;exact rfl) | refine Wl.not rfl rfl ?_ | refine Wl.fieldAddr0 rfl rfl ?_ | refine Wl.sub' rfl rfl rfl ?_ | apply Wl.nil | apply St.seq | apply St.region | (apply St.condF;exact rfl;exact k5) | apply St.skip | apply Gt.next
 refine Wl.cls (fun _ h' => Hp.open h' hc trivial) ?_
 apply Wl.copyO (l := l) (cs' := memC (putF f o l))
 ·exact rfl
 ·exact rfl
 ·exact rfl
 ·exact kd
 ·rw [show 0 + o * 1 = o by omega];exact putF_cells f o l kf
 ·omega
 ·rw [memC_len];omega
 ·exact fun wq hq => hv.upd hq.upd fun k hk _ hne y => y ⟨fun e => hvc k hk hne e.symm,trivial⟩
 repeat' first | refine Wl.assign rfl rfl ?_ | apply Wl.nil | apply St.seq | apply St.region | apply St.ret | apply Gt.next | (apply Gt.out1;exact rfl;exact rfl;intro w' hp)
 exact ⟨rfl,hp.own.at (.head _),Hp.turned hp⟩
end Go.Proofs.YtabbklpalbikdaaGreatDoor
end
section
namespace Go.Pt
theorem Mt.eff3 {P : Program} {ops : Array Oper} {N n : Nat} {Γ : Env} {C D : World → Prop} {Q : Act → World → Prop} {listed : Array Bool} {i j k : Nat} {o o' o'' : Oper} (hr : Region.ready .any ops listed = [i,j,k]) (hi : ops[i]? = some o) (hj : ops[j]? = some o') (hk : ops[k]? = some o'')
  (h : Wl [o] P .seq ops N Γ D (MtE P ops C Q n (listed.setIfInBounds i true))) (h' : Wl [o'] P .seq ops N Γ D (MtE P ops C Q n (listed.setIfInBounds j true))) (h'' : Wl [o''] P .seq ops N Γ D (MtE P ops C Q n (listed.setIfInBounds k true))) : Mt P ops N (n + 1) listed Γ D C Q := fun a w ha hD hC => by
 refine ⟨hC,fun e => qh,fun x hx => ?_⟩
 rw [hr] at hx
 simp only [List.mem_cons,List.not_mem_nil,or_false] at hx
 rcases hx with rfl | rfl | rfl
 ·exact Mt.op hi h a w ha hD
 ·exact Mt.op hj h' a w ha hD
 ·exact Mt.op hk h'' a w ha hD
end Go.Pt
namespace Go.Proofs.YtabbklpalbikdaaGreatDoor
open Go.RowKit Go.Pt
section
variable (base bd ia : Nat) (lv : Value) (ll : List (Int × List UInt8)) (used : Int) (ins : List (List UInt8)) (who : Nat) (s : List UInt8) (w : World)
theorem bSay (hB : BoardS w base bd ia lv ll used ins) (hwho : who < ins.length) (hs0 : s ≠ []) (hs : s.length ≤ 64) (hu : 0 ≤ used ∧ used ≤ 256) (hf : used + s.length ≤ 256) (hll : ll.length ≤ 1000) (hb : base ≤ w.heap.size) :
  Calls Tryz.prog 81 #[.pointer (some ⟨bd,0,none⟩),.int .i64 who,strV s] w fun e w' => ∃ lv',e = .returned (.int .i64 0) ∧ BoardS w' base bd ia lv' (ll ++ [((who : Int),s)]) (used + s.length) ins ∧ Upd (fun k => k = bd ∨ lv.ownBlock = some k ∨ w.heap.size ≤ k) w w' ∧ (∀ k,lv'.ownBlock = some k → lv.ownBlock = some k ∨ w.heap.size ≤ k) := by
 have hB0 := hB
 have hwl : who < ins.length := hwho
 obtain ⟨⟨cap,J,a,b⟩,hr,r1,r2⟩ := hB
 have p1 : w.cell? ⟨bd,1,none⟩ = some (.int .i64 used) := cell_of a rfl
 have hs1 := strV_size s
 have hd0 : decide (((strOf s).size : Int) > 64) = false := decide_eq_false kf
 have hd1 : decide (used + ((strOf s).size : Int) > 256) = false := decide_eq_false kf
 have hd2 : decide (s ≠ []) = true := decide_eq_true hs0
 have hne : bd ≠ ia := blk_ne a b
 have hlb : bd < w.heap.size := lt_of_block a
 have hla : ia < w.heap.size := lt_of_block b
 have hlo : ∀ k,lv.ownBlock = some k → k ≠ bd ∧ k ≠ ia := fun k hk => (hr.heap hk).elim fun _ hg => ⟨blk_ne hg a,blk_ne hg b⟩
 refine enter (args := [_,_,_]) (Γ := [(0,_),(1,_),(2,_)]) Tryz.func81 Tryz.ntmps81 rfl odq (.cons rfl (.cons rfl (.cons rfl .nil))) ?_
 repeat' first | refine Wl.move rfl rfl ?_ | refine Wl.assign rfl rfl ?_ | apply Wl.nil | apply St.seq | apply St.block | apply St.region | apply Gt.next
 apply Wl.callQ
 exact rfl
 (focus repeat constructor)
 ·intro wq hq
  exact hq.q (bHas base bd ia lv ll used ins who wq (hB0.upd hq.upd nt0 nt0 fun _ _ y => y trivial) hwl)
 repeat' first | (apply Wl.loadO;exact rfl;exact rfl;exact zs;exact km) | (apply Wl.neqSB (p := s) (q := []);exact rfl;exact rfl;exact rfl) | refine Wl.move rfl rfl ?_ | refine Wl.assign rfl rfl ?_ | (apply Wl.on;exact rfl;exact rfl;exact k5) | refine Wl.nilCheck rfl rfl ?_ | (apply Wl.pickF;exact rfl;exact rfl;exact k5;exact rfl) | refine Wl.not rfl rfl ?_ | refine Wl.fieldAddrZ rfl rfl ?_ | refine Wl.gtr rfl rfl rfl ?_ | (refine Wl.addI rfl rfl rfl ?_ ?_;constructor <;> omega) | refine Wl.lenS rfl rfl ?_ | apply Wl.nil | apply St.seq | apply St.region | (apply St.condT;exact rfl;exact k5) | (apply St.condF;exact rfl;exact k5) | apply Gt.next
 refine St.cls (fun _ h' => Hp.open h' a trivial) ?_
 refine St.tree (fun _ => True) mixed (fun _ h' => ⟨Hp.drew h',trivial⟩) ?_
 refine Mt.pm 0 ?_
 refine Mt.pm 1 ?_
 refine Mt.pm 2 ?_
 refine Mt.pm 6 ?_
 refine Mt.pm 7 ?_
 refine Mt.pm 11 ?_
 refine Mt.pm 15 ?_
 refine Mt.pn 3 ?_
 refine Mt.pu 8 ?_
 apply Wl.buildS;exact rfl;exact kh;exact kb;apply Wl.nilB
 refine Mt.pn 12 ?_
 refine Mt.pu 16 ?_
 refine Wl.lenS rfl rfl (Wl.nilB ?_)
 refine Mt.pf 4 ?_
 refine Mt.pz 13 ?_
 refine Mt.eff3 (i := 5) (j := 9) (k := 14) ka kc kc kc ?_ ?_ ?_
 ·repeat' first | (apply Wl.loadH;exact rfl;exact rfl;exact kd;exact rfl) | apply Wl.nil
  refine Mt.backE (fun _ _ => trivial) ?_
  refine Mt.eff2 (i := 9) (j := 14) ka kc kc ?_ ?_
  ·repeat' first | (apply Wl.lit;exact rfl;exact kh;exact rfl;exact rfl;exact ke;intro c hc ho) | apply Wl.nil
   refine Mt.backE (fun _ _ => trivial) ?_
   refine Mt.eff2 (i := 10) (j := 14) ka kc kc ?_ ?_
   ·apply Wl.appendT (base := base) (n := ll.length) (m := 1) (sz := 2) (e := 111) (xs := (ll.map lineC).flatten)
    ·exact rfl
    ·exact rfl
    ·exact rfl
    ·assumption
    ·exact rfl
    ·exact hr
    ·exact fun k hk => ⟨fun e => (hlo k hk).1 e.symm,trivial⟩
    ·exact rfl
    ·exact rfl
    ·decide
    ·unfold maxLen;omega
    ·omega
    ·omega
    intro v' w5 ho5 u5 _ hoff5
    have hov := ho5.one
    have s5 := u5.size
    apply Wl.nil
    refine Mt.backE (fun _ _ => trivial) ?_
    refine Mt.e1 14 ?_
    repeat' first | (apply Wl.loadH;exact rfl;exact rfl;exact kd;exact rfl) | apply Wl.nil
    refine Mt.backE (fun _ _ => trivial) ?_
    refine Mt.pu 17 ?_
    refine Wl.addI rfl rfl rfl ?_ ?_;constructor <;> omega;apply Wl.nilB
    refine Mt.pn 18 ?_
    refine Mt.pf 19 ?_
    refine Mt.e1 20 ?_
    apply Wl.store
    ·exact rfl
    ·exact rfl
    ·first | exact hov | exact rfl
    ·exact kd
    ·exact kg
    apply Wl.nil
    refine Mt.backE (fun _ _ => trivial) ?_
    refine Mt.pn 21 ?_
    refine Mt.pz 22 ?_
    refine Mt.e1 23 ?_
    apply Wl.store
    ·exact rfl
    ·exact rfl
    ·first | exact hov | exact rfl
    ·exact kd
    ·exact kg
    apply Wl.nil
    refine Mt.backE (fun _ _ => trivial) ?_
    refine Mt.toGt ka ?_
    repeat' first | refine Wl.assign rfl rfl ?_ | apply Wl.nil | apply St.seq | apply St.region | apply St.ret | apply Gt.next | apply Gt.inNormal | (apply Gt.out1;exact rfl;exact rfl;intro w' hp)
    have b5 := u5.heap b fun h => by rcases h with h | h;exact (hlo _ h).2 rfl;exact h ⟨hne,trivial⟩
    refine ⟨v',rfl,⟨⟨cap,J,by rw [← hs1];exact hp.own.at (.head _),hp.upd.heap b5 fun y => y ⟨hne,trivial⟩⟩,?_,r1,r2⟩,?_,fun k hk => (hoff5 k hk).2⟩
    ·have h := ownsRow_upd ho5 hp.upd fun k hk y => y (hoff5 k hk).1
     rw [List.length_append,List.map_append,List.flatten_append]
     exact h
    ·exact u5.comp hp.upd fun k hk hs => by
      rcases hs with (h | h) | h
      ·exact .inr (.inl h)
      ·exact .inl (Classical.byContradiction fun hn => h ⟨fun e => hn e.symm,trivial⟩)
      ·exact .inl (Classical.byContradiction fun hn => h ⟨fun e => hn e.symm,trivial⟩)
   ·repeat' first | (apply Wl.loadH;exact rfl;exact rfl;exact kd;exact rfl) | apply Wl.nil
    refine Mt.backE (fun _ _ => trivial) ?_
    refine Mt.pu 17 ?_
    refine Wl.addI rfl rfl rfl ?_ ?_;constructor <;> omega;apply Wl.nilB
    refine Mt.e1 10 ?_
    apply Wl.appendT (base := base) (n := ll.length) (m := 1) (sz := 2) (e := 111) (xs := (ll.map lineC).flatten)
    ·exact rfl
    ·exact rfl
    ·exact rfl
    ·assumption
    ·exact rfl
    ·exact hr
    ·exact fun k hk => ⟨fun e => (hlo k hk).1 e.symm,trivial⟩
    ·exact rfl
    ·exact rfl
    ·decide
    ·unfold maxLen;omega
    ·omega
    ·omega
    intro v' w5 ho5 u5 _ hoff5
    have hov := ho5.one
    have s5 := u5.size
    apply Wl.nil
    refine Mt.backE (fun _ _ => trivial) ?_
    refine Mt.pn 18 ?_
    refine Mt.pf 19 ?_
    refine Mt.e1 20 ?_
    apply Wl.store
    ·exact rfl
    ·exact rfl
    ·first | exact hov | exact rfl
    ·exact kd
    ·exact kg
    apply Wl.nil
    refine Mt.backE (fun _ _ => trivial) ?_
    refine Mt.pn 21 ?_
    refine Mt.pz 22 ?_
    refine Mt.e1 23 ?_
    apply Wl.store
    ·exact rfl
    ·exact rfl
    ·first | exact hov | exact rfl
    ·exact kd
    ·exact kg
    apply Wl.nil
    refine Mt.backE (fun _ _ => trivial) ?_
    refine Mt.toGt ka ?_
    repeat' first | refine Wl.assign rfl rfl ?_ | apply Wl.nil | apply St.seq | apply St.region | apply St.ret | apply Gt.next | apply Gt.inNormal | (apply Gt.out1;exact rfl;exact rfl;intro w' hp)
    have b5 := u5.heap b fun h => by rcases h with h | h;exact (hlo _ h).2 rfl;exact h ⟨hne,trivial⟩
    refine ⟨v',rfl,⟨⟨cap,J,by rw [← hs1];exact hp.own.at (.head _),hp.upd.heap b5 fun y => y ⟨hne,trivial⟩⟩,?_,r1,r2⟩,?_,fun k hk => (hoff5 k hk).2⟩
    ·have h := ownsRow_upd ho5 hp.upd fun k hk y => y (hoff5 k hk).1
     rw [List.length_append,List.map_append,List.flatten_append]
     exact h
    ·exact u5.comp hp.upd fun k hk hs => by
      rcases hs with (h | h) | h
      ·exact .inr (.inl h)
      ·exact .inl (Classical.byContradiction fun hn => h ⟨fun e => hn e.symm,trivial⟩)
      ·exact .inl (Classical.byContradiction fun hn => h ⟨fun e => hn e.symm,trivial⟩)
  ·repeat' first | (apply Wl.loadH;exact rfl;exact rfl;exact kd;exact rfl) | apply Wl.nil
   refine Mt.backE (fun _ _ => trivial) ?_
   refine Mt.pu 17 ?_
   refine Wl.addI rfl rfl rfl ?_ ?_;constructor <;> omega;apply Wl.nilB
   refine Mt.e1 9 ?_
   repeat' first | (apply Wl.lit;exact rfl;exact kh;exact rfl;exact rfl;exact ke;intro c hc ho) | apply Wl.nil
   refine Mt.backE (fun _ _ => trivial) ?_
   refine Mt.e1 10 ?_
   apply Wl.appendT (base := base) (n := ll.length) (m := 1) (sz := 2) (e := 111) (xs := (ll.map lineC).flatten)
   ·exact rfl
   ·exact rfl
   ·exact rfl
   ·assumption
   ·exact rfl
   ·exact hr
   ·exact fun k hk => ⟨fun e => (hlo k hk).1 e.symm,trivial⟩
   ·exact rfl
   ·exact rfl
   ·decide
   ·unfold maxLen;omega
   ·omega
   ·omega
   intro v' w5 ho5 u5 _ hoff5
   have hov := ho5.one
   have s5 := u5.size
   apply Wl.nil
   refine Mt.backE (fun _ _ => trivial) ?_
   refine Mt.pn 18 ?_
   refine Mt.pf 19 ?_
   refine Mt.e1 20 ?_
   apply Wl.store
   ·exact rfl
   ·exact rfl
   ·first | exact hov | exact rfl
   ·exact kd
   ·exact kg
   apply Wl.nil
   refine Mt.backE (fun _ _ => trivial) ?_
   refine Mt.pn 21 ?_
   refine Mt.pz 22 ?_
   refine Mt.e1 23 ?_
   apply Wl.store
   ·exact rfl
   ·exact rfl
   ·first | exact hov | exact rfl
   ·exact kd
   ·exact kg
   apply Wl.nil
   refine Mt.backE (fun _ _ => trivial) ?_
   refine Mt.toGt ka ?_
   repeat' first | refine Wl.assign rfl rfl ?_ | apply Wl.nil | apply St.seq | apply St.region | apply St.ret | apply Gt.next | apply Gt.inNormal | (apply Gt.out1;exact rfl;exact rfl;intro w' hp)
   have b5 := u5.heap b fun h => by rcases h with h | h;exact (hlo _ h).2 rfl;exact h ⟨hne,trivial⟩
   refine ⟨v',rfl,⟨⟨cap,J,by rw [← hs1];exact hp.own.at (.head _),hp.upd.heap b5 fun y => y ⟨hne,trivial⟩⟩,?_,r1,r2⟩,?_,fun k hk => (hoff5 k hk).2⟩
   ·have h := ownsRow_upd ho5 hp.upd fun k hk y => y (hoff5 k hk).1
    rw [List.length_append,List.map_append,List.flatten_append]
    exact h
   ·exact u5.comp hp.upd fun k hk hs => by
     rcases hs with (h | h) | h
     ·exact .inr (.inl h)
     ·exact .inl (Classical.byContradiction fun hn => h ⟨fun e => hn e.symm,trivial⟩)
     ·exact .inl (Classical.byContradiction fun hn => h ⟨fun e => hn e.symm,trivial⟩)
 ·repeat' first | (apply Wl.lit;exact rfl;exact kh;exact rfl;exact rfl;exact ke;intro c hc ho) | apply Wl.nil
  refine Mt.backE (fun _ _ => trivial) ?_
  refine Mt.eff2 (i := 5) (j := 14) ka kc kc ?_ ?_
  ·repeat' first | (apply Wl.loadH;exact rfl;exact rfl;exact kd;exact rfl) | apply Wl.nil
   refine Mt.backE (fun _ _ => trivial) ?_
   refine Mt.eff2 (i := 10) (j := 14) ka kc kc ?_ ?_
   ·apply Wl.appendT (base := base) (n := ll.length) (m := 1) (sz := 2) (e := 111) (xs := (ll.map lineC).flatten)
    ·exact rfl
    ·exact rfl
    ·exact rfl
    ·assumption
    ·exact rfl
    ·exact hr
    ·exact fun k hk => ⟨fun e => (hlo k hk).1 e.symm,trivial⟩
    ·exact rfl
    ·exact rfl
    ·decide
    ·unfold maxLen;omega
    ·omega
    ·omega
    intro v' w5 ho5 u5 _ hoff5
    have hov := ho5.one
    have s5 := u5.size
    apply Wl.nil
    refine Mt.backE (fun _ _ => trivial) ?_
    refine Mt.e1 14 ?_
    repeat' first | (apply Wl.loadH;exact rfl;exact rfl;exact kd;exact rfl) | apply Wl.nil
    refine Mt.backE (fun _ _ => trivial) ?_
    refine Mt.pu 17 ?_
    refine Wl.addI rfl rfl rfl ?_ ?_;constructor <;> omega;apply Wl.nilB
    refine Mt.pn 18 ?_
    refine Mt.pf 19 ?_
    refine Mt.e1 20 ?_
    apply Wl.store
    ·exact rfl
    ·exact rfl
    ·first | exact hov | exact rfl
    ·exact kd
    ·exact kg
    apply Wl.nil
    refine Mt.backE (fun _ _ => trivial) ?_
    refine Mt.pn 21 ?_
    refine Mt.pz 22 ?_
    refine Mt.e1 23 ?_
    apply Wl.store
    ·exact rfl
    ·exact rfl
    ·first | exact hov | exact rfl
    ·exact kd
    ·exact kg
    apply Wl.nil
    refine Mt.backE (fun _ _ => trivial) ?_
    refine Mt.toGt ka ?_
    repeat' first | refine Wl.assign rfl rfl ?_ | apply Wl.nil | apply St.seq | apply St.region | apply St.ret | apply Gt.next | apply Gt.inNormal | (apply Gt.out1;exact rfl;exact rfl;intro w' hp)
    have b5 := u5.heap b fun h => by rcases h with h | h;exact (hlo _ h).2 rfl;exact h ⟨hne,trivial⟩
    refine ⟨v',rfl,⟨⟨cap,J,by rw [← hs1];exact hp.own.at (.head _),hp.upd.heap b5 fun y => y ⟨hne,trivial⟩⟩,?_,r1,r2⟩,?_,fun k hk => (hoff5 k hk).2⟩
    ·have h := ownsRow_upd ho5 hp.upd fun k hk y => y (hoff5 k hk).1
     rw [List.length_append,List.map_append,List.flatten_append]
     exact h
    ·exact u5.comp hp.upd fun k hk hs => by
      rcases hs with (h | h) | h
      ·exact .inr (.inl h)
      ·exact .inl (Classical.byContradiction fun hn => h ⟨fun e => hn e.symm,trivial⟩)
      ·exact .inl (Classical.byContradiction fun hn => h ⟨fun e => hn e.symm,trivial⟩)
   ·repeat' first | (apply Wl.loadH;exact rfl;exact rfl;exact kd;exact rfl) | apply Wl.nil
    refine Mt.backE (fun _ _ => trivial) ?_
    refine Mt.pu 17 ?_
    refine Wl.addI rfl rfl rfl ?_ ?_;constructor <;> omega;apply Wl.nilB
    refine Mt.e1 10 ?_
    apply Wl.appendT (base := base) (n := ll.length) (m := 1) (sz := 2) (e := 111) (xs := (ll.map lineC).flatten)
    ·exact rfl
    ·exact rfl
    ·exact rfl
    ·assumption
    ·exact rfl
    ·exact hr
    ·exact fun k hk => ⟨fun e => (hlo k hk).1 e.symm,trivial⟩
    ·exact rfl
    ·exact rfl
    ·decide
    ·unfold maxLen;omega
    ·omega
    ·omega
    intro v' w5 ho5 u5 _ hoff5
    have hov := ho5.one
    have s5 := u5.size
    apply Wl.nil
    refine Mt.backE (fun _ _ => trivial) ?_
    refine Mt.pn 18 ?_
    refine Mt.pf 19 ?_
    refine Mt.e1 20 ?_
    apply Wl.store
    ·exact rfl
    ·exact rfl
    ·first | exact hov | exact rfl
    ·exact kd
    ·exact kg
    apply Wl.nil
    refine Mt.backE (fun _ _ => trivial) ?_
    refine Mt.pn 21 ?_
    refine Mt.pz 22 ?_
    refine Mt.e1 23 ?_
    apply Wl.store
    ·exact rfl
    ·exact rfl
    ·first | exact hov | exact rfl
    ·exact kd
    ·exact kg
    apply Wl.nil
    refine Mt.backE (fun _ _ => trivial) ?_
    refine Mt.toGt ka ?_
    repeat' first | refine Wl.assign rfl rfl ?_ | apply Wl.nil | apply St.seq | apply St.region | apply St.ret | apply Gt.next | apply Gt.inNormal | (apply Gt.out1;exact rfl;exact rfl;intro w' hp)
    have b5 := u5.heap b fun h => by rcases h with h | h;exact (hlo _ h).2 rfl;exact h ⟨hne,trivial⟩
    refine ⟨v',rfl,⟨⟨cap,J,by rw [← hs1];exact hp.own.at (.head _),hp.upd.heap b5 fun y => y ⟨hne,trivial⟩⟩,?_,r1,r2⟩,?_,fun k hk => (hoff5 k hk).2⟩
    ·have h := ownsRow_upd ho5 hp.upd fun k hk y => y (hoff5 k hk).1
     rw [List.length_append,List.map_append,List.flatten_append]
     exact h
    ·exact u5.comp hp.upd fun k hk hs => by
      rcases hs with (h | h) | h
      ·exact .inr (.inl h)
      ·exact .inl (Classical.byContradiction fun hn => h ⟨fun e => hn e.symm,trivial⟩)
      ·exact .inl (Classical.byContradiction fun hn => h ⟨fun e => hn e.symm,trivial⟩)
  ·repeat' first | (apply Wl.loadH;exact rfl;exact rfl;exact kd;exact rfl) | apply Wl.nil
   refine Mt.backE (fun _ _ => trivial) ?_
   refine Mt.pu 17 ?_
   refine Wl.addI rfl rfl rfl ?_ ?_;constructor <;> omega;apply Wl.nilB
   refine Mt.e1 5 ?_
   repeat' first | (apply Wl.loadH;exact rfl;exact rfl;exact kd;exact rfl) | apply Wl.nil
   refine Mt.backE (fun _ _ => trivial) ?_
   refine Mt.e1 10 ?_
   apply Wl.appendT (base := base) (n := ll.length) (m := 1) (sz := 2) (e := 111) (xs := (ll.map lineC).flatten)
   ·exact rfl
   ·exact rfl
   ·exact rfl
   ·assumption
   ·exact rfl
   ·exact hr
   ·exact fun k hk => ⟨fun e => (hlo k hk).1 e.symm,trivial⟩
   ·exact rfl
   ·exact rfl
   ·decide
   ·unfold maxLen;omega
   ·omega
   ·omega
   intro v' w5 ho5 u5 _ hoff5
   have hov := ho5.one
   have s5 := u5.size
   apply Wl.nil
   refine Mt.backE (fun _ _ => trivial) ?_
   refine Mt.pn 18 ?_
   refine Mt.pf 19 ?_
   refine Mt.e1 20 ?_
   apply Wl.store
   ·exact rfl
   ·exact rfl
   ·first | exact hov | exact rfl
   ·exact kd
   ·exact kg
   apply Wl.nil
   refine Mt.backE (fun _ _ => trivial) ?_
   refine Mt.pn 21 ?_
   refine Mt.pz 22 ?_
   refine Mt.e1 23 ?_
   apply Wl.store
   ·exact rfl
   ·exact rfl
   ·first | exact hov | exact rfl
   ·exact kd
   ·exact kg
   apply Wl.nil
   refine Mt.backE (fun _ _ => trivial) ?_
   refine Mt.toGt ka ?_
   repeat' first | refine Wl.assign rfl rfl ?_ | apply Wl.nil | apply St.seq | apply St.region | apply St.ret | apply Gt.next | apply Gt.inNormal | (apply Gt.out1;exact rfl;exact rfl;intro w' hp)
   have b5 := u5.heap b fun h => by rcases h with h | h;exact (hlo _ h).2 rfl;exact h ⟨hne,trivial⟩
   refine ⟨v',rfl,⟨⟨cap,J,by rw [← hs1];exact hp.own.at (.head _),hp.upd.heap b5 fun y => y ⟨hne,trivial⟩⟩,?_,r1,r2⟩,?_,fun k hk => (hoff5 k hk).2⟩
   ·have h := ownsRow_upd ho5 hp.upd fun k hk y => y (hoff5 k hk).1
    rw [List.length_append,List.map_append,List.flatten_append]
    exact h
   ·exact u5.comp hp.upd fun k hk hs => by
     rcases hs with (h | h) | h
     ·exact .inr (.inl h)
     ·exact .inl (Classical.byContradiction fun hn => h ⟨fun e => hn e.symm,trivial⟩)
     ·exact .inl (Classical.byContradiction fun hn => h ⟨fun e => hn e.symm,trivial⟩)
 ·repeat' first | (apply Wl.loadH;exact rfl;exact rfl;exact kd;exact rfl) | apply Wl.nil
  refine Mt.backE (fun _ _ => trivial) ?_
  refine Mt.pu 17 ?_
  refine Wl.addI rfl rfl rfl ?_ ?_;constructor <;> omega;apply Wl.nilB
  refine Mt.eff2 (i := 5) (j := 9) ka kc kc ?_ ?_
  ·repeat' first | (apply Wl.loadH;exact rfl;exact rfl;exact kd;exact rfl) | apply Wl.nil
   refine Mt.backE (fun _ _ => trivial) ?_
   refine Mt.e1 9 ?_
   repeat' first | (apply Wl.lit;exact rfl;exact kh;exact rfl;exact rfl;exact ke;intro c hc ho) | apply Wl.nil
   refine Mt.backE (fun _ _ => trivial) ?_
   refine Mt.e1 10 ?_
   apply Wl.appendT (base := base) (n := ll.length) (m := 1) (sz := 2) (e := 111) (xs := (ll.map lineC).flatten)
   ·exact rfl
   ·exact rfl
   ·exact rfl
   ·assumption
   ·exact rfl
   ·exact hr
   ·exact fun k hk => ⟨fun e => (hlo k hk).1 e.symm,trivial⟩
   ·exact rfl
   ·exact rfl
   ·decide
   ·unfold maxLen;omega
   ·omega
   ·omega
   intro v' w5 ho5 u5 _ hoff5
   have hov := ho5.one
   have s5 := u5.size
   apply Wl.nil
   refine Mt.backE (fun _ _ => trivial) ?_
   refine Mt.pn 18 ?_
   refine Mt.pf 19 ?_
   refine Mt.e1 20 ?_
   apply Wl.store
   ·exact rfl
   ·exact rfl
   ·first | exact hov | exact rfl
   ·exact kd
   ·exact kg
   apply Wl.nil
   refine Mt.backE (fun _ _ => trivial) ?_
   refine Mt.pn 21 ?_
   refine Mt.pz 22 ?_
   refine Mt.e1 23 ?_
   apply Wl.store
   ·exact rfl
   ·exact rfl
   ·first | exact hov | exact rfl
   ·exact kd
   ·exact kg
   apply Wl.nil
   refine Mt.backE (fun _ _ => trivial) ?_
   refine Mt.toGt ka ?_
   repeat' first | refine Wl.assign rfl rfl ?_ | apply Wl.nil | apply St.seq | apply St.region | apply St.ret | apply Gt.next | apply Gt.inNormal | (apply Gt.out1;exact rfl;exact rfl;intro w' hp)
   have b5 := u5.heap b fun h => by rcases h with h | h;exact (hlo _ h).2 rfl;exact h ⟨hne,trivial⟩
   refine ⟨v',rfl,⟨⟨cap,J,by rw [← hs1];exact hp.own.at (.head _),hp.upd.heap b5 fun y => y ⟨hne,trivial⟩⟩,?_,r1,r2⟩,?_,fun k hk => (hoff5 k hk).2⟩
   ·have h := ownsRow_upd ho5 hp.upd fun k hk y => y (hoff5 k hk).1
    rw [List.length_append,List.map_append,List.flatten_append]
    exact h
   ·exact u5.comp hp.upd fun k hk hs => by
     rcases hs with (h | h) | h
     ·exact .inr (.inl h)
     ·exact .inl (Classical.byContradiction fun hn => h ⟨fun e => hn e.symm,trivial⟩)
     ·exact .inl (Classical.byContradiction fun hn => h ⟨fun e => hn e.symm,trivial⟩)
  ·repeat' first | (apply Wl.lit;exact rfl;exact kh;exact rfl;exact rfl;exact ke;intro c hc ho) | apply Wl.nil
   refine Mt.backE (fun _ _ => trivial) ?_
   refine Mt.e1 5 ?_
   repeat' first | (apply Wl.loadH;exact rfl;exact rfl;exact kd;exact rfl) | apply Wl.nil
   refine Mt.backE (fun _ _ => trivial) ?_
   refine Mt.e1 10 ?_
   apply Wl.appendT (base := base) (n := ll.length) (m := 1) (sz := 2) (e := 111) (xs := (ll.map lineC).flatten)
   ·exact rfl
   ·exact rfl
   ·exact rfl
   ·assumption
   ·exact rfl
   ·exact hr
   ·exact fun k hk => ⟨fun e => (hlo k hk).1 e.symm,trivial⟩
   ·exact rfl
   ·exact rfl
   ·decide
   ·unfold maxLen;omega
   ·omega
   ·omega
   intro v' w5 ho5 u5 _ hoff5
   have hov := ho5.one
   have s5 := u5.size
   apply Wl.nil
   refine Mt.backE (fun _ _ => trivial) ?_
   refine Mt.pn 18 ?_
   refine Mt.pf 19 ?_
   refine Mt.e1 20 ?_
   apply Wl.store
   ·exact rfl
   ·exact rfl
   ·first | exact hov | exact rfl
   ·exact kd
   ·exact kg
   apply Wl.nil
   refine Mt.backE (fun _ _ => trivial) ?_
   refine Mt.pn 21 ?_
   refine Mt.pz 22 ?_
   refine Mt.e1 23 ?_
   apply Wl.store
   ·exact rfl
   ·exact rfl
   ·first | exact hov | exact rfl
   ·exact kd
   ·exact kg
   apply Wl.nil
   refine Mt.backE (fun _ _ => trivial) ?_
   refine Mt.toGt ka ?_
   repeat' first | refine Wl.assign rfl rfl ?_ | apply Wl.nil | apply St.seq | apply St.region | apply St.ret | apply Gt.next | apply Gt.inNormal | (apply Gt.out1;exact rfl;exact rfl;intro w' hp)
   have b5 := u5.heap b fun h => by rcases h with h | h;exact (hlo _ h).2 rfl;exact h ⟨hne,trivial⟩
   refine ⟨v',rfl,⟨⟨cap,J,by rw [← hs1];exact hp.own.at (.head _),hp.upd.heap b5 fun y => y ⟨hne,trivial⟩⟩,?_,r1,r2⟩,?_,fun k hk => (hoff5 k hk).2⟩
   ·have h := ownsRow_upd ho5 hp.upd fun k hk y => y (hoff5 k hk).1
    rw [List.length_append,List.map_append,List.flatten_append]
    exact h
   ·exact u5.comp hp.upd fun k hk hs => by
     rcases hs with (h | h) | h
     ·exact .inr (.inl h)
     ·exact .inl (Classical.byContradiction fun hn => h ⟨fun e => hn e.symm,trivial⟩)
     ·exact .inl (Classical.byContradiction fun hn => h ⟨fun e => hn e.symm,trivial⟩)
end
section
variable {w w' : World} {base : Nat} {I : Mi} {M : Mv2}
theorem MonS.snd {bx' : Nat → List Value} {ch : Nat} (k : MonS w base I M) (hc : ch ∈ I.cs) (hP : PostS w' I.pp I.pa I.cs bx') (u : Upd (fun b => b = ch) w w') : MonS w' base I {M with bx := bx'} := by
 obtain ⟨⟨wc,J1,wa,wb⟩,_⟩ := k.ward
 obtain ⟨⟨bc,J3,ba,bb⟩,hlv,_⟩ := k.board
 obtain ⟨i,hi⟩ := List.mem_iff_getElem?.1 hc
 have hch := k.post.2.1 i ch hi
 exact {
  mm := u.heap k.mm fun e => chan_ne hch k.mm e.symm
  dd := u.heap k.dd fun e => chan_ne hch k.dd e.symm
  ward := k.ward.upd u (fun e => chan_ne hch wa e.symm) (fun e => chan_ne hch wb e.symm)
  post := hP
  board := k.board.upd u (fun e => chan_ne hch ba e.symm) (fun e => chan_ne hch bb e.symm) fun b hb e => (hlv.heap hb).elim fun _ hg => chan_ne hch hg e.symm
  mem := u.heap k.mem fun e => chan_ne hch k.mem e.symm
  hart := k.hart.upd u fun e => chan_ne hch k.hart.2 e.symm
  seen := ownsRow_upd k.seen u fun b hb e => (k.seen.heap hb).elim fun _ hg => chan_ne hch hg e.symm
  rg := k.rg
  len := k.len
  ge := k.ge }
theorem MonS.brd {lv' : Value} {ll' : List (Int × List UInt8)} {used' : Int} (k : MonS w base I M) (hB : BoardS w' base I.bd I.ia lv' ll' used' M.ins) (u : Upd (fun b => b = I.bd ∨ M.lv.ownBlock = some b ∨ w.heap.size ≤ b) w w') : MonS w' base I {M with lv := lv',ll := ll',used := used'} := by
 obtain ⟨⟨wc,J1,wa,wb⟩,_⟩ := k.ward
 obtain ⟨⟨pc,J2,pa,pb⟩,hcs,_⟩ := k.post
 obtain ⟨⟨bc,J3,ba,bb⟩,hlv,_⟩ := k.board
 obtain ⟨n1,n2,n3,n4,n5,n6,n7,n8,n9,n10,n11,n12,n13⟩ := k.off ba
 have key : ∀ {b t : Nat} {cs : Array Value},w.heap[b]? = some (.cells cs t (0,0)) → t ≠ 111 → b ≠ I.bd → ¬ (b = I.bd ∨ M.lv.ownBlock = some b ∨ w.heap.size ≤ b) := fun hb ht hne h => by
  rcases h with h | h | h
  ·exact hne h
  ·exact row_neT hlv hb ht _ h rfl
  ·exact absurd (lt_of_block hb) (Nat.not_lt.2 h)
 exact {
  mm := u.heap k.mm (key k.mm ku (n1 ku))
  dd := u.heap k.dd (key k.dd ku (n3 ku))
  ward := k.ward.upd u (key wa ku (n4 ku)) (key wb ku (n5 ku))
  post := k.post.upd u (key pa ku (n6 ku)) (key pb ku (n7 ku)) fun c hc h => by
   obtain ⟨i,hi⟩ := List.mem_iff_getElem?.1 hc
   rcases h with h | h | h
   ·exact n11 c hc h
   ·exact (hlv.heap h).elim fun _ hg => chan_ne (hcs i c hi) hg rfl
   ·exact absurd (hcs i c hi).lt (Nat.not_lt.2 h)
  board := hB
  mem := u.heap k.mem (key k.mem ku (n10 ku))
  hart := k.hart.upd u (key k.hart.2 ku (n2 ku))
  seen := ownsRow_upd k.seen u fun b hb => (k.seen.heap hb).elim fun _ hg => key hg ku (n13 ku b hb)
  rg := k.rg
  len := k.len
  ge := k.ge }
end
end Go.Proofs.YtabbklpalbikdaaGreatDoor
end
section
namespace Go.Pt
open Go.RowKit
end Go.Pt
end
section
namespace Go.Proofs.YtabbklpalbikdaaGreatDoor
open Go.RowKit Go.Pt
section
variable (base : Nat) (I : Mi) (M : Mv2) (lv : Value) (who : Nat) (w : World)
theorem Hp.restD {S : Nat → Prop} {w0 w w' : World} {H : List Blk} (h : Hp w0 H w) (u : Upd S w w') (hs : ∀ x ∈ H,¬ S x.b) : Hp w' H w' := ⟨Upd.refl _ _,h.own.upd u hs,h.apart⟩
end
end Go.Proofs.YtabbklpalbikdaaGreatDoor
end
section
namespace Go.Pt
open Go.RowKit
theorem Wl.loadAB {P : Program} {md : Md} {ops : Array Oper} {N : Nat} {rest : List Oper} {Γ : Env} {Q : Exit → Act → World → Prop} {d : Nat} {ty : TypeId} {pos : String} {af : Array Edge} {w0 : World} {H : List Blk} {t n : TypeId} [TyA P t n] {x : Operand} {b o : Nat} {xs : List Value}
  (hd : Nat.blt d N = true) (hx : ev Γ x = some (.pointer (some ⟨b,o,none⟩))) (hc : ∀ j v,xs[j]? = some v → w0.cell? ⟨b,o + j,none⟩ = some v) (ho : Off H b) (hn : xs.length = n)
  (h : Wl rest P md ops N ((d,.agg xs.toArray) :: Γ) (Hp w0 H) Q) : Wl (⟨some d,.load t x,ty,pos,af,none⟩ :: rest) P md ops N Γ (Hp w0 H) Q :=
 Wl.loadAF hd hx hn (fun w hw i v hv => by rw [addLit];exact hw.old (hc i v hv) ho) h
theorem Wl.sliceArrW {P : Program} {md : Md} {N : Nat} {ops : Array Oper} {rest : List Oper} {Γ : Env} {C : World → Prop} {Q : Exit → Act → World → Prop} {d : Nat} {ty : TypeId} {pos : String} {af : Array Edge} {t e n sz by_ : TypeId} {x : Operand} {b o : Nat} [ht : TyD P t (.array n e)] [TyS P e sz by_]
  (hd : Nat.blt d N = true) (hx : ev Γ x = some (.pointer (some ⟨b,o,none⟩))) (hn : n ≠ 0) (h : Wl rest P md ops N ((d,.slice (some ⟨b,o,none⟩) n n) :: Γ) C Q) : Wl (⟨some d,.slice t x none none none,ty,pos,af,none⟩ :: rest) P md ops N Γ C Q :=
 Wl.val hd (fun a w ha _ => by
  simp [execOp,ha.ev hx,Instr.sliceAt,run_underlying ht.out,Instr.sliceBounds,Instr.sureAddr,Addr.add,run_size (P := P) (t := e),hn]) h
end Go.Pt
namespace Go.Proofs.YtabbklpalbikdaaGreatDoor
open Go.RowKit Go.Pt
end Go.Proofs.YtabbklpalbikdaaGreatDoor
end
section
namespace Go.Pt
open Go.RowKit
end Go.Pt
namespace Go.Proofs.YtabbklpalbikdaaGreatDoor
open Go.RowKit Go.Pt
end Go.Proofs.YtabbklpalbikdaaGreatDoor
end
section
namespace Go.Pt
open Go.RowKit
end Go.Pt
namespace Go.Proofs.YtabbklpalbikdaaGreatDoor
open Go.RowKit Go.Pt
theorem storeX_FB {f : Nat → Int} (h : FB f) (a : Nat) (x : Int) (n : Nat) : FB (storeX f a x n) := by
 induction n with
 | zero => exact h
 | succ n ih =>
  intro j
  unfold storeX updI
  split
  ·rw [IntKind.wrap_u8];omega
  ·exact ih j
end Go.Proofs.YtabbklpalbikdaaGreatDoor
end
section
namespace Go.Pt
open Go.RowKit
end Go.Pt
namespace Go.Proofs.YtabbklpalbikdaaGreatDoor
open Go.RowKit Go.Pt
end Go.Proofs.YtabbklpalbikdaaGreatDoor
end
section
namespace Go.Pt
end Go.Pt
namespace Go.Proofs.YtabbklpalbikdaaGreatDoor
open Go.RowKit Go.Pt
theorem _root_.Go.Pt.Hp.onS {S : Nat → Prop} {w0 w w' : World} {H : List Blk} (h : Hp w H w') (u : Upd S w0 w) (hH : ∀ x ∈ H,S x.b) : Upd S w0 w' := u.comp h.upd fun k _ hs => hs.elim id fun y => Classical.byContradiction fun hn => y (Off.of fun x hx e => hn (e ▸ hH x hx))
theorem _root_.Go.Pt.Hp.on0 {S : Nat → Prop} {w0 w w' : World} (h : Hp w [] w') (u : Upd S w0 w) : Upd S w0 w' := h.onS u fun x hx => by cases hx
theorem _root_.Go.Pt.Hp.on1 {S : Nat → Prop} {w0 w w' : World} {a : Blk} (h : Hp w [a] w') (u : Upd S w0 w) (ha : S a.b) : Upd S w0 w' := h.onS u fun x hx => by
 rcases List.mem_cons.1 hx with rfl | hx
 ·exact ha
 ·cases hx
theorem _root_.Go.Pt.Hp.on2 {S : Nat → Prop} {w0 w w' : World} {a b : Blk} (h : Hp w [a,b] w') (u : Upd S w0 w) (ha : S a.b) (hb : S b.b) : Upd S w0 w' := h.onS u fun x hx => by
 rcases List.mem_cons.1 hx with rfl | hx
 ·exact ha
 ·rcases List.mem_cons.1 hx with rfl | hx
  ·exact hb
  ·cases hx
end Go.Proofs.YtabbklpalbikdaaGreatDoor
end
section
namespace Go.Pt
open Go.RowKit
end Go.Pt
namespace Go.Proofs.YtabbklpalbikdaaGreatDoor
open Go.RowKit Go.Pt
def napA (s z : Int) : Int := bits .or .u32 (s.fdiv (2 ^ min (Int.toNat 2) IntKind.u32.bits)) (IntKind.u32.wrap (z.fdiv (2 ^ min (Int.toNat 3) IntKind.u32.bits) - 1))
def gr3 (at_ : Int) (k : Nat) : Int × Int × Int := match k with
 | 0 => (at_,4096,5)
 | 1 => (IntKind.u32.wrap (at_ + 4096),4096,3)
 | _ => (IntKind.u32.wrap (at_ + 8192),32,1)
def en4 (at_ : Int) (k : Nat) : Int × Int × Int := match k with
 | 0 => (3,5,napA (gr3 at_ 0).1 4096)
 | 1 => (3,3,napA (gr3 at_ 1).1 4096)
 | 2 => (3,1,napA (gr3 at_ 2).1 32)
 | _ => (3,0,536870911)
def biasI (i : Nat) : Int := 2147487744 + 12288 * i
def dgK (i k : Nat) : List Value := (List.range 32).map fun q => .int .u8 (if q < k then IntKind.u8.wrap ((q : Int) * q + i) else 0)
theorem dgK_len (i k : Nat) : (dgK i k).length = 32 := by simp [dgK]
theorem dgK_set (i : Nat) {k : Nat} (hk : k < 32) : (dgK i k).set k (.int .u8 (IntKind.u8.wrap ((k : Int) * k + i))) = dgK i (k + 1) := by
 refine List.ext_getElem? fun q => ?_
 rw [List.getElem?_set]
 by_cases h : q < 32
 ·by_cases e : k = q
  ·subst e
   rw [if_pos rfl,if_pos (by rw [dgK_len];exact h)]
   simp [dgK,h]
  ·rw [if_neg e]
   have h2 : (q < k + 1) = (q < k) := by apply propext;omega
   simp [dgK,h,h2]
 ·rw [if_neg kf,List.getElem?_eq_none (by rw [dgK_len];omega),List.getElem?_eq_none (by rw [dgK_len];omega)]
def dgL (i : Nat) : List UInt8 := (List.range 32).map fun q => UInt8.ofNat (q * q + i)
theorem dgL_len (i : Nat) : (dgL i).length = 32 := by simp [dgL]
theorem dgL_cells {i : Nat} (hi : i < 3) : dgK i 32 = byteCells (dgL i) := by
 have h : i = 0 ∨ i = 1 ∨ i = 2 := by omega
 rcases h with rfl | rfl | rfl <;> rfl
def payX (i g : Nat) (ca : Int) : List Value := byteCells (dgL i) ++ [.int .u32 0,.int .u32 (biasI i),.slice (some ⟨g,0,none⟩) 3 3,.int .i64 ca]
theorem payX_len (i g : Nat) (ca : Int) : (payX i g ca).length = 36 := by simp [payX,byteCells_length,dgL_len]
def payRs (gs : Nat → Nat) (ca : Nat → Int) (n : Nat) : List (List Value) := (List.range n).map fun j => payX j (gs j) (ca j)
theorem payRs_succ (gs : Nat → Nat) (ca : Nat → Int) (n : Nat) : (payRs gs ca (n + 1)).flatten = (payRs gs ca n).flatten ++ payX n (gs n) (ca n) := by simp [payRs,List.range_succ]
theorem payRs_gs (gs gs' : Nat → Nat) (ca : Nat → Int) (n : Nat) (h : ∀ j,j < n → gs j = gs' j) : payRs gs ca n = payRs gs' ca n := by
 unfold payRs
 refine List.map_congr_left fun j hj => ?_
 rw [h j (List.mem_range.1 hj)]
def grC (at_ : Int) : List Value := [.int .u32 at_,.int .u32 4096,.int .i64 5,.int .u32 (IntKind.u32.wrap (at_ + 4096)),.int .u32 4096,.int .i64 3,.int .u32 (IntKind.u32.wrap (at_ + 8192)),.int .u32 32,.int .i64 1]
theorem payloads (n : Nat) (hn : n ≤ 3) (w : World) :
  Calls Tryz.prog 39 #[.int .i64 (n : Int)] w fun e w' => ∃ v gs,e = .returned v ∧ w'.ownsRow w.heap.size 116 36 v n (payRs gs (fun _ => 255) n).flatten ∧ (∀ j,j < n → w.heap.size ≤ gs j ∧ w'.heap[gs j]? = some (.cells (grC (biasI j)).toArray 180 (0,0))) ∧ Upd (fun k => w.heap.size ≤ k) w w' := by
 refine enter (args := [_]) (Γ := [(0,_)]) Tryz.func39 Tryz.ntmps39 rfl odq (.cons rfl .nil) ?_
 repeat' first | refine Wl.move rfl rfl ?_ | refine Wl.assign rfl rfl ?_ | apply Wl.nil | apply St.seq | apply St.block | apply St.region | apply Gt.next
 refine St.loop (σ := Nat × World × Value × (Nat → Nat)) (fun τ => τ.1 ≤ n ∧ Upd (fun k => w.heap.size ≤ k) w τ.2.1 ∧ τ.2.1.ownsRow w.heap.size 116 36 τ.2.2.1 τ.1 (payRs τ.2.2.2 (fun _ => 255) τ.1).flatten ∧ (∀ j,j < τ.1 → w.heap.size ≤ τ.2.2.2 j ∧ τ.2.1.heap[τ.2.2.2 j]? = some (.cells (grC (biasI j)).toArray 180 (0,0))))
  (fun τ => [(3,τ.2.2.1),(8,.int .i64 (n : Int)),(9,.int .i64 (τ.1 : Int))]) (fun τ => Hp τ.2.1 []) (fun τ => n - τ.1) (0,w,.slice none 0 0,fun _ => 0) ⟨Nat.zero_le _,Upd.refl _ _,World.ownsRow_nil w _ _ _,fun j hj => by cases hj⟩ kq (fun _ h => h) ?_
 rintro ⟨i,w0,v,gs⟩ ⟨hi,hu0,hv,hg⟩
 simp only at hi hu0 hv hg ⊢
 have s0 := hu0.size
 by_cases hlt : i < n
 ·have hd : decide ((i : Int) < (n : Int)) = true := decide_eq_true kf
  have hi3 : i < 3 := by omega
  repeat' first | refine Wl.move rfl rfl ?_ | refine Wl.assign rfl rfl ?_ | refine Wl.lss rfl rfl rfl ?_ | (refine Wl.addI rfl rfl rfl ?_ ?_;constructor <;> omega) | (refine Wl.mulI rfl rfl rfl ?_ ?_;constructor <;> omega) | refine Wl.add rfl rfl rfl ?_ | (refine Wl.convU32 rfl rfl ?_ ?_;constructor <;> omega) | (apply Wl.storeA;exact rfl;exact rfl;exact rfl;exact rfl;exact kd;exact kj) | (apply Wl.buildS;exact rfl;exact kh;exact kb) | (apply Wl.lit;exact rfl;exact kh;exact rfl;exact rfl;exact ke;intro c hc ho) | (apply Wl.alloc;exact rfl;intro c hc ho) | apply Wl.nil | apply St.seq | apply St.block | apply St.region | (apply St.condT;exact rfl;exact k5) | apply St.skip | apply Gt.next
  rename_i g hcg hog
  generalize c = c6 at *
  have hc6 : w0.heap.size ≤ c6 := by assumption
  refine St.loop (σ := Nat) (fun k => k ≤ 32) (fun k => [(3,v),(4,.int .i64 (i : Int)),(6,.pointer (some ⟨c6,0,none⟩)),(8,.int .i64 (n : Int)),(9,.int .i64 (i : Int)),(27,.int .i64 (k : Int))])
   (fun k => Hp w0 [⟨c6,dgK i k ++ [.int .u32 0,.int .u32 (biasI i),.slice (some ⟨g,0,none⟩) 3 3,.int .i64 255],116⟩,⟨g,grC (biasI i),180⟩]) (fun k => 32 - k) 0 za kq (fun _ h => h) ?_
  intro k hk
  by_cases hk2 : k < 32
  ·have hd2 : decide ((k : Int) < 32) = true := decide_eq_true kf
   have hkk : (k : Int) * k ≤ 1024 ∧ 0 ≤ (k : Int) * k := ⟨by have : (k : Int) * k ≤ 32 * 32 := Int.mul_le_mul kf kf kf kf;omega,Int.mul_nonneg kf kf⟩
   have hset : LSet (dgK i k ++ [.int .u32 0,.int .u32 (biasI i),.slice (some ⟨g,0,none⟩) 3 3,.int .i64 255]) (0 + (k : Int).toNat * 1) (.int .u8 (IntKind.u8.wrap ((k : Int) * k + i))) (dgK i (k + 1) ++ [.int .u32 0,.int .u32 (biasI i),.slice (some ⟨g,0,none⟩) 3 3,.int .i64 255]) := by
    rw [Int.toNat_natCast,Nat.zero_add,Nat.mul_one,← dgK_set i hk2]
    exact LSet.left (by rw [dgK_len];exact hk2)
   repeat' first | (apply Wl.store;exact rfl;exact rfl;exact rfl;exact kd;exact hset) | refine Wl.move rfl rfl ?_ | refine Wl.assign rfl rfl ?_ | refine Wl.fieldAddr0 rfl rfl ?_ | refine Wl.lss rfl rfl rfl ?_ | (refine Wl.addI rfl rfl rfl ?_ ?_;constructor <;> omega) | (refine Wl.mulI rfl rfl rfl ?_ ?_;constructor <;> omega) | refine Wl.convI rfl rfl ?_ | (refine Wl.indexArr rfl rfl rfl ?_ ?_;constructor <;> omega) | apply Wl.nil | apply St.seq | apply St.block | apply St.region | (apply St.condT;exact rfl;exact k5) | apply St.skip | apply Gt.next | apply Gt.inNormal
   refine Gt.round (k + 1) kf kf kq (fun _ h => h)
  ·obtain rfl : k = 32 := by omega
   have hd2 : decide (((32 : Nat) : Int) < 32) = false := by decide
   repeat' first | (apply Wl.loadAH (xs := payX i g 255);exact rfl;exact rfl;exact kd;(rw [dgL_cells hi3];exact LSub.whole' (payX_len i g 255))) | refine Wl.move rfl rfl ?_ | refine Wl.lss rfl rfl rfl ?_ | (apply Wl.lit;exact rfl;exact kh;exact rfl;exact rfl;exact ke;intro c hc ho) | apply Wl.nil | apply St.seq | apply St.region | (apply St.condF;exact rfl;exact k5) | apply St.exit | apply Gt.next | apply Gt.thenExit | apply Gt.inExit
   apply Wl.appendT (base := w.heap.size) (n := i) (m := 1) (sz := 36) (e := 116) (xs := (payRs gs (fun _ => 255) i).flatten)
   ·exact rfl
   ·exact rfl
   ·exact rfl
   ·omega
   ·exact rfl
   ·exact hv
   ·exact fun j hj => ⟨fun e => by have := (hv.ge j hj).2;simp only at e;omega,fun e => by have := (hv.ge j hj).2;simp only at e;omega,trivial⟩
   ·exact rfl
   ·exact rfl
   ·decide
   ·unfold maxLen;omega
   ·omega
   ·exact s0
   intro v' w2 ho2 u2 _ hoff2
   repeat' first | refine Wl.move rfl rfl ?_ | refine Wl.assign rfl rfl ?_ | (refine Wl.addI rfl rfl rfl ?_ ?_;constructor <;> omega) | apply Wl.nil | apply St.region | apply Gt.next | apply Gt.inNormal
   refine Gt.reb (H' := []) fun w3 h3 => ⟨trivial,trivial,?_⟩
   have key : ∀ j,¬ Off [⟨c6,[],0⟩,⟨g,[],0⟩] j → w0.heap.size ≤ j := fun j hn => Classical.byContradiction fun hc => hn ⟨fun e => by simp only at e;omega,fun e => by simp only at e;omega,trivial⟩
   have hu3 : Upd (fun k => w.heap.size ≤ k) w w3 := by
    refine hu0.comp (u2.comp h3.upd (T := fun k => w.heap.size ≤ k) fun j hj hs => ?_) fun j hj hs => hs.elim id id
    exact hs.elim (fun hs => hs.elim (fun h => (hv.ge j h).1) fun h => Nat.le_trans s0 (key j h)) fun h => Nat.le_trans s0 (key j h)
   refine Gt.round (i + 1,w3,v',fun j => if j = i then g else gs j) ⟨by simp only;omega,hu3,?_,?_⟩ ky kq (fun _ h => h)
   ·simp only
    rw [payRs_succ,if_pos rfl,payRs_gs _ gs _ i (fun j hj => if_neg kf)]
    exact ownsRow_upd ho2 h3.upd fun j hj y => y (hoff2 j hj).1
   ·intro j hj
    simp only
    by_cases e : j = i
    ·rw [if_pos e,e]
     exact ⟨by omega,h3.own.at (.tail _ (.head _))⟩
    ·rw [if_neg e]
     obtain ⟨h1,h2⟩ := hg j (by simp only at hj;omega)
     have hl := lt_of_block h2
     have hne : v.ownBlock ≠ some (gs j) := fun hk => (hv.heap hk).elim fun _ hb => by rw [hb] at h2;cases h2
     refine ⟨h1,(h3.upd.heap (u2.heap h2 fun hs => hs.elim hne fun h => by have := key _ h;omega) fun h => by have := key _ h;omega)⟩
 ·obtain rfl : i = n := by omega
  have hd : decide ((i : Int) < (i : Int)) = false := decide_eq_false kf
  repeat' first | refine Wl.move rfl rfl ?_ | refine Wl.assign rfl rfl ?_ | refine Wl.lss rfl rfl rfl ?_ | apply Wl.nil | apply St.seq | apply St.region | (apply St.condF;exact rfl;exact k5) | apply St.ret | apply St.exit | apply Gt.next | apply Gt.thenExit | apply Gt.inExit | (apply Gt.out1;exact rfl;exact rfl;intro w' hp)
  exact ⟨v,gs,rfl,ownsRow_upd hv hp.upd fun _ _ y => y trivial,fun j hj => ⟨(hg j hj).1,hp.upd.heap (hg j hj).2 fun y => y trivial⟩,hu0.comp hp.upd fun k _ hs => hs.elim id fun y => (y trivial).elim⟩
def RW (w : World) (base c n : Nat) : Prop := ∃ rv xs,w.heap[c]? = some (.cells #[rv,.slice none 0 0] 167 (0,0)) ∧ w.ownsRow base 169 36 rv n xs
theorem RW.upd {w w' : World} {base c n : Nat} {S : Nat → Prop} (h : RW w base c n) (u : Upd S w w') (hc : ¬ S c) (hs : ∀ k,base ≤ k → k < w.heap.size → ¬ S k) : RW w' base c n := by
 obtain ⟨rv,xs,h1,h2⟩ := h
 exact ⟨rv,xs,u.heap h1 hc,ownsRow_upd h2 u fun k hk => hs k (h2.ge k hk).1 (h2.ge k hk).2⟩
theorem rwNew (a : Option Addr) (n cap : Nat) (p : Nat → Int) (w : World) (hn : n ≤ 4) (hA : WordF w a n p) :
  Calls Tryz.prog 107 #[.slice a n cap] w fun e w' => ∃ c,e = .returned (.pointer (some ⟨c,0,none⟩)) ∧ RW w' w.heap.size c n ∧ w.heap.size ≤ c ∧ Upd (fun k => w.heap.size ≤ k) w w' := by
 refine enter (args := [_]) (Γ := [(0,_)]) Tryz.func107 Tryz.ntmps107 rfl odq (.cons rfl .nil) ?_
 repeat' first | refine Wl.assign rfl rfl ?_ | (apply Wl.buildS;exact rfl;exact kh;exact kb) | (apply Wl.boxA;exact rfl;exact rfl;intro c hc ho) | apply Wl.nil | apply St.seq | apply St.block | apply St.region | apply Gt.next
 generalize c = c3 at *
 have hc3 : w.heap.size ≤ c3 := by assumption
 refine St.loop (σ := Nat × World × Value × List Value) (fun τ => τ.1 ≤ n ∧ Upd (fun k => w.heap.size ≤ k) w τ.2.1 ∧ τ.2.1.ownsRow w.heap.size 169 36 τ.2.2.1 τ.1 τ.2.2.2 ∧ ∀ k,τ.2.2.1.ownBlock = some k → k ≠ c3)
  (fun τ => [(0,.slice a n cap),(3,.pointer (some ⟨c3,0,none⟩)),(4,.int .i64 (τ.1 : Int))]) (fun τ => Hp τ.2.1 [⟨c3,[τ.2.2.1,.slice none 0 0],167⟩]) (fun τ => n - τ.1) (0,w,.slice none 0 0,[]) ⟨Nat.zero_le _,Upd.refl _ _,World.ownsRow_nil w _ _ _,fun k hk => by cases hk⟩ kq (fun _ h => h) ?_
 rintro ⟨i,w0,v,xs⟩ ⟨hi,hu0,hv,hoff⟩
 simp only at hi hu0 hv hoff ⊢
 have s0 := hu0.size
 by_cases hlt : i < n
 ·have hd : decide ((i : Int) < (n : Int)) = true := decide_eq_true kf
  obtain ⟨b,o,rfl,hc,_⟩ := hA i hlt
  have hbl : b < w.heap.size := World.block_lt_of_cell? w _ hc
  have hb : w0.cell? ⟨b,o + (i : Int).toNat,none⟩ = some (.int .u32 (p i)) := by
   rw [Int.toNat_natCast]
   exact hu0.cell hc (Nat.not_le.2 hbl)
  repeat' first | refine Wl.move rfl rfl ?_ | refine Wl.lss rfl rfl rfl ?_ | refine Wl.len rfl rfl ?_ | apply Wl.nil | apply St.seq | apply St.block | apply St.region | (apply St.condT;exact rfl;exact k5) | apply St.skip | apply Gt.next
  refine St.tree (fun w' => w'.cell? ⟨b,o + (i : Int).toNat,none⟩ = some (.int .u32 (p i))) mixed (fun _ h' => ⟨Hp.drew h',(Hp.drew h').upd.cell hb fun y => y ⟨by simp only;omega,trivial⟩⟩) ?_
  refine Mt.pm 0 ?_
  refine Mt.pm 1 ?_
  refine Mt.pm 5 ?_
  refine Mt.pm 6 ?_
  refine Mt.pm 7 ?_
  refine Mt.pn 2 ?_
  refine Mt.pu 8 ?_
  refine Wl.indexAddr1 rfl rfl rfl ?_ ?_;constructor <;> omega;apply Wl.nilB
  refine Mt.pf 3 ?_
  refine Mt.pu 9 ?_
  apply Wl.loadF;exact rfl;exact rfl;(intro w' h';exact h');apply Wl.nilB
  refine Mt.pu 10 ?_
  apply Wl.buildS;exact rfl;exact kh;exact kb;apply Wl.nilB
  refine Mt.pu 11 ?_
  apply Wl.buildS;exact rfl;exact kh;exact kb;apply Wl.nilB
  refine Mt.eff2 (i := 4) (j := 12) ka kc kc ?_ ?_
  ·repeat' first | (apply Wl.loadH;exact rfl;exact rfl;exact kd;exact rfl) | apply Wl.nil
   refine Mt.backE (fun _ h' => by first | exact h'.upd.cell hb (fun y => y ⟨by simp only;omega,trivial⟩) | exact h'.upd.cell hb (fun y => y ⟨by simp only;omega,by simp only;omega,trivial⟩) | exact h'.upd.cell (u1.cell hb (fun y => y.elim (fun h => by have := (hv.ge _ h).1;simp only at this;omega) fun y => y ⟨by simp only;omega,trivial⟩)) (fun y => y ⟨by simp only;omega,trivial⟩)) ?_
   refine Mt.e1 12 ?_
   repeat' first | (apply Wl.lit;exact rfl;exact kh;exact rfl;exact rfl;exact ke;intro c hc ho) | apply Wl.nil
   refine Mt.backE (fun _ h' => by first | exact h'.upd.cell hb (fun y => y ⟨by simp only;omega,trivial⟩) | exact h'.upd.cell hb (fun y => y ⟨by simp only;omega,by simp only;omega,trivial⟩) | exact h'.upd.cell (u1.cell hb (fun y => y.elim (fun h => by have := (hv.ge _ h).1;simp only at this;omega) fun y => y ⟨by simp only;omega,trivial⟩)) (fun y => y ⟨by simp only;omega,trivial⟩)) ?_
   refine Mt.e1 13 ?_
   apply Wl.appendT (base := w.heap.size) (n := i) (m := 1) (sz := 36) (e := 169) (xs := xs)
   ·exact rfl
   ·exact rfl
   ·exact rfl
   ·assumption
   ·exact rfl
   ·exact hv
   ·exact fun k hk => ⟨fun e => hoff k hk e.symm,trivial⟩
   ·exact rfl
   ·exact rfl
   ·decide
   ·unfold maxLen;omega
   ·omega
   ·exact s0
   intro v' w1 ho1 u1 _ hoff1
   have hov := ho1.one
   have s1 := u1.size
   apply Wl.nil
   refine Mt.backE (fun _ h' => by first | exact h'.upd.cell hb (fun y => y ⟨by simp only;omega,trivial⟩) | exact h'.upd.cell hb (fun y => y ⟨by simp only;omega,by simp only;omega,trivial⟩) | exact h'.upd.cell (u1.cell hb (fun y => y.elim (fun h => by have := (hv.ge _ h).1;simp only at this;omega) fun y => y ⟨by simp only;omega,trivial⟩)) (fun y => y ⟨by simp only;omega,trivial⟩)) ?_
   refine Mt.pn 14 ?_
   refine Mt.pf 15 ?_
   refine Mt.e1 16 ?_
   apply Wl.store
   ·exact rfl
   ·exact rfl
   ·first | exact hov | exact rfl
   ·exact kd
   ·exact kg
   apply Wl.nil
   refine Mt.backE (fun _ h' => by first | exact h'.upd.cell hb (fun y => y ⟨by simp only;omega,trivial⟩) | exact h'.upd.cell hb (fun y => y ⟨by simp only;omega,by simp only;omega,trivial⟩) | exact h'.upd.cell (u1.cell hb (fun y => y.elim (fun h => by have := (hv.ge _ h).1;simp only at this;omega) fun y => y ⟨by simp only;omega,trivial⟩)) (fun y => y ⟨by simp only;omega,trivial⟩)) ?_
   refine Mt.toGt ka ?_
   repeat' first | refine Wl.move rfl rfl ?_ | refine Wl.assign rfl rfl ?_ | (refine Wl.addI rfl rfl rfl ?_ ?_;constructor <;> omega) | apply Wl.nil | apply St.region | apply Gt.next | apply Gt.inNormal
   obtain ⟨ys,hys⟩ : ∃ ys,w1.ownsRow w.heap.size 169 36 v' (i + 1) ys := ⟨_,ho1⟩
   refine Gt.round (i + 1,w1,v',ys) ⟨by simp only;omega,?_,hys,?_⟩ ky kq (fun _ h => h)
   ·refine hu0.comp u1 fun k hk hs => ?_
    rcases hs with y | y | y
    ·exact y
    ·exact (hv.ge k y).1
    ·exact Classical.byContradiction fun hn => y ⟨fun e => hn q5,trivial⟩
   ·exact fun k hk e => (hoff1 k hk).1.1 e.symm
  ·repeat' first | (apply Wl.lit;exact rfl;exact kh;exact rfl;exact rfl;exact ke;intro c hc ho) | apply Wl.nil
   refine Mt.backE (fun _ h' => by first | exact h'.upd.cell hb (fun y => y ⟨by simp only;omega,trivial⟩) | exact h'.upd.cell hb (fun y => y ⟨by simp only;omega,by simp only;omega,trivial⟩) | exact h'.upd.cell (u1.cell hb (fun y => y.elim (fun h => by have := (hv.ge _ h).1;simp only at this;omega) fun y => y ⟨by simp only;omega,trivial⟩)) (fun y => y ⟨by simp only;omega,trivial⟩)) ?_
   refine Mt.e1 4 ?_
   repeat' first | (apply Wl.loadH;exact rfl;exact rfl;exact kd;exact rfl) | apply Wl.nil
   refine Mt.backE (fun _ h' => by first | exact h'.upd.cell hb (fun y => y ⟨by simp only;omega,trivial⟩) | exact h'.upd.cell hb (fun y => y ⟨by simp only;omega,by simp only;omega,trivial⟩) | exact h'.upd.cell (u1.cell hb (fun y => y.elim (fun h => by have := (hv.ge _ h).1;simp only at this;omega) fun y => y ⟨by simp only;omega,trivial⟩)) (fun y => y ⟨by simp only;omega,trivial⟩)) ?_
   refine Mt.e1 13 ?_
   apply Wl.appendT (base := w.heap.size) (n := i) (m := 1) (sz := 36) (e := 169) (xs := xs)
   ·exact rfl
   ·exact rfl
   ·exact rfl
   ·assumption
   ·exact rfl
   ·exact hv
   ·exact fun k hk => ⟨fun e => hoff k hk e.symm,trivial⟩
   ·exact rfl
   ·exact rfl
   ·decide
   ·unfold maxLen;omega
   ·omega
   ·exact s0
   intro v' w1 ho1 u1 _ hoff1
   have hov := ho1.one
   have s1 := u1.size
   apply Wl.nil
   refine Mt.backE (fun _ h' => by first | exact h'.upd.cell hb (fun y => y ⟨by simp only;omega,trivial⟩) | exact h'.upd.cell hb (fun y => y ⟨by simp only;omega,by simp only;omega,trivial⟩) | exact h'.upd.cell (u1.cell hb (fun y => y.elim (fun h => by have := (hv.ge _ h).1;simp only at this;omega) fun y => y ⟨by simp only;omega,trivial⟩)) (fun y => y ⟨by simp only;omega,trivial⟩)) ?_
   refine Mt.pn 14 ?_
   refine Mt.pf 15 ?_
   refine Mt.e1 16 ?_
   apply Wl.store
   ·exact rfl
   ·exact rfl
   ·first | exact hov | exact rfl
   ·exact kd
   ·exact kg
   apply Wl.nil
   refine Mt.backE (fun _ h' => by first | exact h'.upd.cell hb (fun y => y ⟨by simp only;omega,trivial⟩) | exact h'.upd.cell hb (fun y => y ⟨by simp only;omega,by simp only;omega,trivial⟩) | exact h'.upd.cell (u1.cell hb (fun y => y.elim (fun h => by have := (hv.ge _ h).1;simp only at this;omega) fun y => y ⟨by simp only;omega,trivial⟩)) (fun y => y ⟨by simp only;omega,trivial⟩)) ?_
   refine Mt.toGt ka ?_
   repeat' first | refine Wl.move rfl rfl ?_ | refine Wl.assign rfl rfl ?_ | (refine Wl.addI rfl rfl rfl ?_ ?_;constructor <;> omega) | apply Wl.nil | apply St.region | apply Gt.next | apply Gt.inNormal
   obtain ⟨ys,hys⟩ : ∃ ys,w1.ownsRow w.heap.size 169 36 v' (i + 1) ys := ⟨_,ho1⟩
   refine Gt.round (i + 1,w1,v',ys) ⟨by simp only;omega,?_,hys,?_⟩ ky kq (fun _ h => h)
   ·refine hu0.comp u1 fun k hk hs => ?_
    rcases hs with y | y | y
    ·exact y
    ·exact (hv.ge k y).1
    ·exact Classical.byContradiction fun hn => y ⟨fun e => hn q5,trivial⟩
   ·exact fun k hk e => (hoff1 k hk).1.1 e.symm
 ·obtain rfl : i = n := by omega
  have hd : decide ((i : Int) < (i : Int)) = false := decide_eq_false kf
  repeat' first | refine Wl.move rfl rfl ?_ | refine Wl.assign rfl rfl ?_ | refine Wl.lss rfl rfl rfl ?_ | refine Wl.len rfl rfl ?_ | apply Wl.nil | apply St.seq | apply St.region | (apply St.condF;exact rfl;exact k5) | apply St.ret | apply St.exit | apply Gt.next | apply Gt.thenExit | apply Gt.inExit | (apply Gt.out1;exact rfl;exact rfl;intro w' hp)
  refine ⟨c3,rfl,⟨v,xs,hp.own.at (.head _),ownsRow_upd hv hp.upd fun k hk y => y ⟨fun e => hoff k hk e.symm,trivial⟩⟩,hc3,hu0.comp hp.upd fun k hk hs => hs.elim id fun y => Classical.byContradiction fun hn => y ⟨fun e => hn q5,trivial⟩⟩
end Go.Proofs.YtabbklpalbikdaaGreatDoor
end
section
namespace Go.Pt
open Go.RowKit
theorem Hp.ext {w w' : World} (h : Hp w [] w') : Ext w w' := h.upd.mono fun _ _ y => y trivial
theorem Gt.bagEnd {N : Nat} {Γ : Env} {C : World → Prop} {E : World → World → Prop} {d : Nat} {v : Value} {w1 : World} {R : Value → World → Prop} (hv : look Γ d = some v) (h : ∀ w',C w' → E w1 w' ∧ R v w') : Gt N .normal Γ C (BagPost E N w1 d R) := Gt.intro fun a w ha hw =>
 ⟨rfl,(h w hw).1,v,ha.sub (.cons hv .nil),(h w hw).2⟩
end Go.Pt
namespace Go.Proofs.YtabbklpalbikdaaGreatDoor
open Go.RowKit Go.Pt
theorem RW.ext {w w' : World} {base c n : Nat} (h : RW w base c n) (e : Ext w w') : RW w' base c n := h.upd e (fun y => y) fun _ _ _ y => y
theorem refHasG (a n : Int) (w : World) (ha : -1000000 ≤ a ∧ a ≤ 4294967296000) (hn : 0 ≤ n ∧ n ≤ 5000) : Calls Tryz.prog 105 #[.int .i64 a,.int .i64 n] w fun e w' => (∃ z : Bool,e = .returned (.bool z)) ∧ Hp w [] w' := by
 refine enter (args := [_,_]) (Γ := [(0,_),(1,_)]) Tryz.func105 Tryz.ntmps105 rfl odq (.cons rfl (.cons rfl .nil)) ?_
 repeat' first | refine Wl.move rfl rfl ?_ | refine Wl.assign rfl rfl ?_ | (apply Wl.on;exact rfl;exact rfl;exact k5) | (apply Wl.off;exact rfl;exact rfl;exact rfl;exact ki) | (apply Wl.pickT;exact rfl;exact rfl;exact k5;exact rfl) | (apply Wl.pickF;exact rfl;exact rfl;exact k5;exact rfl) | refine Wl.leq rfl rfl rfl ?_ | refine Wl.geq rfl rfl rfl ?_ | (refine Wl.addI rfl rfl rfl ?_ ?_;constructor <;> omega) | apply Wl.nil | apply St.seq | apply St.region | apply St.ret | apply Gt.next | (apply Gt.out1;exact rfl;exact rfl;intro w' hp) | (apply Wl.splitP;exact rfl;exact rfl;all_goals (intros;try (exfalso;omega)))
 all_goals exact ⟨⟨_,rfl⟩,hp⟩
theorem ramPutG (c b n : Nat) (at_ : Int) (v : Value) (l : List UInt8) (w : World) (hR : RM w c b n) (hn : n < 1000000) (hl : l.length ≤ 5000) (hat : -1000000 ≤ at_ ∧ at_ ≤ 4294967296000) (hv : Bs w v l) (hvo : ∀ k,v.ownBlock = some k → l ≠ [] → k ≠ b) :
  Calls Tryz.prog 54 #[.pointer (some ⟨c,0,none⟩),.int .i64 at_,v] w fun e w' => (∃ z : Bool,e = .returned (.bool z)) ∧ RM w' c b (n + l.length) ∧ Upd (fun k => k = b) w w' := by
 have hlt := hR.lt
 obtain ⟨va,vc,rfl,_,hm⟩ := hv.shape
 unfold maxLen at hm
 have c0 : w.cell? ⟨c,0,none⟩ = some (.map (some b)) := cell_of hR.1 rfl
 have hcb : c ≠ b := by
  intro e
  obtain ⟨h1,D,es,clock,h2,_⟩ := hR
  rw [e] at h1
  rw [h1] at h2
  cases h2
 refine enter (args := [_,_,_]) (Γ := [(0,_),(1,_),(2,_)]) Tryz.func54 Tryz.ntmps54 rfl odq (.cons rfl (.cons rfl (.cons rfl .nil))) ?_
 repeat' first | refine Wl.move rfl rfl ?_ | refine Wl.assign rfl rfl ?_ | refine Wl.len rfl rfl ?_ | apply Wl.nil | apply St.seq | apply St.region | apply Gt.next
 apply Wl.callC
 ·exact rfl
 ·exact kd
 intro wq hq
 refine (refHasG _ _ wq hat kf).mono ?_
 rintro e wr ⟨⟨z,rfl⟩,hr⟩
 refine ⟨_,_,rfl,hq.keep hr,?_⟩
 clear hr hq wr wq
 cases z
 ·repeat' first | refine Wl.assign rfl rfl ?_ | refine Wl.not rfl rfl ?_ | apply Wl.nil | apply St.seq | apply St.region | (apply St.condT;exact rfl;exact k5) | apply St.ret | apply Gt.next | apply Gt.thenRet | (apply Gt.out1;exact rfl;exact rfl;intro w' hp)
  exact ⟨⟨_,rfl⟩,⟨hp.upd.heap hR.1 fun y => y trivial,by obtain ⟨D,hD⟩ := hR.2.upd hp.upd fun y => y trivial;exact ⟨D,hD.mono kf⟩⟩,hp.upd.mono fun _ _ y => (y trivial).elim⟩
 repeat' first | refine Wl.assign rfl rfl ?_ | refine Wl.not rfl rfl ?_ | apply Wl.nil | apply St.seq | apply St.block | apply St.region | (apply St.condF;exact rfl;exact k5) | apply St.skip | apply Gt.next
 refine St.loop (σ := Nat × World) (fun τ => τ.1 ≤ l.length ∧ RM τ.2 c b (n + τ.1) ∧ Upd (fun k => k = b) w τ.2)
  (fun τ => [(0,.pointer (some ⟨c,0,none⟩)),(1,.int .i64 at_),(2,.slice va l.length vc),(7,.int .i64 (τ.1 : Int))]) (fun τ => Hp τ.2 []) (fun τ => l.length - τ.1) (0,w) ⟨Nat.zero_le _,hR,Upd.refl _ _⟩ kq (fun _ h => h) ?_
 rintro ⟨i,w0⟩ ⟨hi,hR0,hu0⟩
 simp only at hi hR0 hu0 ⊢
 have c0' : w0.cell? ⟨c,0,none⟩ = some (.map (some b)) := cell_of hR0.1 rfl
 by_cases hlt2 : i < l.length
 ·have hd : decide ((i : Int) < (l.length : Int)) = true := decide_eq_true kf
  obtain ⟨vb,vo,rfl,hcells⟩ := hv.cells (fun e => by rw [e] at hlt2;simp at hlt2)
  have hb : w0.cell? ⟨vb,vo + (i : Int).toNat,none⟩ = some (.int .u8 (l[i].toNat : Int)) := by
   rw [Int.toNat_natCast]
   exact hu0.cell (hcells i hlt2) fun e => hvo vb rfl (fun e0 => by rw [e0] at hlt2;simp at hlt2) e
  have l1 := hR0.lt
  have l2 := World.block_lt_of_cell? w0 _ hb
  simp only at l2
  repeat' first | (apply St.bagX (i := 6) 11 [];exact mixed;(decide +kernel);kernel_rfl) | (apply Wl.loadO;exact rfl;exact rfl;(first | exact c0' | exact hb);(repeat (first | exact trivial | exact hX.off zn))) | apply OpsX.nil | (apply OpsX.v;(intro X hX;change Wl [_] _ _ _ _ _ _ _;apply Wl.catX;exact kd)) | (apply Gt.endX;exact rfl) | (apply EndX.on;exact rfl) | (apply EndX.off;exact rfl) | (apply EndX.nil';apply Wl.catE;exact kd) | refine Wl.move rfl rfl ?_ | refine Wl.nilCheck rfl rfl ?_ | refine Wl.fieldAddr0 rfl rfl ?_ | refine Wl.lss rfl rfl rfl ?_ | (refine Wl.addI rfl rfl rfl ?_ ?_;constructor <;> omega) | refine Wl.len rfl rfl ?_ | (refine Wl.indexAddr1 rfl rfl rfl ?_ ?_;constructor <;> omega) | apply Wl.nil | apply St.seq | apply St.block | apply St.region | (apply St.condT;exact rfl;exact k5) | apply St.skip | apply Gt.next
  apply Wl.storeMB (k := 3) (e := 5) (b := b) (n := n + i)
  ·exact rfl
  ·exact rfl
  ·exact rfl
  ·unfold I64;omega
  ·have := l[i].toNat_lt
   simp [Lit.wf,IntKind.min,IntKind.max,IntKind.signed,IntKind.bits]
   omega
  ·unfold maxLen;omega
  ·exact hR0.2
  ·exact trivial
  intro w1 hM hu1
  repeat' first | refine Wl.move rfl rfl ?_ | refine Wl.assign rfl rfl ?_ | (refine Wl.addI rfl rfl rfl ?_ ?_;constructor <;> omega) | apply Wl.nil | apply St.region | apply Gt.next | apply Gt.inNormal
  apply Gt.round (i + 1,w1)
  rotate_left
  ·simp only;omega
  ·exact kd
  ·exact fun _ h => h
  ·refine ⟨hlt2,⟨hu1.heap hR0.1 fun y => y.elim hcb fun y => y trivial,hM⟩,hu0.trans (hu1.mono fun k _ y => y.elim id fun y => (y trivial).elim)⟩
 ·obtain rfl : i = l.length := by omega
  have hd : decide ((l.length : Int) < (l.length : Int)) = false := decide_eq_false kf
  repeat' first | refine Wl.move rfl rfl ?_ | refine Wl.assign rfl rfl ?_ | refine Wl.lss rfl rfl rfl ?_ | refine Wl.len rfl rfl ?_ | apply Wl.nil | apply St.seq | apply St.region | (apply St.condF;exact rfl;exact k5) | apply St.ret | apply St.exit | apply Gt.next | apply Gt.thenExit | apply Gt.inExit | (apply Gt.out1;exact rfl;exact rfl;intro w' hp)
  exact ⟨⟨_,rfl⟩,⟨hp.upd.heap hR0.1 fun y => y trivial,by obtain ⟨D,hD⟩ := hR0.2.upd hp.upd fun y => y trivial;exact ⟨D,hD.mono kf⟩⟩,hu0.trans (hp.upd.mono fun _ _ y => (y trivial).elim)⟩
structure LoadD where
 code : List Int
 data : List UInt8
 calls : Int
 regs : List (Int × Int)
def WordsV (w : World) (v : Value) (l : List Int) : Prop := ∃ a c,v = .slice a l.length c ∧ ∀ (i : Nat) x,l[i]? = some x → ∃ b o,a = some ⟨b,o,none⟩ ∧ w.cell? ⟨b,o + i,none⟩ = some (.int .u32 x) ∧ 0 ≤ x ∧ x < 4294967296
def PairsV (w : World) (v : Value) (l : List (Int × Int)) : Prop := ∃ a c,v = .slice a l.length c ∧ ∀ (i : Nat) x,l[i]? = some x → ∃ b o,a = some ⟨b,o,none⟩ ∧ (w.cell? ⟨b,o + i * 2,none⟩ = some (.int .u32 x.1) ∧ 0 ≤ x.1 ∧ x.1 < 4294967296) ∧ w.cell? ⟨b,o + i * 2 + 1,none⟩ = some (.int .u32 x.2) ∧ 0 ≤ x.2 ∧ x.2 < 4294967296
theorem WordsV.upd {w w' : World} {v : Value} {l : List Int} {S : Nat → Prop} (h : WordsV w v l) (u : Upd S w w') (hs : ∀ k,k < w.heap.size → ¬ S k) : WordsV w' v l := by
 obtain ⟨a,c,e,h⟩ := h
 refine ⟨a,c,e,fun i x hx => ?_⟩
 obtain ⟨b,o,e,h1,h2⟩ := h i x hx
 exact ⟨b,o,e,u.cell h1 (hs _ (cell_old h1)),h2⟩
theorem PairsV.upd {w w' : World} {v : Value} {l : List (Int × Int)} {S : Nat → Prop} (h : PairsV w v l) (u : Upd S w w') (hs : ∀ k,k < w.heap.size → ¬ S k) : PairsV w' v l := by
 obtain ⟨a,c,e,h⟩ := h
 refine ⟨a,c,e,fun i x hx => ?_⟩
 obtain ⟨b,o,e,⟨h1,h2⟩,h3,h4⟩ := h i x hx
 exact ⟨b,o,e,⟨u.cell h1 (hs _ (cell_old h1)),h2⟩,u.cell h3 (hs _ (cell_old h3)),h4⟩
structure LoadV (w : World) (x : LoadD) (v0 v1 v3 : Value) : Prop where
 code : WordsV w v0 x.code
 data : Bs w v1 x.data
 dlt : ∀ k,v1.ownBlock = some k → x.data ≠ [] → k < w.heap.size
 regs : PairsV w v3 x.regs
 len : x.code.length ≤ 1024 ∧ x.data.length ≤ 4096 ∧ x.regs.length ≤ 1500
 cal : I64 x.calls
def loadC (v0 v1 v3 : Value) (x : LoadD) : List Value := [v0,v1,.int .i64 x.calls,v3]
def LoadsF (w : World) (a : Option Addr) (l : List LoadD) : Prop := ∀ (i : Nat) x,l[i]? = some x → ∃ b o,a = some ⟨b,o,none⟩ ∧ ∃ v0 v1 v3,(∀ q v,(loadC v0 v1 v3 x)[q]? = some v → w.cell? ⟨b,o + i * 4 + q,none⟩ = some v) ∧ LoadV w x v0 v1 v3
def codeF (f : Nat → Int) (o : Nat) : List Int → Nat → (Nat → Int)
 | _,0 => f
 | l,k + 1 => storeX (codeF f o l k) (o + 4 * k) (l.getD k 0) 4
def loadF1 (f : Nat → Int) (i : Nat) (x : LoadD) : Nat → Int := putF (codeF f (4096 + 12288 * i) x.code x.code.length) (8192 + 12288 * i) x.data
def loadF (l : List LoadD) : Nat → (Nat → Int)
 | 0 => fun _ => 0
 | i + 1 => loadF1 (loadF l i) i (l.getD i ⟨[],[],0,[]⟩)
def caF (l : List LoadD) (i j : Nat) : Int := if j < i then bits .and .i64 ((l.getD j ⟨[],[],0,[]⟩).calls) 255 else 255
structure BegS (w w0 : World) (n i : Nat) (pb : Nat) (J : List Value) (gs : Nat → Nat) (ca : Nat → Int) (cM rb rm rn : Nat) (f : Nat → Int) (v6 v7 : Value) (eb ec : Nat → Nat) : Prop where
 pay : w0.heap[pb]? = some (.cells ((payRs gs ca n).flatten ++ J).toArray 116 (0,0))
 gr : ∀ j,j < n → w.heap.size ≤ gs j ∧ w0.heap[gs j]? = some (.cells (grC (biasI j)).toArray 180 (0,0))
 mem : memH w0 cM f
 ram : RM w0 rb rm rn
 ent : w0.ownsRow w.heap.size 65 1 v6 i ((List.range i).map fun j => .slice (some ⟨eb j,0,none⟩) 4 (ec j))
 enx : ∀ j,j < i → w.heap.size ≤ eb j ∧ ∃ cs : List Value,w0.heap[eb j]? = some (.cells cs.toArray 160 (0,0)) ∧ EntX w0 (some ⟨eb j,0,none⟩) 4 (en4 (biasI j))
 st : w0.ownsRow w.heap.size 25 1 v7 i ((List.range i).map fun j => .int .u32 (biasI j))
 up : Upd (fun k => w.heap.size ≤ k) w w0
 ge : w.heap.size ≤ pb ∧ w.heap.size ≤ cM ∧ w.heap.size ≤ rb ∧ w.heap.size ≤ rm
def BegF (n i pb : Nat) (gs : Nat → Nat) (cM rb rm : Nat) (v6 v7 : Value) (eb : Nat → Nat) (b : Nat) : Prop := b = pb ∨ (∃ j,j < n ∧ b = gs j) ∨ b = cM ∨ b = rb ∨ b = rm ∨ v6.ownBlock = some b ∨ (∃ j,j < i ∧ b = eb j) ∨ v7.ownBlock = some b
section
variable {w w0 w' : World} {n i pb cM rb rm rn : Nat} {J : List Value} {gs eb ec : Nat → Nat} {ca : Nat → Int} {f : Nat → Int} {v6 v7 : Value}
theorem BegS.lt (k : BegS w w0 n i pb J gs ca cM rb rm rn f v6 v7 eb ec) : ∀ b,BegF n i pb gs cM rb rm v6 v7 eb b → w.heap.size ≤ b ∧ b < w0.heap.size := by
 rintro b (rfl | ⟨j,hj,rfl⟩ | rfl | rfl | rfl | h | ⟨j,hj,rfl⟩ | h)
 ·exact ⟨k.ge.1,lt_of_block k.pay⟩
 ·exact ⟨(k.gr j hj).1,lt_of_block (k.gr j hj).2⟩
 ·exact ⟨k.ge.2.1,lt_of_block k.mem⟩
 ·exact ⟨k.ge.2.2.1,k.ram.lt.1⟩
 ·exact ⟨k.ge.2.2.2,k.ram.lt.2⟩
 ·exact k.ent.ge b h
 ·exact ⟨(k.enx j hj).1,by obtain ⟨cs,h,_⟩ := (k.enx j hj).2;exact lt_of_block h⟩
 ·exact k.st.ge b h
theorem BegS.upd {S : Nat → Prop} (k : BegS w w0 n i pb J gs ca cM rb rm rn f v6 v7 eb ec) (u : Upd S w0 w') (hs : ∀ b,BegF n i pb gs cM rb rm v6 v7 eb b → ¬ S b) (hn : ∀ b,b < w.heap.size → ¬ S b) : BegS w w' n i pb J gs ca cM rb rm rn f v6 v7 eb ec where
 pay := u.heap k.pay (hs _ (.inl rfl))
 gr := fun j hj => ⟨(k.gr j hj).1,u.heap (k.gr j hj).2 (hs _ (.inr (.inl ⟨j,hj,rfl⟩)))⟩
 mem := u.heap k.mem (hs _ (.inr (.inr (.inl rfl))))
 ram := k.ram.upd u (hs _ (.inr (.inr (.inr (.inl rfl))))) (hs _ (.inr (.inr (.inr (.inr (.inl rfl))))))
 ent := ownsRow_upd k.ent u fun b hb => hs _ (.inr (.inr (.inr (.inr (.inr (.inl hb))))))
 enx := fun j hj => by
  obtain ⟨h1,cs,h2,h3⟩ := k.enx j hj
  refine ⟨h1,cs,u.heap h2 (hs _ (.inr (.inr (.inr (.inr (.inr (.inr (.inl ⟨j,hj,rfl⟩)))))))),fun q hq => ?_⟩
  obtain ⟨b,o,e,c1,c2,c3⟩ := h3 q hq
  cases e
  have hh := hs (eb j) (.inr (.inr (.inr (.inr (.inr (.inr (.inl ⟨j,hj,rfl⟩)))))))
  exact ⟨_,_,rfl,u.cell c1 hh,u.cell c2 hh,u.cell c3 hh⟩
 st := ownsRow_upd k.st u fun b hb => hs _ (.inr (.inr (.inr (.inr (.inr (.inr (.inr hb)))))))
 up := ⟨u.os.trans k.up.os,u.tape.trans k.up.tape,u.output.trans k.up.output,Nat.le_trans k.up.size u.size,fun q hq hsq => (u.block q (Nat.lt_of_lt_of_le hq k.up.size) (hn q hq)).trans (k.up.block q hq hsq)⟩
 ge := k.ge
theorem hne {w0 : World} {x b t t' : Nat} {cs cs' : Array Value} (hx : w0.heap[x]? = some (.cells cs' t' (0,0))) (hb : w0.heap[b]? = some (.cells cs t (0,0))) (hn : t ≠ t') : x ≠ b := fun e => by rw [e,hb] at hx;cases hx;exact hn rfl
theorem BegS.rmne (k : BegS w w0 n i pb J gs ca cM rb rm rn f v6 v7 eb ec) {b t : Nat} {cs : Array Value} (hb : w0.heap[b]? = some (.cells cs t (0,0))) : rm ≠ b := by
 intro e
 obtain ⟨D,es,clock,h2,_⟩ := k.ram.2
 rw [e,hb] at h2
 cases h2
theorem BegS.mem' {f' : Nat → Int} (k : BegS w w0 n i pb J gs ca cM rb rm rn f v6 v7 eb ec) (hm : memH w' cM f') (u : Upd (fun b => b = cM) w0 w') : BegS w w' n i pb J gs ca cM rb rm rn f' v6 v7 eb ec where
 pay := u.heap k.pay (hne k.pay k.mem ku)
 gr := fun j hj => ⟨(k.gr j hj).1,u.heap (k.gr j hj).2 (hne (k.gr j hj).2 k.mem ku)⟩
 mem := hm
 ram := k.ram.upd u (hne k.ram.1 k.mem ku) (k.rmne k.mem)
 ent := ownsRow_upd k.ent u fun b hb => (k.ent.heap hb).elim fun _ hg => hne hg k.mem ku
 enx := fun j hj => by
  obtain ⟨h1,cs,h2,h3⟩ := k.enx j hj
  have hh := hne h2 k.mem ku
  refine ⟨h1,cs,u.heap h2 hh,fun q hq => ?_⟩
  obtain ⟨b,o,e,c1,c2,c3⟩ := h3 q hq
  cases e
  exact ⟨_,_,rfl,u.cell c1 hh,u.cell c2 hh,u.cell c3 hh⟩
 st := ownsRow_upd k.st u fun b hb => (k.st.heap hb).elim fun _ hg => hne hg k.mem ku
 up := k.up.comp u fun b hb hs => hs.elim id fun e => e ▸ k.ge.2.1
 ge := k.ge
theorem BegS.ram' {rn' : Nat} (k : BegS w w0 n i pb J gs ca cM rb rm rn f v6 v7 eb ec) (hr : RM w' rb rm rn') (u : Upd (fun b => b = rm ∨ w0.heap.size ≤ b) w0 w') : BegS w w' n i pb J gs ca cM rb rm rn' f v6 v7 eb ec := by
 have key : ∀ {x t : Nat} {cs : Array Value},w0.heap[x]? = some (.cells cs t (0,0)) → ¬ (x = rm ∨ w0.heap.size ≤ x) := fun hx hs => hs.elim (fun e => k.rmne hx e.symm) fun h => absurd (lt_of_block hx) (Nat.not_lt.2 h)
 exact {
  pay := u.heap k.pay (key k.pay)
  gr := fun j hj => ⟨(k.gr j hj).1,u.heap (k.gr j hj).2 (key (k.gr j hj).2)⟩
  mem := u.heap k.mem (key k.mem)
  ram := hr
  ent := ownsRow_upd k.ent u fun b hb => (k.ent.heap hb).elim fun _ hg => key hg
  enx := fun j hj => by
   obtain ⟨h1,cs,h2,h3⟩ := k.enx j hj
   have hh := key h2
   refine ⟨h1,cs,u.heap h2 hh,fun q hq => ?_⟩
   obtain ⟨b,o,e,c1,c2,c3⟩ := h3 q hq
   cases e
   exact ⟨_,_,rfl,u.cell c1 hh,u.cell c2 hh,u.cell c3 hh⟩
  st := ownsRow_upd k.st u fun b hb => (k.st.heap hb).elim fun _ hg => key hg
  up := k.up.comp u fun b hb hs => hs.elim id fun e => e.elim (fun e => e ▸ k.ge.2.2.2) fun h => Nat.le_trans k.up.size h
  ge := k.ge }
end
theorem MonF.with {I : Mi} {M : Mv2} {L : List Sta} {t : Int} {ins : List (List UInt8)} {sa b : Nat} (h : MonF {I with sa := sa} {M with L := L,t := t,ins := ins} b) : MonF I M b ∨ b = sa := by
 rcases h with h | h | h | h | h | h | h | h | h | h | h | h | h
 ·exact .inl (.inl h)
 ·exact .inl (.inr (.inl h))
 ·exact .inl (.inr (.inr (.inl h)))
 ·exact .inl (.inr (.inr (.inr (.inl h))))
 ·exact .inr h
 ·exact .inl (.inr (.inr (.inr (.inr (.inr (.inl h))))))
 ·exact .inl (.inr (.inr (.inr (.inr (.inr (.inr (.inl h)))))))
 ·exact .inl (.inr (.inr (.inr (.inr (.inr (.inr (.inr (.inl h))))))))
 ·exact .inl (.inr (.inr (.inr (.inr (.inr (.inr (.inr (.inr (.inl h)))))))))
 ·exact .inl (.inr (.inr (.inr (.inr (.inr (.inr (.inr (.inr (.inr (.inl h))))))))))
 ·exact .inl (.inr (.inr (.inr (.inr (.inr (.inr (.inr (.inr (.inr (.inr (.inl h)))))))))))
 ·exact .inl (.inr (.inr (.inr (.inr (.inr (.inr (.inr (.inr (.inr (.inr (.inr (.inl h))))))))))))
 ·exact .inl (.inr (.inr (.inr (.inr (.inr (.inr (.inr (.inr (.inr (.inr (.inr (.inr h))))))))))))
def insK (ins : List (List UInt8)) (k n : Nat) : List (List UInt8) := ins.take k ++ List.replicate (n - k) []
theorem insK_0 (ins : List (List UInt8)) (n : Nat) : insK ins 0 n = List.replicate n [] := by simp [insK]
theorem insK_n (ins : List (List UInt8)) {n : Nat} (h : ins.length = n) : insK ins n n = ins := by simp [insK,← h]
theorem insK_at (ins : List (List UInt8)) {k n : Nat} (hk : k < n) (hl : n ≤ ins.length) : (insK ins k n)[k]? = some [] := by
 unfold insK
 rw [List.getElem?_append_right qk,List.getElem?_replicate,if_pos qk]
theorem insK_set {ins : List (List UInt8)} {k n : Nat} {s : List UInt8} (hk : k < n) (hs : ins[k]? = some s) : (insK ins k n).set k ([] ++ s) = insK ins (k + 1) n := by
 have hl := (List.getElem?_eq_some_iff.1 hs).1
 unfold insK
 rw [List.set_append_right _ _ qk,List.take_add_one,hs,show n - k = (n - (k + 1)) + 1 by omega,List.replicate_succ,List.length_take,show k - min k ins.length = 0 by omega]
 simp
structure WiB (w w' : World) (I : Mi) (M : Mv2) (c : Nat) (cs : List Value) : Prop where
 mm : w'.heap[I.m]? = some (.cells #[.pointer (some ⟨I.h,0,none⟩),.pointer (some ⟨I.d,0,none⟩),.pointer (some ⟨I.wd,0,none⟩),M.seen] 130 (0,0))
 dd : w'.heap[I.d]? = some (.cells #[M.pv,M.ev,.pointer (some ⟨I.cM,0,none⟩),.pointer (some ⟨I.pp,0,none⟩),.pointer (some ⟨I.bd,0,none⟩)] 139 (0,0))
 cc : w'.heap[c]? = some (.cells cs.toArray 54 (0,0))
 u : Upd (fun k => w.heap.size ≤ k) w w'
theorem mZ0 : (madeCells (Value.int .u32 0).cells (0 * 1)).toList = List.replicate 0 (Value.int .u32 0) := by kernel_rfl
theorem mZ1 : (madeCells (Value.int .u32 0).cells (1 * 1)).toList = List.replicate 1 (Value.int .u32 0) := by kernel_rfl
theorem mZ2 : (madeCells (Value.int .u32 0).cells (2 * 1)).toList = List.replicate 2 (Value.int .u32 0) := by kernel_rfl
theorem mZ3 : (madeCells (Value.int .u32 0).cells (3 * 1)).toList = List.replicate 3 (Value.int .u32 0) := by kernel_rfl
theorem mZ4 : (madeCells (Value.int .u32 0).cells (4 * 1)).toList = List.replicate 4 (Value.int .u32 0) := by kernel_rfl
theorem mZ (n : Nat) (hn : n ≤ 4) : (madeCells (Value.int .u32 0).cells (n * 1)).toList = List.replicate n (Value.int .u32 0) := by
 have h : n = 0 ∨ n = 1 ∨ n = 2 ∨ n = 3 ∨ n = 4 := by omega
 rcases h with rfl | rfl | rfl | rfl | rfl
 ·exact mZ0
 ·exact mZ1
 ·exact mZ2
 ·exact mZ3
 ·exact mZ4
theorem wordZ {w : World} {b n t : Nat} (h : w.heap[b]? = some (.cells (List.replicate n (Value.int .u32 0)).toArray t (0,0))) : WordF w (some ⟨b,0,none⟩) n (fun _ => 0) := fun i hi =>
 ⟨b,0,rfl,cell_of h (by rw [Nat.zero_add,List.getElem?_replicate,if_pos hi]),Int.le_refl _,by show (0 : Int) < 4294967296;decide⟩
theorem rot {α : Type} (l : List α) (j : Nat) (h : j < l.length) : l.drop j ++ l.take j = l[j] :: (l.drop (j + 1) ++ l.take j) ∧ (l.drop (j + 1) ++ l.take j) ++ [l[j]] = l.drop (j + 1) ++ l.take (j + 1) := by
 refine ⟨by rw [List.drop_eq_getElem_cons h];rfl,?_⟩
 rw [List.append_assoc,List.take_add_one,List.getElem?_eq_getElem h]
 rfl
theorem pAll (pp pa : Nat) (cs : List Nat) (bx : Nat → List Value) (i ch : Nat) (ls : List (Int × List UInt8)) (w : World) (hP : PostS w pp pa cs bx) (hi : cs[i]? = some ch) (hb : bx i = ls.map letV) (h4 : ls.length ≤ 4) :
  Calls Tryz.prog 75 #[.pointer (some ⟨pp,0,none⟩),.int .i64 i] w fun e w' => ∃ v,e = .returned v ∧ w'.ownsRow w.heap.size 78 2 v ls.length (ls.map lineC).flatten ∧ PostS w' pp pa cs bx ∧ Upd (fun k => k = ch ∨ w.heap.size ≤ k) w w' := by
 have hlts := hP.lt
 have hch := hP.2.1 i ch hi
 have hlc := hch.lt
 refine enterN (args := [_,_]) (Γ := [(0,_),(1,_)]) Tryz.func75 Tryz.ntmps75 rfl odq (.cons rfl (.cons rfl .nil)) ?_
 refine StN.seq (StN.of ?_)
 repeat' first | refine Wl.assign rfl rfl ?_ | apply Wl.nil | apply St.region
 refine GtN.next (StN.seq (StN.of ?_))
 repeat' first | refine Wl.move rfl rfl ?_ | apply St.region
 apply Wl.callQ
 exact rfl
 (focus repeat constructor)
 ·intro wq hq
  exact hq.q (pBox pp pa cs bx i ch wq (hP.upd hq.upd nt0 nt0 fun _ _ y => y trivial) hi)
 repeat' first | refine Wl.assign rfl rfl ?_ | apply Wl.nil
 refine GtN.next (StN.seq (StN.of ?_))
 repeat' first | refine Wl.assign rfl rfl ?_ | apply Wl.nil | apply St.region
 refine GtN.next (StN.seq (StN.seq (StN.of ?_)))
 repeat' first | (apply Wl.lenChan (b := ch) (cap := 4) (l := bx i) chTy;exact rfl;exact rfl;(intro w' h';exact hch.upd h'.upd fun y => y trivial)) | refine Wl.move rfl rfl ?_ | apply Wl.nil | apply St.region
 rw [show (bx i).length = ls.length by rw [hb,List.length_map]]
 refine GtN.next (GtN.base fun w0 h0 => StN.block ?_)
 refine StN.loop (σ := Nat × World × Value) (fun τ => τ.1 ≤ ls.length ∧ ChanB τ.2.1 ch 4 ((ls.drop τ.1 ++ ls.take τ.1).map letV) ∧ τ.2.1.ownsRow w.heap.size 78 2 τ.2.2 τ.1 ((ls.take τ.1).map lineC).flatten ∧ Upd (fun k => k = ch ∨ w.heap.size ≤ k) w τ.2.1)
  (fun τ => [(5,.chan (some ch)),(6,τ.2.2),(12,.int .i64 (ls.length : Int)),(13,.int .i64 (τ.1 : Int))]) (fun τ => Hp τ.2.1 []) (fun τ => ls.length - τ.1) (0,w0,.slice none 0 0) ⟨Nat.zero_le _,?_,World.ownsRow_nil _ _ _ _,h0.upd.mono fun _ _ y => (y trivial).elim⟩ kq (fun _ h => h) ?_
 ·simp only [List.drop_zero,List.take_zero,List.append_nil]
  rw [← hb]
  exact hch.upd h0.upd fun y => y trivial
 rintro ⟨j,w1,v⟩ ⟨hj,hc1,hv,hu⟩
 simp only at hj hc1 hv hu ⊢
 have z1 := hu.size
 by_cases hjl : j < ls.length
 ·have hd : decide ((j : Int) < (ls.length : Int)) = true := decide_eq_true kf
  obtain ⟨r1,r2⟩ := rot ls j hjl
  rw [r1,List.map_cons] at hc1
  refine StN.seq (StN.of ?_)
  repeat' first | refine Wl.lss rfl rfl rfl ?_ | apply Wl.nil | apply St.region
  refine GtN.next (StN.seq (StN.of ?_))
  repeat' first | (apply St.condT;exact rfl;exact k5) | apply St.skip
  refine GtN.next (StN.seq (StN.block (StN.seq (StN.region ?_))))
  refine SmN.val (v := .chan (some ch)) rfl rfl rfl rfl (fun a w ha _ => by simp [execOp,ha.ev (x := .tmp 5) rfl]) ?_
  refine SmN.recv (c := ch) (cap := 4) (l := (ls.drop (j + 1) ++ ls.take j).map letV) (v := letV ls[j]) (t := 232) (ch := .tmp 15) (zv := zLet) rfl rfl rfl rfl rfl (fun w' => ?_) rfl hc1 trivial (fun w2 hc2 u2 => ?_)
  ·simp [execOp,Go.Conc.rcase,run_zero (P := Tryz.prog) (t := 78),zLet]
  refine SmN.tail 2 ?_
  simp only [List.drop_succ_cons,List.drop_zero]
  have hv2 : w2.ownsRow w.heap.size 78 2 v j ((ls.take j).map lineC).flatten := ownsRow_upd hv u2 fun k hk hs => hs.elim (fun e => (hv.heap hk).elim fun _ hg => chan_ne hc1 hg e.symm) fun y => y trivial
  have U2 : Upd (fun k => k = ch ∨ w.heap.size ≤ k) w w2 := hu.comp u2 fun k _ hs => hs.elim id fun h => h.elim .inl fun y => (y trivial).elim
  have z2 := U2.size
  repeat' first | (apply Wl.storeA;exact rfl;exact rfl;exact rfl;exact rfl;exact kd;exact kj) | (apply Wl.alloc;exact rfl;intro c hc ho) | apply Wl.nil
  generalize c = c7 at *
  have hc7 : w2.heap.size ≤ c7 := by assumption
  refine GtN.next (StN.seq (StN.of ?_))
  repeat' first | refine Wl.move rfl rfl ?_ | (apply Wl.loadAH;exact rfl;exact rfl;exact kd;exact kd) | (apply Wl.lit;exact rfl;exact kh;exact rfl;exact rfl;exact ke;intro c hc ho) | apply St.region
  apply Wl.appendT (base := w.heap.size) (n := j) (m := 1) (sz := 2) (e := 78) (xs := ((ls.take j).map lineC).flatten)
  ·exact rfl
  ·exact rfl
  ·exact rfl
  ·assumption
  ·exact rfl
  ·exact hv2
  ·exact fun k hk => ⟨fun e => by have := (hv2.ge k hk).2;simp only at e;omega,trivial⟩
  ·exact rfl
  ·exact rfl
  ·decide
  ·unfold maxLen;omega
  ·omega
  ·exact z2
  intro v' w3 ho3 u3 _ hoff3
  repeat' first | refine Wl.assign rfl rfl ?_ | apply Wl.nil
  have nch : ∀ k,v.ownBlock = some k → k ≠ ch := fun k hk e => (hv2.heap hk).elim fun _ hg => chan_ne hc2 hg e.symm
  have hc3 : ChanB w3 ch 4 ((ls.drop (j + 1) ++ ls.take j).map letV) := hc2.upd u3 fun h => h.elim (fun h => nch ch h rfl) fun y => y ⟨by have := hc2.lt;simp only;omega,trivial⟩
  have z3 := u3.size
  refine GtN.next (GtN.base fun w4 h4' => StN.region ?_)
  have hc4 : ChanB w4 ch 4 ((ls.drop (j + 1) ++ ls.take j).map letV) := hc3.upd h4'.upd fun y => y ⟨by have := hc2.lt;simp only;omega,trivial⟩
  refine SmN.val (v := .chan (some ch)) rfl rfl rfl rfl (fun a w ha _ => by simp [execOp,ha.ev (x := .tmp 5) rfl]) ?_
  refine SmN.val (v := letV ls[j]) rfl rfl rfl rfl (fun a w' ha hw => ?_) ?_
  ·have e7 : a.eval (.tmp 7) = .pointer (some ⟨c7,0,none⟩) := ha.ev rfl
   have hcell : ∀ q v,(lineC ls[j])[q]? = some v → w'.cell? (Addr.add ⟨c7,0,none⟩ q) = some v := fun q v hq => by
    rw [addLit,Nat.zero_add]
    exact cell_of (hw.own.at (.head _)) hq
   simp [execOp,e7,Instr.loadAt,Instr.sureAddr,run_loadA (P := Tryz.prog) (t := 78) (xs := lineC ls[j]) rfl hcell]
   rfl
  refine SmN.send (c := ch) (cap := 4) (l := (ls.drop (j + 1) ++ ls.take j).map letV) (v := letV ls[j]) (ch := .tmp 21) (x := .tmp 22) rfl rfl rfl rfl rfl rfl hc4 zf ⟨by have := hc2.lt;simp only;omega,trivial⟩ (fun w5 hc5 u5 => ?_)
  refine SmN.nil ?_
  apply Gt.inNormal
  refine GtN.next (StN.of ?_)
  repeat' first | refine Wl.move rfl rfl ?_ | (refine Wl.addI rfl rfl rfl ?_ ?_;constructor <;> omega) | apply Wl.nil | apply St.region
  refine Gt.reb (H' := []) fun w6 h6 => ⟨trivial,trivial,?_⟩
  have key : ∀ {k},¬ Off [⟨c7,lineC ls[j],78⟩] k → w.heap.size ≤ k := fun {k} hn => Classical.byContradiction fun hlt => hn ⟨fun e => by simp only at e;omega,trivial⟩
  have U3 : Upd (fun k => k = ch ∨ w.heap.size ≤ k) w w3 := U2.comp u3 fun k _ hs => hs.elim id fun h => h.elim (fun h => .inr (hv2.ge k h).1) fun h => .inr (by
   refine Classical.byContradiction fun hlt => h ⟨fun e => ?_,trivial⟩
   simp only at e
   omega)
  have U6 : Upd (fun k => k = ch ∨ w.heap.size ≤ k) w w6 := ((U3.comp h4'.upd (T := fun k => k = ch ∨ w.heap.size ≤ k) fun k _ hs => hs.elim id fun h => .inr (key h)).comp u5 (T := fun k => k = ch ∨ w.heap.size ≤ k) fun k _ hs => hs.elim id fun h => h.elim .inl fun h => .inr (key h)).comp h6.upd fun k _ hs => hs.elim id fun h => .inr (key h)
  have hv6 : ∀ k,v'.ownBlock = some k → k ≠ ch ∧ Off [⟨c7,lineC ls[j],78⟩] k := fun k hk => ⟨fun e => (ho3.heap hk).elim fun _ hg => chan_ne hc3 hg e.symm,(hoff3 k hk).1⟩
  refine Gt.round (j + 1,w6,v') ⟨by simp only;omega,?_,?_,U6⟩ ky kq (fun _ h => h)
  ·have e : (ls.drop (j + 1) ++ ls.take j).map letV ++ [letV ls[j]] = (ls.drop (j + 1) ++ ls.take (j + 1)).map letV := by rw [← r2,List.map_append (l₂ := [ls[j]])];rfl
   rw [e] at hc5
   exact hc5.upd h6.upd fun y => y ⟨by have := hc2.lt;simp only;omega,trivial⟩
  ·have e : ((ls.take (j + 1)).map lineC).flatten = ((ls.take j).map lineC).flatten ++ lineC ls[j] := by
    rw [List.take_add_one,List.getElem?_eq_getElem hjl,List.map_append,List.flatten_append]
    simp only [Option.toList_some,List.map_cons,List.map_nil,List.flatten_cons,List.flatten_nil,List.append_nil]
   simp only
   rw [e]
   exact ownsRow_upd (ownsRow_upd (ownsRow_upd ho3 h4'.upd fun k hk y => y (hv6 k hk).2) u5 fun k hk y => y.elim (hv6 k hk).1 fun y => y (hv6 k hk).2) h6.upd fun k hk y => y (hv6 k hk).2
 ·obtain rfl : j = ls.length := by omega
  have hd : decide ((ls.length : Int) < (ls.length : Int)) = false := decide_eq_false kf
  have eT : ls.take ls.length = ls := List.take_length
  have eD : ls.drop ls.length ++ ls = ls := by rw [List.drop_length];rfl
  rw [eT] at hc1 hv
  rw [eD,← hb] at hc1
  refine StN.seq (StN.of ?_)
  repeat' first | refine Wl.lss rfl rfl rfl ?_ | apply Wl.nil | apply St.region
  refine GtN.next (StN.seq (StN.of ?_))
  repeat' first | (apply St.condF;exact rfl;exact k5) | apply St.exit | apply Gt.thenExit | apply Gt.inExit
  refine GtN.next (StN.of ?_)
  repeat' first | refine Wl.move rfl rfl ?_ | refine Wl.assign rfl rfl ?_ | apply Wl.nil | apply St.seq | apply St.region | apply St.ret | apply Gt.next | (apply Gt.out1;exact rfl;exact rfl;intro w' hp)
  have hw : Upd (fun _ => False) w1 w' := (by assumption : Hp w1 [] w').upd.mono fun _ _ y => (y trivial).elim
  have U := hu.comp hw (T := fun k => k = ch ∨ w.heap.size ≤ k) fun k _ hs => hs.elim id fun y => y.elim
  obtain ⟨⟨cap,J,a,b⟩,hchs,hjj,rr⟩ := hP
  refine ⟨v,rfl,ownsRow_upd hv hw fun k _ y => y.elim,⟨⟨cap,J,U.heap a fun e => e.elim (fun e => chan_ne (hchs i ch hi) a e.symm) kf,U.heap b fun e => e.elim (fun e => chan_ne (hchs i ch hi) b e.symm) kf⟩,fun j' c' hj' => ?_,hjj,rr⟩,U⟩
  by_cases e : j' = i
  ·subst e
   rw [hi] at hj'
   cases hj'
   exact hc1.upd hw fun y => y
  ·exact (hchs j' c' hj').upd U fun e' => e'.elim (fun e' => e (hjj j' i ch (e' ▸ hj') hi)) fun y => by have := (hchs j' c' hj').lt;omega
end Go.Proofs.YtabbklpalbikdaaGreatDoor
end
