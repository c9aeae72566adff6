/-
 5 texts,one behind the other;each says what it proves. Conditions: as each text says.
-/
import Derived.Test.YtabbklpalbikdaaGreatDoorM03
import Derived.Test.YtabbklpalbikdaaGreatDoorM01
set_option maxHeartbeats 32000000
set_option linter.unusedVariables false
set_option linter.unusedSimpArgs false
section
namespace Go.Proofs.YtabbklpalbikdaaGreatDoor
open Go.RowKit Go.Pt
theorem Hp.restT {S : Nat → Prop} {w0 w w' : World} {H : List Blk} (h : Hp w0 H w) (u : Upd S w w') (hs : ∀ x ∈ H,¬ S x.b) : Hp w' H w' := ⟨Upd.refl _ _,h.own.upd u hs,h.apart⟩
def BxR (w : World) (base : Nat) (ls : Nat → List (Int × List UInt8)) (vs : List Value) (n : Nat) : Prop :=
 vs.length = n ∧ ∀ j,j < n → ∃ v,vs[j]? = some v ∧ w.ownsRow base 78 2 v (ls j).length ((ls j).map lineC).flatten
structure StT (w : World) (base : Nat) (M : Mv2) (ls : Nat → List (Int × List UInt8)) (sv iv bv lv : Value) (cM : Nat) (vs : List Value) : Prop where
 s : w.ownsRow base 44 35 sv M.L.length (stas M.L).flatten
 i : w.ownsRow base 9 1 iv M.L.length (M.ins.map strV)
 b : w.ownsRow base 76 1 bv M.L.length vs
 bl : BxR w base ls vs M.L.length
 l : w.ownsRow base 111 2 lv M.ll.length (M.ll.map lineC).flatten
 m : memH w cM M.f
def Zc (I : Mi) (ls : Nat → List (Int × List UInt8)) (k : Nat) : Prop := ∃ i,I.cs[i]? = some k ∧ ls i ≠ []
theorem Zc.mem {I : Mi} {ls : Nat → List (Int × List UInt8)} {k : Nat} (h : Zc I ls k) : k ∈ I.cs := h.elim fun _ h => List.mem_of_getElem? h.1
structure StJ (w wc : World) (base : Nat) (I : Mi) (M : Mv2) (ls : Nat → List (Int × List UInt8)) (i1 i2 i3 : Nat) (sv iv bv lv : Value) (vs : List Value) (c2 c3 cC : Nat) : Prop where
 mon : MonS wc base I M
 s : wc.ownsRow w.heap.size 44 35 sv i1 (stas (M.L.take i1)).flatten
 i : wc.ownsRow w.heap.size 9 1 iv i2 ((M.ins.take i2).map strV)
 b : wc.ownsRow w.heap.size 76 1 bv i3 vs
 bl : vs.length = i3 ∧ ∀ j,j < i3 → ∃ v,vs[j]? = some v ∧ wc.ownsRow w.heap.size 78 2 v (ls j).length ((ls j).map lineC).flatten ∧ ∀ k,v.ownBlock = some k → k ≠ c3 ∧ k ≠ c2
 l : wc.ownsRow w.heap.size 111 2 lv M.ll.length (M.ll.map lineC).flatten
 m : memH wc cC M.f
 os : ∀ k,sv.ownBlock = some k → k ≠ c3 ∧ k ≠ c2
 oi : ∀ k,iv.ownBlock = some k → k ≠ c3 ∧ k ≠ c2
 ob : ∀ k,bv.ownBlock = some k → k ≠ c3 ∧ k ≠ c2
 ol : ∀ k,lv.ownBlock = some k → k ≠ c3 ∧ k ≠ c2
 u : Upd (fun k => Zc I ls k ∨ w.heap.size ≤ k) w wc
 cc : c3 ≠ cC ∧ c2 ≠ cC ∧ w.heap.size ≤ c2 ∧ w.heap.size ≤ c3 ∧ w.heap.size ≤ cC ∧ c3 ≠ c2
section
variable {w wc w1 : World} {base : Nat} {I : Mi} {M : Mv2} {ls : Nat → List (Int × List UInt8)} {i1 i2 i3 : Nat} {sv iv bv lv v : Value} {vs : List Value} {c2 c3 cC : Nat} {t2 t3 : Nat} {xs2 xs3 : List Value}
theorem StJ.grow (k : StJ w wc base I M ls i1 i2 i3 sv iv bv lv vs c2 c3 cC) (h0 : MonS w base I M) {x : Value} (hx : ∀ b,x.ownBlock = some b → w.heap.size ≤ b) (u1 : Upd (fun k => x.ownBlock = some k ∨ ¬ Off [⟨c3,xs3,t3⟩,⟨c2,xs2,t2⟩] k) wc w1) : MonS w1 base I M ∧ Upd (fun k => Zc I ls k ∨ w.heap.size ≤ k) w w1 := by
 have hc := k.cc
 have key : ∀ b,x.ownBlock = some b ∨ ¬ Off [⟨c3,xs3,t3⟩,⟨c2,xs2,t2⟩] b → w.heap.size ≤ b := fun b hb => by
  rcases hb with y | y
  ·exact hx b y
  ·rcases offs2 y with rfl | rfl <;> omega
 exact ⟨k.mon.upd u1 fun b hb hs => by have := key b hs;have := (h0.lt b hb).2;omega,k.u.comp u1 fun b _ hs => hs.elim id fun y => .inr (key b y)⟩
theorem StJ.upd {S : Nat → Prop} (k : StJ w wc base I M ls i1 i2 i3 sv iv bv lv vs c2 c3 cC) (h1 : MonS w1 base I M) (u1 : Upd S wc w1) (hs : ∀ b,S b → b < wc.heap.size → (Zc I ls b ∧ b < w.heap.size) ∨ b = c3 ∨ b = c2) : StJ w w1 base I M ls i1 i2 i3 sv iv bv lv vs c2 c3 cC := by
 obtain ⟨a1,a2,a3,a4,a5,a6⟩ := k.cc
 have kr : ∀ {y : Value} {e sz n : Nat} {xs : List Value},wc.ownsRow w.heap.size e sz y n xs → (∀ b,y.ownBlock = some b → b ≠ c3 ∧ b ≠ c2) → w1.ownsRow w.heap.size e sz y n xs := fun hr ho =>
  ownsRow_upd hr u1 fun b hb y => by
   have g := hr.ge b hb
   have := ho b hb
   rcases hs b y g.2 with h | h | h <;> omega
 exact {
  mon := h1
  s := kr k.s k.os
  i := kr k.i k.oi
  b := kr k.b k.ob
  bl := ⟨k.bl.1,fun j hj => by obtain ⟨v,e1,e2,e3⟩ := k.bl.2 j hj;exact ⟨v,e1,kr e2 e3,e3⟩⟩
  l := kr k.l k.ol
  m := u1.heap k.m fun y => by rcases hs _ y (lt_of_block k.m) with h | h | h <;> omega
  os := k.os
  oi := k.oi
  ob := k.ob
  ol := k.ol
  u := k.u.comp ((Upd.refl (fun b => Zc I ls b ∨ w.heap.size ≤ b) wc).comp u1 (T := fun b => Zc I ls b ∨ w.heap.size ≤ b) fun b hb h => h.elim id fun h => by rcases hs b h hb with h | h | h <;> first | exact .inl h.1 | (right;omega)) fun b _ h => h.elim id id
  cc := k.cc }
theorem bl_keep {x : Value} {e' sz' m : Nat} {ys : List Value} (k : StJ w wc base I M ls i1 i2 i3 sv iv bv lv vs c2 c3 cC) (hx : wc.ownsRow w.heap.size e' sz' x m ys) (he : 78 ≠ e') (u1 : Upd (fun k => x.ownBlock = some k ∨ ¬ Off [⟨c3,xs3,t3⟩,⟨c2,xs2,t2⟩] k) wc w1) : vs.length = i3 ∧ ∀ j,j < i3 → ∃ v,vs[j]? = some v ∧ w1.ownsRow w.heap.size 78 2 v (ls j).length ((ls j).map lineC).flatten ∧ ∀ k,v.ownBlock = some k → k ≠ c3 ∧ k ≠ c2 :=
 ⟨k.bl.1,fun j hj => by obtain ⟨v,e1,e2,e3⟩ := k.bl.2 j hj;exact ⟨v,e1,row_keep e2 hx he e3 u1,e3⟩⟩
theorem bl_add {i : Nat} (k : vs.length = i ∧ ∀ j,j < i → ∃ v,vs[j]? = some v ∧ w1.ownsRow w.heap.size 78 2 v (ls j).length ((ls j).map lineC).flatten ∧ ∀ k,v.ownBlock = some k → k ≠ c3 ∧ k ≠ c2) (h : w1.ownsRow w.heap.size 78 2 v (ls i).length ((ls i).map lineC).flatten) (hk : ∀ k,v.ownBlock = some k → k ≠ c3 ∧ k ≠ c2) :
  (vs ++ [v]).length = i + 1 ∧ ∀ j,j < i + 1 → ∃ v',(vs ++ [v])[j]? = some v' ∧ w1.ownsRow w.heap.size 78 2 v' (ls j).length ((ls j).map lineC).flatten ∧ ∀ k,v'.ownBlock = some k → k ≠ c3 ∧ k ≠ c2 := by
 refine ⟨by rw [List.length_append,k.1];rfl,fun j hj => ?_⟩
 by_cases e : j < i
 ·obtain ⟨v',e1,e2⟩ := k.2 j e
  exact ⟨v',by rw [List.getElem?_append_left (by rw [k.1];exact e)];exact e1,e2⟩
 ·obtain rfl : j = i := by omega
  exact ⟨v,by rw [List.getElem?_append_right (by rw [k.1];exact Nat.le_refl _),k.1,Nat.sub_self];rfl,h,hk⟩
end
theorem pAllM (base : Nat) (I : Mi) (M : Mv2) (ls : Nat → List (Int × List UInt8)) (i : Nat) (w : World) (hM : MonS w base I M) (hi : i < M.L.length) (hb : M.bx i = (ls i).map letV ∧ (ls i).length ≤ 4) :
  Calls Tryz.prog 75 #[.pointer (some ⟨I.pp,0,none⟩),.int .i64 i] w fun e w' => ∃ v,∃ S : Nat → Prop,e = .returned v ∧ w'.ownsRow w.heap.size 78 2 v (ls i).length ((ls i).map lineC).flatten ∧ MonS w' base I M ∧ (∀ k,S k → Zc I ls k) ∧ Upd S w w' := by
 obtain ⟨ch,hc⟩ : ∃ c,I.cs[i]? = some c := ⟨_,List.getElem?_eq_getElem (by rw [hM.len.1];exact hi)⟩
 by_cases h0 : ls i = []
 ·refine (pAll0 I.pp I.pa I.cs M.bx i w hM.post (by rw [hM.len.1];exact hi) (by rw [hb.1,h0];rfl)).mono ?_
  rintro e w' ⟨rfl,hq⟩
  exact ⟨_,fun _ => False,rfl,by rw [h0];exact World.ownsRow_nil _ _ _ _,hM.upd hq.upd fun _ _ y => y trivial,fun _ h => h.elim,hq.upd.mono fun _ _ y => y trivial⟩
 ·refine (pAll I.pp I.pa I.cs M.bx i ch (ls i) w hM.post hc hb.1 hb.2).mono ?_
  rintro e w' ⟨v,rfl,h1,h2,h3⟩
  have u : Upd (fun k => k = ch) w w' := (Upd.refl (fun k => k = ch) w).comp h3 fun k hk hs => hs.elim id fun h => h.elim id fun h => by omega
  exact ⟨v,fun k => k = ch,rfl,h1,hM.snd (List.mem_of_getElem? hc) h2 u,fun k hk => ⟨i,hk ▸ hc,h0⟩,u⟩
theorem mStateL (base : Nat) (I : Mi) (M : Mv2) (ls : Nat → List (Int × List UInt8)) (w : World) (hM : MonS w base I M) (hb : base ≤ w.heap.size) (hbx : ∀ i,i < M.L.length → M.bx i = (ls i).map letV ∧ (ls i).length ≤ 4) (hll : M.ll.length ≤ 1000) :
  Calls Tryz.prog 20 #[.pointer (some ⟨I.m,0,none⟩)] w fun e w' => ∃ sv iv bv lv cM' vs,e = .returned (.agg #[.int .i64 (turnV M.t),sv,iv,bv,lv,.pointer (some ⟨cM',0,none⟩)]) ∧ StT w' w.heap.size M ls sv iv bv lv cM' vs ∧ w.heap.size ≤ cM' ∧ MonS w' base I M ∧ Upd (fun k => Zc I ls k ∨ w.heap.size ≤ k) w w' := by
 have hM0 := hM
 have hw : Upd (fun k => w.heap.size ≤ k) w w := Upd.refl _ _
 have hn1 := hM.ward.2.2
 have hTn := fun wq (k : MonS wq base I M) => wTurn I.wd I.sa M.L M.t wq k.ward
 change ∀ wq,MonS wq base I M → Calls Tryz.prog 58 #[.pointer (some ⟨I.wd,0,none⟩)] wq (fun e w' => e = .returned (.int .i64 (turnV M.t)) ∧ Hp wq [] w') at hTn
 refine enter (args := [_]) (Γ := [(0,_)]) Tryz.func20 Tryz.ntmps20 rfl odq (.cons rfl .nil) ?_
 repeat' first | refine Wl.move rfl rfl ?_ | refine Wl.eqlPN rfl rfl rfl ?_ | (apply Wl.alloc;exact rfl;intro c hc ho) | apply Wl.nil | apply St.region | (apply St.condF;exact rfl;exact k5) | apply St.skip | apply Gt.next | (apply St.seqK (k := 3);exact rfl) | (apply St.seqKS (k := 3);exact rfl)
 generalize c = c2 at *
 have hc2 : w.heap.size ≤ c2 := by assumption
 apply St.cut (σ := World × Nat × Value × Nat) (fun τ => MonS τ.1 base I M ∧ w.heap.size ≤ τ.2.1 ∧ τ.2.1 ≠ c2 ∧ τ.1.ownsRow w.heap.size 111 2 τ.2.2.1 M.ll.length (M.ll.map lineC).flatten ∧ memH τ.1 τ.2.2.2 M.f ∧ w.heap.size ≤ τ.2.2.2 ∧ Upd (fun k => w.heap.size ≤ k) w τ.1 ∧ τ.2.1 ≠ τ.2.2.2 ∧ c2 ≠ τ.2.2.2 ∧ (∀ k,τ.2.2.1.ownBlock = some k → k ≠ τ.2.1 ∧ k ≠ c2))
  (fun τ => [(0,.pointer (some ⟨I.m,0,none⟩)),(2,.pointer (some ⟨c2,0,none⟩)),(3,.pointer (some ⟨τ.2.1,0,none⟩))])
  (fun τ => Hp τ.1 [⟨τ.2.1,[.int .i64 (turnV M.t),.slice none 0 0,.slice none 0 0,.slice none 0 0,τ.2.2.1,.pointer (some ⟨τ.2.2.2,0,none⟩)],54⟩,⟨c2,[.int .i64 0,.slice none 0 0,.slice none 0 0,.slice none 0 0,.slice none 0 0,.pointer none],54⟩])
 ·skip
  refine St.tree (fun w' => MonS w' base I M) mixed (fun _ h' => ⟨Hp.drew h',hM.hp0 hM0 (Hp.drew h') k6⟩) ?_
  refine Mt.pm 0 ?_
  refine Mt.pm 5 ?_
  refine Mt.pm 13 ?_
  refine Mt.pn 1 ?_
  refine Mt.pn 6 ?_
  refine Mt.pn 14 ?_
  refine Mt.pz 2 ?_
  refine Mt.pz 7 ?_
  refine Mt.pz 15 ?_
  refine Mt.pu 3 ?_
  apply Wl.loadF;exact rfl;exact rfl;(intro w' h';first | exact cell_of h'.mm rfl | exact cell_of h'.dd rfl);apply Wl.nilB
  refine Mt.pu 8 ?_
  apply Wl.loadF;exact rfl;exact rfl;(intro w' h';first | exact cell_of h'.mm rfl | exact cell_of h'.dd rfl);apply Wl.nilB
  refine Mt.pu 16 ?_
  apply Wl.loadF;exact rfl;exact rfl;(intro w' h';first | exact cell_of h'.mm rfl | exact cell_of h'.dd rfl);apply Wl.nilB
  refine Mt.pn 9 ?_
  refine Mt.pn 17 ?_
  refine Mt.pz 10 ?_
  refine Mt.pz 18 ?_
  refine Mt.pu 11 ?_
  apply Wl.loadF;exact rfl;exact rfl;(intro w' h';first | exact cell_of h'.mm rfl | exact cell_of h'.dd rfl);apply Wl.nilB
  refine Mt.pu 19 ?_
  apply Wl.loadF;exact rfl;exact rfl;(intro w' h';first | exact cell_of h'.mm rfl | exact cell_of h'.dd rfl);apply Wl.nilB
  refine Mt.eff2 (i := 4) (j := 22) kb kf kf ?_ ?_
  ·apply Wl.callQ
   ·exact rfl
   ·exact kd
   ·intro wq hq
    exact hq.q (hTn wq (hM.hp0 hM0 hq k6))
   apply Wl.nil
   refine Mt.backE (fun _ h' => hM.hp0 hM0 h' k6) ?_
   refine Mt.eff2 (i := 12) (j := 22) kb kf kf ?_ ?_
   ·apply Wl.callC
    ·exact rfl
    ·exact kd
    intro wq hq
    have hMq := hM.hp0 hM0 hq k6
    have zq := hq.upd.size
    have hltL : ∀ x : Blk,x ∈ _ → x.b < wq.heap.size := fun x hx => hq.own.lt hx
    simp only [List.mem_cons,List.not_mem_nil,or_false,forall_eq_or_imp,forall_eq] at hltL
    refine (bLines base I.bd I.ia M.lv M.ll M.used M.ins wq hMq.board kc hll).mono ?_
    rintro e wL ⟨lvv,rfl,hLv,uL⟩
    have hqL := hq.newer uL
    have zL := uL.size
    have hwL : Upd (fun k => w.heap.size ≤ k) w wL := hqL.on hw k6
    have hM := hMq.new uL (Nat.le_refl _)
    have lvge := hLv.ge
    have hlv1 := hLv.one
    refine ⟨_,_,rfl,hqL.rb,?_⟩
    clear hMq
    apply Wl.nil
    refine Mt.backE (fun _ h' => hM.hp0 hM0 h' k6) ?_
    refine Mt.eff2 (i := 20) (j := 22) kb kf kf ?_ ?_
    ·apply Wl.callC
     ·exact rfl
     ·exact kd
     intro wq2 hq2
     have hMq := hM.hp0 hM0 hq2 k6
     have zq2 := hq2.upd.size
     have hltC : ∀ x : Blk,x ∈ _ → x.b < wq2.heap.size := fun x hx => hq2.own.lt hx
     simp only [List.mem_cons,List.not_mem_nil,or_false,forall_eq_or_imp,forall_eq] at hltC
     refine (mcopy I.cM M.f wq2 hMq.mem).mono ?_
     rintro e wC ⟨cC,rfl,hcC,hmC,uC⟩
     have hqC := hq2.newer uC
     have zC := uC.size
     have hwC : Upd (fun k => w.heap.size ≤ k) w wC := hqC.on hwL k6
     have hM := hMq.new uC (Nat.le_refl _)
     have hLvC := ownsRow_upd (ownsRow_upd hLv hq2.upd fun k hk y => y (Off.of zt)) uC fun k hk => by have h1 := lvge k hk;omega
     have lmC := lt_of_block hmC
     refine ⟨_,_,rfl,hqC.rb,?_⟩
     clear hMq
     apply Wl.nil
     refine Mt.backE (fun _ h' => hM.hp0 hM0 h' k6) ?_
     refine Mt.pu 21 ?_
     apply Wl.buildS;exact rfl;exact kj;exact zj;apply Wl.nilB
     refine Mt.e1 22 ?_
     apply Wl.alloc
     ·exact rfl
     intro c3 hc3 ho3
     apply Wl.nil
     refine Mt.backE (fun _ h' => hM.hp0 hM0 h' k6) ?_
     refine Mt.e1 23 ?_
     apply Wl.storeA
     ·exact rfl
     ·exact rfl
     ·exact rfl
     ·show (true && (true && (true && (true && (Value.oneCell' lvv && (true && true)))))) = true;rw [hlv1];rfl
     ·exact kd
     ·exact .z (LOver.whole rfl)
     apply Wl.nil
     refine Mt.backE (fun _ h' => hM.hp0 hM0 h' k6) ?_
     refine Mt.toGt kb ?_
     apply Gt.meet (wC,c3,lvv,cC)
     ·exact ⟨hM,by simp only;omega,fun e => ho3.1 e.symm,hLvC.baseLe kc,hmC,by simp only;omega,hwC,by simp only;omega,by simp only;omega,fun k hk => by have h1 := lvge k hk;simp only;omega⟩
     ·exact kd
     ·exact fun _ h' => h'
    ·apply Wl.alloc
     ·exact rfl
     intro c3 hc3 ho3
     apply Wl.nil
     refine Mt.backE (fun _ h' => hM.hp0 hM0 h' k6) ?_
     refine Mt.e1 20 ?_
     apply Wl.callC
     ·exact rfl
     ·exact kd
     intro wq2 hq2
     have hMq := hM.hp0 hM0 hq2 k6
     have zq2 := hq2.upd.size
     have hltC : ∀ x : Blk,x ∈ _ → x.b < wq2.heap.size := fun x hx => hq2.own.lt hx
     simp only [List.mem_cons,List.not_mem_nil,or_false,forall_eq_or_imp,forall_eq] at hltC
     refine (mcopy I.cM M.f wq2 hMq.mem).mono ?_
     rintro e wC ⟨cC,rfl,hcC,hmC,uC⟩
     have hqC := hq2.newer uC
     have zC := uC.size
     have hwC : Upd (fun k => w.heap.size ≤ k) w wC := hqC.on hwL k6
     have hM := hMq.new uC (Nat.le_refl _)
     have hLvC := ownsRow_upd (ownsRow_upd hLv hq2.upd fun k hk y => y (Off.of zt)) uC fun k hk => by have h1 := lvge k hk;omega
     have lmC := lt_of_block hmC
     refine ⟨_,_,rfl,hqC.rb,?_⟩
     clear hMq
     apply Wl.nil
     refine Mt.backE (fun _ h' => hM.hp0 hM0 h' k6) ?_
     refine Mt.pu 21 ?_
     apply Wl.buildS;exact rfl;exact kj;exact zj;apply Wl.nilB
     refine Mt.e1 23 ?_
     apply Wl.storeA
     ·exact rfl
     ·exact rfl
     ·exact rfl
     ·show (true && (true && (true && (true && (Value.oneCell' lvv && (true && true)))))) = true;rw [hlv1];rfl
     ·exact kd
     ·exact .z (LOver.whole rfl)
     apply Wl.nil
     refine Mt.backE (fun _ h' => hM.hp0 hM0 h' k6) ?_
     refine Mt.toGt kb ?_
     apply Gt.meet (wC,c3,lvv,cC)
     ·exact ⟨hM,by simp only;omega,fun e => ho3.1 e.symm,hLvC.baseLe kc,hmC,by simp only;omega,hwC,by simp only;omega,by simp only;omega,fun k hk => by have h1 := lvge k hk;simp only;omega⟩
     ·exact kd
     ·exact fun _ h' => h'
   ·apply Wl.alloc
    ·exact rfl
    intro c3 hc3 ho3
    apply Wl.nil
    refine Mt.backE (fun _ h' => hM.hp0 hM0 h' k6) ?_
    refine Mt.e1 12 ?_
    apply Wl.callC
    ·exact rfl
    ·exact kd
    intro wq hq
    have hMq := hM.hp0 hM0 hq k6
    have zq := hq.upd.size
    have hltL : ∀ x : Blk,x ∈ _ → x.b < wq.heap.size := fun x hx => hq.own.lt hx
    simp only [List.mem_cons,List.not_mem_nil,or_false,forall_eq_or_imp,forall_eq] at hltL
    refine (bLines base I.bd I.ia M.lv M.ll M.used M.ins wq hMq.board kc hll).mono ?_
    rintro e wL ⟨lvv,rfl,hLv,uL⟩
    have hqL := hq.newer uL
    have zL := uL.size
    have hwL : Upd (fun k => w.heap.size ≤ k) w wL := hqL.on hw k6
    have hM := hMq.new uL (Nat.le_refl _)
    have lvge := hLv.ge
    have hlv1 := hLv.one
    refine ⟨_,_,rfl,hqL.rb,?_⟩
    clear hMq
    apply Wl.nil
    refine Mt.backE (fun _ h' => hM.hp0 hM0 h' k6) ?_
    refine Mt.e1 20 ?_
    apply Wl.callC
    ·exact rfl
    ·exact kd
    intro wq2 hq2
    have hMq := hM.hp0 hM0 hq2 k6
    have zq2 := hq2.upd.size
    have hltC : ∀ x : Blk,x ∈ _ → x.b < wq2.heap.size := fun x hx => hq2.own.lt hx
    simp only [List.mem_cons,List.not_mem_nil,or_false,forall_eq_or_imp,forall_eq] at hltC
    refine (mcopy I.cM M.f wq2 hMq.mem).mono ?_
    rintro e wC ⟨cC,rfl,hcC,hmC,uC⟩
    have hqC := hq2.newer uC
    have zC := uC.size
    have hwC : Upd (fun k => w.heap.size ≤ k) w wC := hqC.on hwL k6
    have hM := hMq.new uC (Nat.le_refl _)
    have hLvC := ownsRow_upd (ownsRow_upd hLv hq2.upd fun k hk y => y (Off.of zt)) uC fun k hk => by have h1 := lvge k hk;omega
    have lmC := lt_of_block hmC
    refine ⟨_,_,rfl,hqC.rb,?_⟩
    clear hMq
    apply Wl.nil
    refine Mt.backE (fun _ h' => hM.hp0 hM0 h' k6) ?_
    refine Mt.pu 21 ?_
    apply Wl.buildS;exact rfl;exact kj;exact zj;apply Wl.nilB
    refine Mt.e1 23 ?_
    apply Wl.storeA
    ·exact rfl
    ·exact rfl
    ·exact rfl
    ·show (true && (true && (true && (true && (Value.oneCell' lvv && (true && true)))))) = true;rw [hlv1];rfl
    ·exact kd
    ·exact .z (LOver.whole rfl)
    apply Wl.nil
    refine Mt.backE (fun _ h' => hM.hp0 hM0 h' k6) ?_
    refine Mt.toGt kb ?_
    apply Gt.meet (wC,c3,lvv,cC)
    ·exact ⟨hM,by simp only;omega,fun e => ho3.1 e.symm,hLvC.baseLe kc,hmC,by simp only;omega,hwC,by simp only;omega,by simp only;omega,fun k hk => by have h1 := lvge k hk;simp only;omega⟩
    ·exact kd
    ·exact fun _ h' => h'
  ·apply Wl.alloc
   ·exact rfl
   intro c3 hc3 ho3
   apply Wl.nil
   refine Mt.backE (fun _ h' => hM.hp0 hM0 h' k6) ?_
   refine Mt.e1 4 ?_
   apply Wl.callQ
   ·exact rfl
   ·exact kd
   ·intro wq hq
    exact hq.q (hTn wq (hM.hp0 hM0 hq k6))
   apply Wl.nil
   refine Mt.backE (fun _ h' => hM.hp0 hM0 h' k6) ?_
   refine Mt.e1 12 ?_
   apply Wl.callC
   ·exact rfl
   ·exact kd
   intro wq hq
   have hMq := hM.hp0 hM0 hq k6
   have zq := hq.upd.size
   have hltL : ∀ x : Blk,x ∈ _ → x.b < wq.heap.size := fun x hx => hq.own.lt hx
   simp only [List.mem_cons,List.not_mem_nil,or_false,forall_eq_or_imp,forall_eq] at hltL
   refine (bLines base I.bd I.ia M.lv M.ll M.used M.ins wq hMq.board kc hll).mono ?_
   rintro e wL ⟨lvv,rfl,hLv,uL⟩
   have hqL := hq.newer uL
   have zL := uL.size
   have hwL : Upd (fun k => w.heap.size ≤ k) w wL := hqL.on hw k6
   have hM := hMq.new uL (Nat.le_refl _)
   have lvge := hLv.ge
   have hlv1 := hLv.one
   refine ⟨_,_,rfl,hqL.rb,?_⟩
   clear hMq
   apply Wl.nil
   refine Mt.backE (fun _ h' => hM.hp0 hM0 h' k6) ?_
   refine Mt.e1 20 ?_
   apply Wl.callC
   ·exact rfl
   ·exact kd
   intro wq2 hq2
   have hMq := hM.hp0 hM0 hq2 k6
   have zq2 := hq2.upd.size
   have hltC : ∀ x : Blk,x ∈ _ → x.b < wq2.heap.size := fun x hx => hq2.own.lt hx
   simp only [List.mem_cons,List.not_mem_nil,or_false,forall_eq_or_imp,forall_eq] at hltC
   refine (mcopy I.cM M.f wq2 hMq.mem).mono ?_
   rintro e wC ⟨cC,rfl,hcC,hmC,uC⟩
   have hqC := hq2.newer uC
   have zC := uC.size
   have hwC : Upd (fun k => w.heap.size ≤ k) w wC := hqC.on hwL k6
   have hM := hMq.new uC (Nat.le_refl _)
   have hLvC := ownsRow_upd (ownsRow_upd hLv hq2.upd fun k hk y => y (Off.of zt)) uC fun k hk => by have h1 := lvge k hk;omega
   have lmC := lt_of_block hmC
   refine ⟨_,_,rfl,hqC.rb,?_⟩
   clear hMq
   apply Wl.nil
   refine Mt.backE (fun _ h' => hM.hp0 hM0 h' k6) ?_
   refine Mt.pu 21 ?_
   apply Wl.buildS;exact rfl;exact kj;exact zj;apply Wl.nilB
   refine Mt.e1 23 ?_
   apply Wl.storeA
   ·exact rfl
   ·exact rfl
   ·exact rfl
   ·show (true && (true && (true && (true && (Value.oneCell' lvv && (true && true)))))) = true;rw [hlv1];rfl
   ·exact kd
   ·exact .z (LOver.whole rfl)
   apply Wl.nil
   refine Mt.backE (fun _ h' => hM.hp0 hM0 h' k6) ?_
   refine Mt.toGt kb ?_
   apply Gt.meet (wC,c3,lvv,cC)
   ·exact ⟨hM,by simp only;omega,fun e => ho3.1 e.symm,hLvC.baseLe kc,hmC,by simp only;omega,hwC,by simp only;omega,by simp only;omega,fun k hk => by have h1 := lvge k hk;simp only;omega⟩
   ·exact kd
   ·exact fun _ h' => h'
 rintro ⟨w3,c3,lvv,cC⟩ ⟨hM3,hc3,hne,hL3,hm3,hcC,hu3,hne3,hne2,hlo⟩
 simp only at hM3 hc3 hne hL3 hm3 hcC hu3 hne3 hne2 hlo ⊢
 have hcnt := fun wq (k : MonS wq base I M) => wCount I.wd I.sa M.L M.t wq k.ward
 have q0 : w3.cell? ⟨I.m,2,none⟩ = some (.pointer (some ⟨I.wd,0,none⟩)) := cell_of hM3.mm rfl
 have hmlt := hM0.lt
 have lm1 := (hmlt I.m (.inl rfl)).2
 have l33 := hu3.size
 have lcC := lt_of_block hm3
 have loS : ∀ {b : Nat},b < w.heap.size → c3 ≠ b ∧ c2 ≠ b := fun hb => ⟨by omega,by omega⟩
 repeat' first | (apply Wl.loadO;exact rfl;exact rfl;exact zx;exact km) | refine Wl.move rfl rfl ?_ | refine Wl.nilCheck rfl rfl ?_ | refine Wl.fieldAddrZ rfl rfl ?_ | apply St.seq | apply St.region
 apply Wl.callQ
 exact rfl
 (focus repeat constructor)
 ·intro wq hq
  exact hq.q (hcnt wq (hM3.hp0 hM0 hq k6))
 repeat' first | refine Wl.move rfl rfl ?_ | apply Wl.nil | apply St.block | apply Gt.next
 refine St.loop (σ := Nat × World × Value × Value × Value × List Value) (fun τ => τ.1 ≤ M.L.length ∧ StJ w τ.2.1 base I M ls τ.1 τ.1 τ.1 τ.2.2.1 τ.2.2.2.1 τ.2.2.2.2.1 lvv τ.2.2.2.2.2 c2 c3 cC)
  (fun τ => [(0,.pointer (some ⟨I.m,0,none⟩)),(2,.pointer (some ⟨c2,0,none⟩)),(3,.pointer (some ⟨c3,0,none⟩)),(34,.int .i64 M.L.length),(35,.int .i64 (τ.1 : Int))])
  (fun τ => Hp τ.2.1 [⟨c3,[.int .i64 (turnV M.t),τ.2.2.1,τ.2.2.2.1,τ.2.2.2.2.1,lvv,.pointer (some ⟨cC,0,none⟩)],54⟩,⟨c2,[.int .i64 0,.slice none 0 0,.slice none 0 0,.slice none 0 0,.slice none 0 0,.pointer none],54⟩]) (fun τ => M.L.length - τ.1)
  (0,w3,.slice none 0 0,.slice none 0 0,.slice none 0 0,[]) ⟨Nat.zero_le _,hM3,World.ownsRow_nil _ _ _ _,World.ownsRow_nil _ _ _ _,World.ownsRow_nil _ _ _ _,⟨rfl,fun _ h => (Nat.not_lt_zero _ h).elim⟩,hL3,hm3,(fun k hk => by cases hk),(fun k hk => by cases hk),(fun k hk => by cases hk),hlo,hu3.mono fun _ _ h => .inr h,hne3,hne2,hc2,hc3,hcC,hne⟩ kq (fun _ h => h) ?_
 clear hM3 hL3 hm3 hu3 q0
 rintro ⟨i,w4,sv,iv,bv,vs⟩ ⟨hi,hS⟩
 simp only at hi hS ⊢
 obtain ⟨e1,e2,e3,e4,e5,e6⟩ := hS.cc
 have l44 := hS.u.size
 by_cases hlt : i < M.L.length
 ·have hd : decide ((i : Int) < (M.L.length : Int)) = true := decide_eq_true kc
  obtain ⟨x,hx⟩ : ∃ x,M.L[i]? = some x := ⟨_,List.getElem?_eq_getElem hlt⟩
  obtain ⟨s,hs⟩ : ∃ s,M.ins[i]? = some s := ⟨_,List.getElem?_eq_getElem (by have := hM0.len.2;omega)⟩
  have hxo := hM0.ward.2.1 x (List.mem_of_getElem? hx)
  repeat' first | refine Wl.lss rfl rfl rfl ?_ | apply Wl.nil | apply St.region | (apply St.condT;exact rfl;exact k5) | apply St.skip | apply Gt.next | (apply St.seqK (k := 7);exact rfl) | apply St.seqC
  apply St.seq
  repeat' first | refine Wl.move rfl rfl ?_ | refine Wl.assign rfl rfl ?_ | apply Wl.nil | apply St.block | apply St.region | apply Gt.next | (apply St.seqK (k := 7);exact rfl)
  apply St.cut (σ := World × Value) (fun τ => StJ w τ.1 base I M ls (i + 1) i i τ.2 iv bv lvv vs c2 c3 cC)
   (fun τ => [(0,.pointer (some ⟨I.m,0,none⟩)),(2,.pointer (some ⟨c2,0,none⟩)),(3,.pointer (some ⟨c3,0,none⟩)),(4,.int .i64 (i : Int)),(34,.int .i64 M.L.length),(35,.int .i64 (i : Int))])
   (fun τ => Hp τ.1 [⟨c3,[.int .i64 (turnV M.t),τ.2,iv,bv,lvv,.pointer (some ⟨cC,0,none⟩)],54⟩,⟨c2,[.int .i64 0,.slice none 0 0,.slice none 0 0,.slice none 0 0,.slice none 0 0,.pointer none],54⟩])
  ·have hM := hS.mon
   refine St.tree (fun w' => MonS w' base I M) mixed (fun _ h' => ⟨Hp.drew h',hM.hp0 hM0 (Hp.drew h') k6⟩) ?_
   refine Mt.pz 0 ?_
   refine Mt.pm 2 ?_
   refine Mt.pm 6 ?_
   refine Mt.pn 3 ?_
   refine Mt.pz 4 ?_
   refine Mt.pu 5 ?_
   apply Wl.loadF;exact rfl;exact rfl;(intro w' h';first | exact cell_of h'.mm rfl | exact cell_of h'.dd rfl);apply Wl.nilB
   refine Mt.eff2 (i := 1) (j := 7) kb kf kf ?_ ?_
   ·repeat' first | (apply Wl.loadH;exact rfl;exact rfl;exact kd;exact rfl) | apply Wl.nil
    refine Mt.backE (fun _ h' => hM.hp0 hM0 h' k6) ?_
    refine Mt.e1 7 ?_
    apply Wl.callQ
    ·exact rfl
    ·exact kd
    ·intro wq hq
     exact hq.q (wStatus I.wd I.sa M.L M.t i x wq (hM.hp0 hM0 hq k6).ward hx)
    apply Wl.nil
    refine Mt.backE (fun _ h' => hM.hp0 hM0 h' k6) ?_
    refine Mt.e1 8 ?_
    apply Wl.lit (cs := x.cells)
    ·exact rfl
    ·(repeat (first | exact Parts.nil | apply Parts.cons rfl))
    ·exact rfl
    ·exact rfl
    ·exact CatP.agg (by rw [hxo.len];rfl) .nil (lappE _)
    intro c8 hc8 ho8
    apply Wl.nil
    refine Mt.backE (fun _ h' => hM.hp0 hM0 h' k6) ?_
    refine Mt.e1 9 ?_
    apply Wl.appendT (base := w.heap.size) (n := i) (m := 1) (sz := 35) (e := 44) (xs := (stas (M.L.take i)).flatten)
    ·exact rfl
    ·exact rfl
    ·exact rfl
    ·assumption
    ·exact (by rw [hxo.len];rfl)
    ·exact hS.s
    ·exact fun k hk => ⟨fun e => (hS.os k hk).1 e.symm,fun e => (hS.os k hk).2 e.symm,trivial⟩
    ·exact hxo.one
    ·exact rfl
    ·decide
    ·unfold maxLen;omega
    ·omega
    ·omega
    intro v' w5 ho5 u5 _ hoff5
    have hov := ho5.one
    have s5 := u5.size
    obtain ⟨hM,hu5⟩ := hS.grow hM0 (fun b hb => (hS.s.ge b hb).1) u5
    apply Wl.nil
    refine Mt.backE (fun _ h' => hM.hp0 hM0 h' k6) ?_
    refine Mt.pz 10 ?_
    refine Mt.e1 11 ?_
    repeat' first | (apply Wl.store;exact rfl;exact rfl;exact hov;exact kd;exact ki) | apply Wl.nil
    refine Mt.backE (fun _ h' => hM.hp0 hM0 h' k6) ?_
    refine Mt.toGt kb ?_
    apply Gt.meet (w5,v')
    ·exact ⟨hM,(by rw [stas_take hx];exact ho5),row_keep hS.i hS.s ku hS.oi u5,row_keep hS.b hS.s ku hS.ob u5,bl_keep hS hS.s ku u5,row_keep hS.l hS.s ku hS.ol u5,mem_keep hS.m hS.s ku e1 e2 u5,(fun k hk => ⟨fun e => (hoff5 k hk).1.1 e.symm,fun e => (hoff5 k hk).1.2.1 e.symm⟩),hS.oi,hS.ob,hS.ol,hu5,hS.cc⟩
    ·exact kd
    ·exact fun _ h' => h'
   ·apply Wl.callQ
    ·exact rfl
    ·exact kd
    ·intro wq hq
     exact hq.q (wStatus I.wd I.sa M.L M.t i x wq (hM.hp0 hM0 hq k6).ward hx)
    apply Wl.nil
    refine Mt.backE (fun _ h' => hM.hp0 hM0 h' k6) ?_
    refine Mt.eff2 (i := 1) (j := 8) kb kf kf ?_ ?_
    ·repeat' first | (apply Wl.loadH;exact rfl;exact rfl;exact kd;exact rfl) | apply Wl.nil
     refine Mt.backE (fun _ h' => hM.hp0 hM0 h' k6) ?_
     refine Mt.e1 8 ?_
     apply Wl.lit (cs := x.cells)
     ·exact rfl
     ·(repeat (first | exact Parts.nil | apply Parts.cons rfl))
     ·exact rfl
     ·exact rfl
     ·exact CatP.agg (by rw [hxo.len];rfl) .nil (lappE _)
     intro c8 hc8 ho8
     apply Wl.nil
     refine Mt.backE (fun _ h' => hM.hp0 hM0 h' k6) ?_
     refine Mt.e1 9 ?_
     apply Wl.appendT (base := w.heap.size) (n := i) (m := 1) (sz := 35) (e := 44) (xs := (stas (M.L.take i)).flatten)
     ·exact rfl
     ·exact rfl
     ·exact rfl
     ·assumption
     ·exact (by rw [hxo.len];rfl)
     ·exact hS.s
     ·exact fun k hk => ⟨fun e => (hS.os k hk).1 e.symm,fun e => (hS.os k hk).2 e.symm,trivial⟩
     ·exact hxo.one
     ·exact rfl
     ·decide
     ·unfold maxLen;omega
     ·omega
     ·omega
     intro v' w5 ho5 u5 _ hoff5
     have hov := ho5.one
     have s5 := u5.size
     obtain ⟨hM,hu5⟩ := hS.grow hM0 (fun b hb => (hS.s.ge b hb).1) u5
     apply Wl.nil
     refine Mt.backE (fun _ h' => hM.hp0 hM0 h' k6) ?_
     refine Mt.pz 10 ?_
     refine Mt.e1 11 ?_
     repeat' first | (apply Wl.store;exact rfl;exact rfl;exact hov;exact kd;exact ki) | apply Wl.nil
     refine Mt.backE (fun _ h' => hM.hp0 hM0 h' k6) ?_
     refine Mt.toGt kb ?_
     apply Gt.meet (w5,v')
     ·exact ⟨hM,(by rw [stas_take hx];exact ho5),row_keep hS.i hS.s ku hS.oi u5,row_keep hS.b hS.s ku hS.ob u5,bl_keep hS hS.s ku u5,row_keep hS.l hS.s ku hS.ol u5,mem_keep hS.m hS.s ku e1 e2 u5,(fun k hk => ⟨fun e => (hoff5 k hk).1.1 e.symm,fun e => (hoff5 k hk).1.2.1 e.symm⟩),hS.oi,hS.ob,hS.ol,hu5,hS.cc⟩
     ·exact kd
     ·exact fun _ h' => h'
    ·apply Wl.lit (cs := x.cells)
     ·exact rfl
     ·(repeat (first | exact Parts.nil | apply Parts.cons rfl))
     ·exact rfl
     ·exact rfl
     ·exact CatP.agg (by rw [hxo.len];rfl) .nil (lappE _)
     intro c8 hc8 ho8
     apply Wl.nil
     refine Mt.backE (fun _ h' => hM.hp0 hM0 h' k6) ?_
     refine Mt.e1 1 ?_
     repeat' first | (apply Wl.loadH;exact rfl;exact rfl;exact kd;exact rfl) | apply Wl.nil
     refine Mt.backE (fun _ h' => hM.hp0 hM0 h' k6) ?_
     refine Mt.e1 9 ?_
     apply Wl.appendT (base := w.heap.size) (n := i) (m := 1) (sz := 35) (e := 44) (xs := (stas (M.L.take i)).flatten)
     ·exact rfl
     ·exact rfl
     ·exact rfl
     ·assumption
     ·exact (by rw [hxo.len];rfl)
     ·exact hS.s
     ·exact fun k hk => ⟨fun e => (hS.os k hk).1 e.symm,fun e => (hS.os k hk).2 e.symm,trivial⟩
     ·exact hxo.one
     ·exact rfl
     ·decide
     ·unfold maxLen;omega
     ·omega
     ·omega
     intro v' w5 ho5 u5 _ hoff5
     have hov := ho5.one
     have s5 := u5.size
     obtain ⟨hM,hu5⟩ := hS.grow hM0 (fun b hb => (hS.s.ge b hb).1) u5
     apply Wl.nil
     refine Mt.backE (fun _ h' => hM.hp0 hM0 h' k6) ?_
     refine Mt.pz 10 ?_
     refine Mt.e1 11 ?_
     repeat' first | (apply Wl.store;exact rfl;exact rfl;exact hov;exact kd;exact ki) | apply Wl.nil
     refine Mt.backE (fun _ h' => hM.hp0 hM0 h' k6) ?_
     refine Mt.toGt kb ?_
     apply Gt.meet (w5,v')
     ·exact ⟨hM,(by rw [stas_take hx];exact ho5),row_keep hS.i hS.s ku hS.oi u5,row_keep hS.b hS.s ku hS.ob u5,bl_keep hS hS.s ku u5,row_keep hS.l hS.s ku hS.ol u5,mem_keep hS.m hS.s ku e1 e2 u5,(fun k hk => ⟨fun e => (hoff5 k hk).1.1 e.symm,fun e => (hoff5 k hk).1.2.1 e.symm⟩),hS.oi,hS.ob,hS.ol,hu5,hS.cc⟩
     ·exact kd
     ·exact fun _ h' => h'
  clear hS
  rintro ⟨w4,sv⟩ hS
  simp only at hS ⊢
  have l44 := hS.u.size
  apply St.cut (σ := World × Value) (fun τ => StJ w τ.1 base I M ls (i + 1) (i + 1) i sv τ.2 bv lvv vs c2 c3 cC)
   (fun τ => [(0,.pointer (some ⟨I.m,0,none⟩)),(2,.pointer (some ⟨c2,0,none⟩)),(3,.pointer (some ⟨c3,0,none⟩)),(4,.int .i64 (i : Int)),(34,.int .i64 M.L.length),(35,.int .i64 (i : Int))])
   (fun τ => Hp τ.1 [⟨c3,[.int .i64 (turnV M.t),sv,τ.2,bv,lvv,.pointer (some ⟨cC,0,none⟩)],54⟩,⟨c2,[.int .i64 0,.slice none 0 0,.slice none 0 0,.slice none 0 0,.slice none 0 0,.pointer none],54⟩])
  ·have hM := hS.mon
   refine St.tree (fun w' => MonS w' base I M) mixed (fun _ h' => ⟨Hp.drew h',hM.hp0 hM0 (Hp.drew h') k6⟩) ?_
   refine Mt.pz 0 ?_
   refine Mt.pm 2 ?_
   refine Mt.pm 9 ?_
   refine Mt.pn 3 ?_
   refine Mt.pz 4 ?_
   refine Mt.pu 5 ?_
   apply Wl.loadF;exact rfl;exact rfl;(intro w' h';first | exact cell_of h'.mm rfl | exact cell_of h'.dd rfl);apply Wl.nilB
   refine Mt.pn 6 ?_
   refine Mt.pz 7 ?_
   refine Mt.pu 8 ?_
   apply Wl.loadF;exact rfl;exact rfl;(intro w' h';first | exact cell_of h'.mm rfl | exact cell_of h'.dd rfl);apply Wl.nilB
   refine Mt.eff2 (i := 1) (j := 10) kb kf kf ?_ ?_
   ·repeat' first | (apply Wl.loadH;exact rfl;exact rfl;exact kd;exact rfl) | apply Wl.nil
    refine Mt.backE (fun _ h' => hM.hp0 hM0 h' k6) ?_
    refine Mt.e1 10 ?_
    apply Wl.callQ
    ·exact rfl
    ·exact kd
    ·intro wq hq
     exact hq.q (bInput base I.bd I.ia M.lv M.ll M.used M.ins i s wq (hM.hp0 hM0 hq k6).board hs)
    apply Wl.nil
    refine Mt.backE (fun _ h' => hM.hp0 hM0 h' k6) ?_
    refine Mt.e1 11 ?_
    repeat' first | (apply Wl.lit;exact rfl;exact kj;exact rfl;exact rfl;exact ke;intro c hc ho) | apply Wl.nil
    generalize c = c8 at *
    have hc8 : w4.heap.size ≤ c8 := by assumption
    refine Mt.backE (fun _ h' => hM.hp0 hM0 h' k6) ?_
    refine Mt.e1 12 ?_
    apply Wl.appendT (base := w.heap.size) (n := i) (m := 1) (sz := 1) (e := 9) (xs := ((M.ins.take i).map strV))
    ·exact rfl
    ·exact rfl
    ·exact rfl
    ·assumption
    ·exact rfl
    ·exact hS.i
    ·exact fun k hk => ⟨fun e => (hS.oi k hk).1 e.symm,fun e => (hS.oi k hk).2 e.symm,trivial⟩
    ·exact rfl
    ·exact rfl
    ·decide
    ·unfold maxLen;omega
    ·omega
    ·omega
    intro v' w5 ho5 u5 _ hoff5
    have hov := ho5.one
    have s5 := u5.size
    obtain ⟨hM,hu5⟩ := hS.grow hM0 (fun b hb => (hS.i.ge b hb).1) u5
    apply Wl.nil
    refine Mt.backE (fun _ h' => hM.hp0 hM0 h' k6) ?_
    refine Mt.pz 13 ?_
    refine Mt.e1 14 ?_
    repeat' first | (apply Wl.store;exact rfl;exact rfl;exact hov;exact kd;exact ki) | apply Wl.nil
    refine Mt.backE (fun _ h' => hM.hp0 hM0 h' k6) ?_
    refine Mt.toGt kb ?_
    apply Gt.meet (w5,v')
    ·exact ⟨hM,row_keep hS.s hS.i ku hS.os u5,(by rw [ins_take hs];exact ho5),row_keep hS.b hS.i ku hS.ob u5,bl_keep hS hS.i ku u5,row_keep hS.l hS.i ku hS.ol u5,mem_keep hS.m hS.i ku e1 e2 u5,hS.os,(fun k hk => ⟨fun e => (hoff5 k hk).1.1 e.symm,fun e => (hoff5 k hk).1.2.1 e.symm⟩),hS.ob,hS.ol,hu5,hS.cc⟩
    ·exact kd
    ·exact fun _ h' => h'
   ·apply Wl.callQ
    ·exact rfl
    ·exact kd
    ·intro wq hq
     exact hq.q (bInput base I.bd I.ia M.lv M.ll M.used M.ins i s wq (hM.hp0 hM0 hq k6).board hs)
    apply Wl.nil
    refine Mt.backE (fun _ h' => hM.hp0 hM0 h' k6) ?_
    refine Mt.eff2 (i := 1) (j := 11) kb kf kf ?_ ?_
    ·repeat' first | (apply Wl.loadH;exact rfl;exact rfl;exact kd;exact rfl) | apply Wl.nil
     refine Mt.backE (fun _ h' => hM.hp0 hM0 h' k6) ?_
     refine Mt.e1 11 ?_
     repeat' first | (apply Wl.lit;exact rfl;exact kj;exact rfl;exact rfl;exact ke;intro c hc ho) | apply Wl.nil
     generalize c = c8 at *
     have hc8 : w4.heap.size ≤ c8 := by assumption
     refine Mt.backE (fun _ h' => hM.hp0 hM0 h' k6) ?_
     refine Mt.e1 12 ?_
     apply Wl.appendT (base := w.heap.size) (n := i) (m := 1) (sz := 1) (e := 9) (xs := ((M.ins.take i).map strV))
     ·exact rfl
     ·exact rfl
     ·exact rfl
     ·assumption
     ·exact rfl
     ·exact hS.i
     ·exact fun k hk => ⟨fun e => (hS.oi k hk).1 e.symm,fun e => (hS.oi k hk).2 e.symm,trivial⟩
     ·exact rfl
     ·exact rfl
     ·decide
     ·unfold maxLen;omega
     ·omega
     ·omega
     intro v' w5 ho5 u5 _ hoff5
     have hov := ho5.one
     have s5 := u5.size
     obtain ⟨hM,hu5⟩ := hS.grow hM0 (fun b hb => (hS.i.ge b hb).1) u5
     apply Wl.nil
     refine Mt.backE (fun _ h' => hM.hp0 hM0 h' k6) ?_
     refine Mt.pz 13 ?_
     refine Mt.e1 14 ?_
     repeat' first | (apply Wl.store;exact rfl;exact rfl;exact hov;exact kd;exact ki) | apply Wl.nil
     refine Mt.backE (fun _ h' => hM.hp0 hM0 h' k6) ?_
     refine Mt.toGt kb ?_
     apply Gt.meet (w5,v')
     ·exact ⟨hM,row_keep hS.s hS.i ku hS.os u5,(by rw [ins_take hs];exact ho5),row_keep hS.b hS.i ku hS.ob u5,bl_keep hS hS.i ku u5,row_keep hS.l hS.i ku hS.ol u5,mem_keep hS.m hS.i ku e1 e2 u5,hS.os,(fun k hk => ⟨fun e => (hoff5 k hk).1.1 e.symm,fun e => (hoff5 k hk).1.2.1 e.symm⟩),hS.ob,hS.ol,hu5,hS.cc⟩
     ·exact kd
     ·exact fun _ h' => h'
    ·repeat' first | (apply Wl.lit;exact rfl;exact kj;exact rfl;exact rfl;exact ke;intro c hc ho) | apply Wl.nil
     generalize c = c8 at *
     have hc8 : w4.heap.size ≤ c8 := by assumption
     refine Mt.backE (fun _ h' => hM.hp0 hM0 h' k6) ?_
     refine Mt.e1 1 ?_
     repeat' first | (apply Wl.loadH;exact rfl;exact rfl;exact kd;exact rfl) | apply Wl.nil
     refine Mt.backE (fun _ h' => hM.hp0 hM0 h' k6) ?_
     refine Mt.e1 12 ?_
     apply Wl.appendT (base := w.heap.size) (n := i) (m := 1) (sz := 1) (e := 9) (xs := ((M.ins.take i).map strV))
     ·exact rfl
     ·exact rfl
     ·exact rfl
     ·assumption
     ·exact rfl
     ·exact hS.i
     ·exact fun k hk => ⟨fun e => (hS.oi k hk).1 e.symm,fun e => (hS.oi k hk).2 e.symm,trivial⟩
     ·exact rfl
     ·exact rfl
     ·decide
     ·unfold maxLen;omega
     ·omega
     ·omega
     intro v' w5 ho5 u5 _ hoff5
     have hov := ho5.one
     have s5 := u5.size
     obtain ⟨hM,hu5⟩ := hS.grow hM0 (fun b hb => (hS.i.ge b hb).1) u5
     apply Wl.nil
     refine Mt.backE (fun _ h' => hM.hp0 hM0 h' k6) ?_
     refine Mt.pz 13 ?_
     refine Mt.e1 14 ?_
     repeat' first | (apply Wl.store;exact rfl;exact rfl;exact hov;exact kd;exact ki) | apply Wl.nil
     refine Mt.backE (fun _ h' => hM.hp0 hM0 h' k6) ?_
     refine Mt.toGt kb ?_
     apply Gt.meet (w5,v')
     ·exact ⟨hM,row_keep hS.s hS.i ku hS.os u5,(by rw [ins_take hs];exact ho5),row_keep hS.b hS.i ku hS.ob u5,bl_keep hS hS.i ku u5,row_keep hS.l hS.i ku hS.ol u5,mem_keep hS.m hS.i ku e1 e2 u5,hS.os,(fun k hk => ⟨fun e => (hoff5 k hk).1.1 e.symm,fun e => (hoff5 k hk).1.2.1 e.symm⟩),hS.ob,hS.ol,hu5,hS.cc⟩
     ·exact kd
     ·exact fun _ h' => h'
  clear hS
  rintro ⟨w4,iv⟩ hS
  simp only at hS ⊢
  have l44 := hS.u.size
  have hM := hS.mon
  refine St.tree (fun w' => MonS w' base I M) mixed (fun _ h' => ⟨Hp.drew h',hM.hp0 hM0 (Hp.drew h') k6⟩) ?_
  refine Mt.pz 0 ?_
  refine Mt.pm 2 ?_
  refine Mt.pm 9 ?_
  refine Mt.pn 3 ?_
  refine Mt.pz 4 ?_
  refine Mt.pu 5 ?_
  apply Wl.loadF;exact rfl;exact rfl;(intro w' h';first | exact cell_of h'.mm rfl | exact cell_of h'.dd rfl);apply Wl.nilB
  refine Mt.pn 6 ?_
  refine Mt.pz 7 ?_
  refine Mt.pu 8 ?_
  apply Wl.loadF;exact rfl;exact rfl;(intro w' h';first | exact cell_of h'.mm rfl | exact cell_of h'.dd rfl);apply Wl.nilB
  refine Mt.eff2 (i := 1) (j := 10) kb kf kf ?_ ?_
  ·repeat' first | (apply Wl.loadH;exact rfl;exact rfl;exact kd;exact rfl) | apply Wl.nil
   refine Mt.backE (fun _ h' => hM.hp0 hM0 h' k6) ?_
   refine Mt.e1 10 ?_
   apply Wl.callC
   ·exact rfl
   ·exact kd
   intro wq hq
   have hMq := hM.hp0 hM0 hq k6
   have zq := hq.upd.size
   have hltA : ∀ x : Blk,x ∈ _ → x.b < wq.heap.size := fun x hx => hq.own.lt hx
   simp only [List.mem_cons,List.not_mem_nil,or_false,forall_eq_or_imp,forall_eq] at hltA
   refine (pAllM base I M ls i wq hMq hlt (hbx i hlt)).mono ?_
   rintro e wA ⟨lt,Sx,rfl,hvA,hMA,hcA,uA⟩
   have zA := uA.size
   have hcl : ∀ k,Sx k → k < w.heap.size := fun k hk => (hmlt k (.inr (.inr (.inr (.inr (.inr (.inr (.inr (.inr (.inr (.inr (.inl (hcA k hk).mem)))))))))))).2
   have hSA := (hS.upd hMq hq.upd fun b hb _ => .inr (offs2 hb)).upd hMA uA fun b hb _ => .inl ⟨hcA b hb,hcl b hb⟩
   have hltv : ∀ k,lt.ownBlock = some k → k ≠ c3 ∧ k ≠ c2 := fun k hk => by have h1 := hvA.ge k hk;constructor <;> omega
   have hvw := hvA.baseLe (base' := w.heap.size) kc
   have lt1 := hvw.one
   refine ⟨_,_,rfl,(Hp.restT hq uA qb),?_⟩
   clear hS hM
   have hS := hSA
   have hM := hMA
   clear hSA
   apply Wl.nil
   refine Mt.backE (fun _ h' => hM.hp0 hM0 h' k6) ?_
   refine Mt.e1 11 ?_
   apply Wl.lit (cs := [lt])
   ·exact rfl
   ·(repeat (first | exact Parts.nil | apply Parts.cons rfl))
   ·exact rfl
   ·exact rfl
   ·exact CatP.one lt1 rfl .nil
   intro c8 hc8 ho8
   apply Wl.nil
   refine Mt.backE (fun _ h' => hM.hp0 hM0 h' k6) ?_
   refine Mt.e1 12 ?_
   apply Wl.appendT (base := w.heap.size) (n := i) (m := 1) (sz := 1) (e := 76) (xs := vs)
   ·exact rfl
   ·exact rfl
   ·exact rfl
   ·assumption
   ·exact rfl
   ·exact hS.b
   ·exact fun k hk => ⟨fun e => (hS.ob k hk).1 e.symm,fun e => (hS.ob k hk).2 e.symm,trivial⟩
   ·exact qp
   ·exact rfl
   ·decide
   ·unfold maxLen;omega
   ·omega
   ·omega
   intro v' w5 ho5 u5 _ hoff5
   have hov := ho5.one
   have s5 := u5.size
   obtain ⟨hM,hu5⟩ := hS.grow hM0 (fun b hb => (hS.b.ge b hb).1) u5
   have hvw5 := row_keep hvw hS.b ku hltv u5
   apply Wl.nil
   refine Mt.backE (fun _ h' => hM.hp0 hM0 h' k6) ?_
   refine Mt.pz 13 ?_
   refine Mt.e1 14 ?_
   repeat' first | (apply Wl.store;exact rfl;exact rfl;exact hov;exact kd;exact ki) | apply Wl.nil
   refine Mt.backE (fun _ h' => hM.hp0 hM0 h' k6) ?_
   refine Mt.toGt kb ?_
   repeat' first | refine Wl.move rfl rfl ?_ | (refine Wl.addI rfl rfl rfl ?_ ?_;constructor <;> omega) | apply Wl.nil | apply St.region | apply Gt.next | apply Gt.inNormal
   apply Gt.round (i + 1,w5,sv,iv,v',vs ++ [lt])
   rotate_left
   ·simp only;omega
   ·exact kd
   ·exact fun _ h' => h'
   ·exact ⟨hlt,hM,row_keep hS.s hS.b ku hS.os u5,row_keep hS.i hS.b ku hS.oi u5,ho5,bl_add (bl_keep hS hS.b ku u5) hvw5 hltv,row_keep hS.l hS.b ku hS.ol u5,mem_keep hS.m hS.b ku e1 e2 u5,hS.os,hS.oi,(fun k hk => ⟨fun e => (hoff5 k hk).1.1 e.symm,fun e => (hoff5 k hk).1.2.1 e.symm⟩),hS.ol,hu5,hS.cc⟩
  ·apply Wl.callC
   ·exact rfl
   ·exact kd
   intro wq hq
   have hMq := hM.hp0 hM0 hq k6
   have zq := hq.upd.size
   have hltA : ∀ x : Blk,x ∈ _ → x.b < wq.heap.size := fun x hx => hq.own.lt hx
   simp only [List.mem_cons,List.not_mem_nil,or_false,forall_eq_or_imp,forall_eq] at hltA
   refine (pAllM base I M ls i wq hMq hlt (hbx i hlt)).mono ?_
   rintro e wA ⟨lt,Sx,rfl,hvA,hMA,hcA,uA⟩
   have zA := uA.size
   have hcl : ∀ k,Sx k → k < w.heap.size := fun k hk => (hmlt k (.inr (.inr (.inr (.inr (.inr (.inr (.inr (.inr (.inr (.inr (.inl (hcA k hk).mem)))))))))))).2
   have hSA := (hS.upd hMq hq.upd fun b hb _ => .inr (offs2 hb)).upd hMA uA fun b hb _ => .inl ⟨hcA b hb,hcl b hb⟩
   have hltv : ∀ k,lt.ownBlock = some k → k ≠ c3 ∧ k ≠ c2 := fun k hk => by have h1 := hvA.ge k hk;constructor <;> omega
   have hvw := hvA.baseLe (base' := w.heap.size) kc
   have lt1 := hvw.one
   refine ⟨_,_,rfl,(Hp.restT hq uA qb),?_⟩
   clear hS hM
   have hS := hSA
   have hM := hMA
   clear hSA
   apply Wl.nil
   refine Mt.backE (fun _ h' => hM.hp0 hM0 h' k6) ?_
   refine Mt.eff2 (i := 1) (j := 11) kb kf kf ?_ ?_
   ·repeat' first | (apply Wl.loadH;exact rfl;exact rfl;exact kd;exact rfl) | apply Wl.nil
    refine Mt.backE (fun _ h' => hM.hp0 hM0 h' k6) ?_
    refine Mt.e1 11 ?_
    apply Wl.lit (cs := [lt])
    ·exact rfl
    ·(repeat (first | exact Parts.nil | apply Parts.cons rfl))
    ·exact rfl
    ·exact rfl
    ·exact CatP.one lt1 rfl .nil
    intro c8 hc8 ho8
    apply Wl.nil
    refine Mt.backE (fun _ h' => hM.hp0 hM0 h' k6) ?_
    refine Mt.e1 12 ?_
    apply Wl.appendT (base := w.heap.size) (n := i) (m := 1) (sz := 1) (e := 76) (xs := vs)
    ·exact rfl
    ·exact rfl
    ·exact rfl
    ·assumption
    ·exact rfl
    ·exact hS.b
    ·exact fun k hk => ⟨fun e => (hS.ob k hk).1 e.symm,fun e => (hS.ob k hk).2 e.symm,trivial⟩
    ·exact qp
    ·exact rfl
    ·decide
    ·unfold maxLen;omega
    ·omega
    ·omega
    intro v' w5 ho5 u5 _ hoff5
    have hov := ho5.one
    have s5 := u5.size
    obtain ⟨hM,hu5⟩ := hS.grow hM0 (fun b hb => (hS.b.ge b hb).1) u5
    have hvw5 := row_keep hvw hS.b ku hltv u5
    apply Wl.nil
    refine Mt.backE (fun _ h' => hM.hp0 hM0 h' k6) ?_
    refine Mt.pz 13 ?_
    refine Mt.e1 14 ?_
    repeat' first | (apply Wl.store;exact rfl;exact rfl;exact hov;exact kd;exact ki) | apply Wl.nil
    refine Mt.backE (fun _ h' => hM.hp0 hM0 h' k6) ?_
    refine Mt.toGt kb ?_
    repeat' first | refine Wl.move rfl rfl ?_ | (refine Wl.addI rfl rfl rfl ?_ ?_;constructor <;> omega) | apply Wl.nil | apply St.region | apply Gt.next | apply Gt.inNormal
    apply Gt.round (i + 1,w5,sv,iv,v',vs ++ [lt])
    rotate_left
    ·simp only;omega
    ·exact kd
    ·exact fun _ h' => h'
    ·exact ⟨hlt,hM,row_keep hS.s hS.b ku hS.os u5,row_keep hS.i hS.b ku hS.oi u5,ho5,bl_add (bl_keep hS hS.b ku u5) hvw5 hltv,row_keep hS.l hS.b ku hS.ol u5,mem_keep hS.m hS.b ku e1 e2 u5,hS.os,hS.oi,(fun k hk => ⟨fun e => (hoff5 k hk).1.1 e.symm,fun e => (hoff5 k hk).1.2.1 e.symm⟩),hS.ol,hu5,hS.cc⟩
   ·apply Wl.lit (cs := [lt])
    ·exact rfl
    ·(repeat (first | exact Parts.nil | apply Parts.cons rfl))
    ·exact rfl
    ·exact rfl
    ·exact CatP.one lt1 rfl .nil
    intro c8 hc8 ho8
    apply Wl.nil
    refine Mt.backE (fun _ h' => hM.hp0 hM0 h' k6) ?_
    refine Mt.e1 1 ?_
    repeat' first | (apply Wl.loadH;exact rfl;exact rfl;exact kd;exact rfl) | apply Wl.nil
    refine Mt.backE (fun _ h' => hM.hp0 hM0 h' k6) ?_
    refine Mt.e1 12 ?_
    apply Wl.appendT (base := w.heap.size) (n := i) (m := 1) (sz := 1) (e := 76) (xs := vs)
    ·exact rfl
    ·exact rfl
    ·exact rfl
    ·assumption
    ·exact rfl
    ·exact hS.b
    ·exact fun k hk => ⟨fun e => (hS.ob k hk).1 e.symm,fun e => (hS.ob k hk).2 e.symm,trivial⟩
    ·exact qp
    ·exact rfl
    ·decide
    ·unfold maxLen;omega
    ·omega
    ·omega
    intro v' w5 ho5 u5 _ hoff5
    have hov := ho5.one
    have s5 := u5.size
    obtain ⟨hM,hu5⟩ := hS.grow hM0 (fun b hb => (hS.b.ge b hb).1) u5
    have hvw5 := row_keep hvw hS.b ku hltv u5
    apply Wl.nil
    refine Mt.backE (fun _ h' => hM.hp0 hM0 h' k6) ?_
    refine Mt.pz 13 ?_
    refine Mt.e1 14 ?_
    repeat' first | (apply Wl.store;exact rfl;exact rfl;exact hov;exact kd;exact ki) | apply Wl.nil
    refine Mt.backE (fun _ h' => hM.hp0 hM0 h' k6) ?_
    refine Mt.toGt kb ?_
    repeat' first | refine Wl.move rfl rfl ?_ | (refine Wl.addI rfl rfl rfl ?_ ?_;constructor <;> omega) | apply Wl.nil | apply St.region | apply Gt.next | apply Gt.inNormal
    apply Gt.round (i + 1,w5,sv,iv,v',vs ++ [lt])
    rotate_left
    ·simp only;omega
    ·exact kd
    ·exact fun _ h' => h'
    ·exact ⟨hlt,hM,row_keep hS.s hS.b ku hS.os u5,row_keep hS.i hS.b ku hS.oi u5,ho5,bl_add (bl_keep hS hS.b ku u5) hvw5 hltv,row_keep hS.l hS.b ku hS.ol u5,mem_keep hS.m hS.b ku e1 e2 u5,hS.os,hS.oi,(fun k hk => ⟨fun e => (hoff5 k hk).1.1 e.symm,fun e => (hoff5 k hk).1.2.1 e.symm⟩),hS.ol,hu5,hS.cc⟩
 ·obtain rfl : i = M.L.length := by omega
  have hd : decide ((M.L.length : Int) < (M.L.length : Int)) = false := decide_eq_false kc
  have o1 := hS.s.one
  have o2 := hS.i.one
  have o3 := hS.b.one
  have o4 := hS.l.one
  repeat' first | (apply Wl.storeA;exact rfl;exact rfl;exact rfl;(show (true && (Value.oneCell' sv && (Value.oneCell' iv && (Value.oneCell' bv && (Value.oneCell' lvv && (true && true)))))) = true;rw [o1,o2,o3,o4];rfl);exact kd;exact .z (LOver.whole rfl)) | (apply Gt.outC';exact rfl;infer_instance;exact rfl;exact kd;exact kd;intro w' hp) | refine Wl.lss rfl rfl rfl ?_ | (apply Wl.loadAH;exact rfl;exact rfl;exact kd;exact kd) | apply Wl.nil | apply St.seq | apply St.region | (apply St.condF;exact rfl;exact k5) | apply St.ret | apply St.exit | apply Gt.next | apply Gt.thenExit | apply Gt.inExit
  have hr : ∀ k,(k ≠ c3 ∧ k ≠ c2) → ¬ ¬ Off [⟨c3,[.int .i64 (turnV M.t),sv,iv,bv,lvv,.pointer (some ⟨cC,0,none⟩)],54⟩,⟨c2,[.int .i64 (turnV M.t),sv,iv,bv,lvv,.pointer (some ⟨cC,0,none⟩)],54⟩] k := fun k hk y => y ⟨fun e => hk.1 e.symm,fun e => hk.2 e.symm,trivial⟩
  have a1 := hS.s
  have a2 := hS.i
  rw [List.take_length] at a1
  rw [← hM0.len.2,List.take_length,hM0.len.2] at a2
  refine ⟨sv,iv,bv,lvv,cC,vs,rfl,⟨ownsRow_upd a1 hp.upd fun k hk => hr k (hS.os k hk),ownsRow_upd a2 hp.upd fun k hk => hr k (hS.oi k hk),ownsRow_upd hS.b hp.upd fun k hk => hr k (hS.ob k hk),⟨hS.bl.1,fun j hj => by obtain ⟨v,e1,e2,e3⟩ := hS.bl.2 j hj;exact ⟨v,e1,ownsRow_upd e2 hp.upd fun k hk => hr k (e3 k hk)⟩⟩,ownsRow_upd hS.l hp.upd fun k hk => hr k (hS.ol k hk),hp.upd.heap hS.m (hr cC ⟨fun e => e1 e.symm,fun e => e2 e.symm⟩)⟩,e5,hS.mon.hp0 hM0 hp k6,hS.u.comp hp.upd fun b _ hs => hs.elim id fun y => by rcases offs2 y with rfl | rfl <;> (right;omega)⟩
def SetOk (L : List Sta) (t : Int) : Prop := (∀ x ∈ L,StaOk x ∧ StaV x) ∧ (-1 ≤ t ∧ t < L.length) ∧ anyR L = decide (0 ≤ t) ∧ ∀ x,0 ≤ t → L[t.toNat]? = some x → x.s = 0
def usedL (ll : List (Int × List UInt8)) : Nat := (ll.map fun x => x.2.length).sum
theorem usedL_snoc (l : List (Int × List UInt8)) (x : Int × List UInt8) : usedL (l ++ [x]) = usedL l + x.2.length := by simp [usedL]
theorem usedL_take (l : List (Int × List UInt8)) (k : Nat) : usedL (l.take k) ≤ usedL l := by
 have h : usedL (l.take k ++ l.drop k) = usedL (l.take k) + usedL (l.drop k) := by simp only [usedL,List.map_append,List.sum_append]
 rw [List.take_append_drop] at h
 omega
def BoxOk (n : Nat) (l : List (Int × List UInt8)) : Prop := l.length ≤ 4 ∧ ∀ x ∈ l,x.1 < (n : Int) ∧ x.2 ≠ []
theorem take_snoc {α : Type} {l : List α} {k : Nat} {x : α} (h : l[k]? = some x) : l.take (k + 1) = l.take k ++ [x] := by
 rw [List.take_add_one,h];rfl
def regsC (c : Cu) : Nat → List Nat × Cu
 | 0 => ([],c)
 | k + 1 => ((regsC c k).1 ++ [((regsC c k).2.u 4).1],((regsC c k).2.u 4).2)
theorem regsC_len (c : Cu) : ∀ k,(regsC c k).1.length = k
 | 0 => rfl
 | k + 1 => by unfold regsC;rw [List.length_append,regsC_len c k];rfl
def regV (l : List Nat) : List Value := l.map fun (x : Nat) => .int .u32 (x : Int)
def boxC (n : Nat) : Nat → List (Int × List UInt8) → Cu → Option (List (Int × List UInt8) × Cu)
 | 0,b,c => some (b,c)
 | k + 1,b,c => if (getC (c.u 1).2 16).1.2 = true ∧ (c.u 1).1 < n ∧ (getC (c.u 1).2 16).1.1 ≠ [] then boxC n k (b ++ [(((c.u 1).1 : Int),(getC (c.u 1).2 16).1.1)]) (getC (c.u 1).2 16).2 else none
def cuA (c : Cu) : Cu := (c.u 1).2
def cuB (c : Cu) : Cu := ((cuA c).u 4).2
def cuC (c : Cu) : Cu := ((cuB c).u 4).2
def cuD (c : Cu) : Cu := (regsC (cuC c) 32).2
def cuE (c : Cu) : Cu := (getC (cuD c) 64).2
def staC (c : Cu) : Sta := ⟨((c.u 1).1 : Int),(((cuA c).u 4).1 : Int),(((cuB c).u 4).1 : Int),regV (regsC (cuC c) 32).1⟩
def rowC (n : Nat) (c : Cu) : Option ((Sta × List UInt8 × List (Int × List UInt8)) × Cu) :=
 if (getC (cuD c) 64).1.2 = true ∧ ((cuE c).u 1).1 ≤ 4 then
  (match boxC n ((cuE c).u 1).1 [] ((cuE c).u 1).2 with
  | some r => some ((staC c,(getC (cuD c) 64).1.1,r.1),r.2)
  | none => none)
 else none
structure Rws where
 L : List Sta
 ins : List (List UInt8)
 bx : List (List (Int × List UInt8))
def rowsC (n : Nat) : Nat → Rws → Cu → Option (Rws × Cu)
 | 0,r,c => some (r,c)
 | k + 1,r,c => match rowC n c with
  | some x => rowsC n k ⟨r.L ++ [x.1.1],r.ins ++ [x.1.2.1],r.bx ++ [x.1.2.2]⟩ x.2
  | none => none
def linC (n : Nat) : Nat → Nat → List (Int × List UInt8) → Cu → Option (List (Int × List UInt8) × Cu)
 | 0,_,l,c => some (l,c)
 | k + 1,u,l,c => if (getC (c.u 1).2 64).1.2 = true ∧ (c.u 1).1 < n ∧ (getC (c.u 1).2 64).1.1 ≠ [] ∧ u + (getC (c.u 1).2 64).1.1.length ≤ 256 then linC n k (u + (getC (c.u 1).2 64).1.1.length) (l ++ [(((c.u 1).1 : Int),(getC (c.u 1).2 64).1.1)]) (getC (c.u 1).2 64).2 else none
structure SnD where
 t : Int
 r : Rws
 ll : List (Int × List UInt8)
 f : Nat → Int
def turnC (t : Nat) : Int := if t = 255 then -1 else (t : Int)
def tailC (n : Nat) (t : Int) (r : Rws) (c : Cu) : Option SnD :=
 match linC n (c.u 2).1 0 [] (c.u 2).2 with
 | none => none
 | some x => match unpC 65536 0 (fun _ => 0) x.2 with
  | none => none
  | some y => if (!y.2.bad && decide (y.2.l = [])) = true then some ⟨t,r,x.1,y.1⟩ else none
def stateC (n : Nat) (c : Cu) : Option SnD :=
 if (c.u 1).1 = n then
  (match rowsC n n ⟨[],[],[]⟩ ((c.u 1).2.u 1).2 with
  | none => none
  | some x => tailC n (turnC ((c.u 1).2.u 1).1) x.1 x.2)
 else none
structure SnT (w : World) (base : Nat) (S : SnD) (sv iv bv lv : Value) (cM : Nat) (vs : List Value) : Prop where
 s : w.ownsRow base 44 35 sv S.r.L.length (stas S.r.L).flatten
 i : w.ownsRow base 9 1 iv S.r.ins.length (S.r.ins.map strV)
 b : w.ownsRow base 76 1 bv S.r.bx.length vs
 bl : vs.length = S.r.bx.length ∧ ∀ (j : Nat) x,S.r.bx[j]? = some x → ∃ v,vs[j]? = some v ∧ w.ownsRow base 78 2 v x.length (x.map lineC).flatten
 l : w.ownsRow base 111 2 lv S.ll.length (S.ll.map lineC).flatten
 m : memH w cM S.f
structure R4 (w0 w : World) (c : Nat) (src : Value) (all : List UInt8) (D : List Nat) (cu : Cu) (L : List Sta) (ins : List (List UInt8)) (bx : List (List (Int × List UInt8))) (xl ll : List (Int × List UInt8)) (sv iv bv xv lv : Value) (vs : List Value) : Prop where
 u : Upd (fun k => k = c ∨ w0.heap.size ≤ k) w0 w
 cl : c < w0.heap.size ∧ ∀ k,src.ownBlock = some k → all ≠ [] → k < w0.heap.size
 cur : CurS w c src all cu
 s : w.ownsRow w0.heap.size 44 35 sv L.length (stas L).flatten
 i : w.ownsRow w0.heap.size 9 1 iv ins.length (ins.map strV)
 b : w.ownsRow w0.heap.size 76 1 bv bx.length vs
 bl : vs.length = bx.length ∧ ∀ (j : Nat) x,bx[j]? = some x → ∃ v,vs[j]? = some v ∧ w.ownsRow w0.heap.size 78 2 v x.length (x.map lineC).flatten
 x : w.ownsRow w0.heap.size 78 2 xv xl.length (xl.map lineC).flatten
 l : w.ownsRow w0.heap.size 111 2 lv ll.length (ll.map lineC).flatten
 o : ∀ y,y ∈ sv :: iv :: bv :: xv :: lv :: vs → ∀ k,y.ownBlock = some k → k ∉ D
 p : ∀ y,y ∈ vs → ∀ k,y.ownBlock = some k → xv.ownBlock ≠ some k
 d : ∀ k,k ∈ D → w0.heap.size ≤ k
theorem off_in {H : List Blk} {k : Nat} (h : k ∉ H.map Blk.b) : Off H k := Off.of fun x hx e => h (e ▸ List.mem_map_of_mem hx)
theorem in_off {H : List Blk} {k : Nat} (h : ¬ Off H k) : k ∈ H.map Blk.b := Classical.byContradiction fun hn => h (off_in hn)
section
variable {w0 w w1 : World} {c : Nat} {src : Value} {all : List UInt8} {D : List Nat} {cu cu' : Cu} {L : List Sta} {ins : List (List UInt8)} {bx : List (List (Int × List UInt8))} {xl ll : List (Int × List UInt8)} {sv iv bv xv lv v' : Value} {vs : List Value} {S : Nat → Prop} {H : List Blk}
theorem R4.vsRow (h : R4 w0 w c src all D cu L ins bx xl ll sv iv bv xv lv vs) {y : Value} (hy : y ∈ vs) : ∃ n xs,w.ownsRow w0.heap.size 78 2 y n xs := by
 obtain ⟨j,hj,rfl⟩ := List.mem_iff_getElem.1 hy
 obtain ⟨v,e1,e2⟩ := h.bl.2 j (bx[j]'(by have := h.bl.1;omega)) (List.getElem?_eq_getElem _)
 rw [List.getElem?_eq_getElem hj] at e1
 cases e1
 exact ⟨_,_,e2⟩
theorem R4.upd (h : R4 w0 w c src all D cu L ins bx xl ll sv iv bv xv lv vs) (u : Upd S w w1) (hs : ∀ k,S k → k < w.heap.size → k = c ∨ k ∈ D) (hn : ∀ k,S k → k < w.heap.size → w0.heap.size ≤ k ∨ k = c) (hc : CurS w1 c src all cu') : R4 w0 w1 c src all D cu' L ins bx xl ll sv iv bv xv lv vs := by
 have kr : ∀ {y : Value} {e sz n : Nat} {xs : List Value},y ∈ sv :: iv :: bv :: xv :: lv :: vs → w.ownsRow w0.heap.size e sz y n xs → w1.ownsRow w0.heap.size e sz y n xs := fun hy hr =>
  ownsRow_upd hr u fun k hk hS => by
   have g := hr.ge k hk
   rcases hs k hS g.2 with e | e
   ·have := h.cl.1;omega
   ·exact h.o _ hy k hk e
 exact {
  u := h.u.comp ((Upd.refl (fun b => b = c ∨ w0.heap.size ≤ b) w).comp u (T := fun b => b = c ∨ w0.heap.size ≤ b) fun b hb hS => hS.elim id fun hS => (hn b hS hb).symm) fun b _ h => h.elim id id
  cl := h.cl
  cur := hc
  s := kr zd h.s
  i := kr zd h.i
  b := kr zd h.b
  bl := ⟨h.bl.1,fun j x hx => by
   obtain ⟨v,e1,e2⟩ := h.bl.2 j x hx
   exact ⟨v,e1,kr qh e2⟩⟩
  x := kr zd h.x
  l := kr zd h.l
  o := h.o
  p := h.p
  d := h.d }
theorem R4.curOff (h : R4 w0 w c src all D cu L ins bx xl ll sv iv bv xv lv vs) (u : Upd S w w1) (hn : ∀ k,S k → k < w.heap.size → w0.heap.size ≤ k) : CurS w1 c src all cu :=
 h.cur.upd u (fun hS => by have := hn c hS h.cur.lt;have := h.cl.1;omega) fun k hk hlt hne hS => by have := hn k hS hlt;have := h.cl.2 k hk hne;omega
theorem R4.hp (h : R4 w0 w c src all D cu L ins bx xl ll sv iv bv xv lv vs) (hq : Hp w H w1) (e : H.map Blk.b = D) : R4 w0 w1 c src all D cu L ins bx xl ll sv iv bv xv lv vs := by
 have k1 : ∀ k,¬ Off H k → k ∈ D := fun k hk => e ▸ in_off hk
 exact h.upd hq.upd (fun k hk _ => .inr (k1 k hk)) (fun k hk _ => .inl (h.d k (k1 k hk))) (h.curOff hq.upd fun k hk _ => h.d k (k1 k hk))
theorem R4.turn (h : R4 w0 w c src all D cu L ins bx xl ll sv iv bv xv lv vs) (hc : CurS w1 c src all cu') (u : Upd (fun k => k = c) w w1) : R4 w0 w1 c src all D cu' L ins bx xl ll sv iv bv xv lv vs :=
 h.upd u (fun _ h _ => .inl h) (fun _ h _ => .inr h) hc
theorem R4.new (h : R4 w0 w c src all D cu L ins bx xl ll sv iv bv xv lv vs) {k : Nat} (hk : w.heap.size ≤ k) : R4 w0 w c src all (k :: D) cu L ins bx xl ll sv iv bv xv lv vs :=
 { h with
  o := fun y hy j hj hd => by
   rcases List.mem_cons.1 hd with rfl | hd
   ·have : j < w.heap.size := by
     simp only [List.mem_cons] at hy
     rcases hy with rfl | rfl | rfl | rfl | rfl | hy
     ·exact (h.s.ge j hj).2
     ·exact (h.i.ge j hj).2
     ·exact (h.b.ge j hj).2
     ·exact (h.x.ge j hj).2
     ·exact (h.l.ge j hj).2
     ·obtain ⟨n,xs,g⟩ := h.vsRow hy
      exact (g.ge j hj).2
    omega
   ·exact h.o y hy j hj hd
  d := fun j hj => by
   rcases List.mem_cons.1 hj with rfl | hj
   ·have := h.u.size;omega
   ·exact h.d j hj }
theorem R4.pop {k : Nat} (h : R4 w0 w c src all (k :: D) cu L ins bx xl ll sv iv bv xv lv vs) : R4 w0 w c src all D cu L ins bx xl ll sv iv bv xv lv vs :=
 { h with
  o := fun y hy j hj hd => h.o y hy j hj (.tail _ hd)
  d := fun j hj => h.d j (.tail _ hj) }
theorem R4.rest {e sz n : Nat} {v : Value} {xs : List Value} (h : R4 w0 w c src all D cu L ins bx xl ll sv iv bv xv lv vs) (eD : H.map Blk.b = D) (hv : w.ownsRow w0.heap.size e sz v n xs) (a2 : Upd (fun k => v.ownBlock = some k ∨ ¬ Off H k) w w1) :
  Upd (fun k => k = c ∨ w0.heap.size ≤ k) w0 w1 ∧ CurS w1 c src all cu ∧ (∀ {y : Value} {e' sz' n' : Nat} {xs' : List Value},y ∈ sv :: iv :: bv :: xv :: lv :: vs → w.ownsRow w0.heap.size e' sz' y n' xs' → (∀ k,v.ownBlock = some k → y.ownBlock = some k → False) → w1.ownsRow w0.heap.size e' sz' y n' xs') := by
 have key : ∀ k,(v.ownBlock = some k ∨ ¬ Off H k) → w0.heap.size ≤ k := fun k hk => hk.elim (fun e => (hv.ge k e).1) fun hn => h.d k (eD ▸ in_off hn)
 refine ⟨h.u.comp a2 fun b _ hS => hS.elim id fun hS => .inr (key b hS),h.curOff a2 fun k hk _ => key k hk,fun {y e' sz' n' xs'} hy hr hne => ownsRow_upd hr a2 fun k hk hS => ?_⟩
 rcases hS with e1 | e1
 ·exact hne k e1 hk
 ·exact e1 (off_in (eD ▸ h.o y hy k hk))
theorem R4.own' (h : R4 w0 w c src all D cu L ins bx xl ll sv iv bv xv lv vs) (eD : H.map Blk.b = D) {v : Value} (a4 : ∀ k,v'.ownBlock = some k → Off H k ∧ (v.ownBlock = some k ∨ w.heap.size ≤ k)) : ∀ k,v'.ownBlock = some k → k ∉ D := fun k hk hd => by
 obtain ⟨x,hx,e⟩ := List.mem_map.1 (eD ▸ hd)
 exact (a4 k hk).1.at hx e
theorem R4.gs {z : Sta} {news : List Value} (h : R4 w0 w c src all D cu L ins bx xl ll sv iv bv xv lv vs) (eD : H.map Blk.b = D) (a1 : w1.ownsRow w0.heap.size 44 35 v' (L.length + 1) ((stas L).flatten ++ news)) (hz : news = z.cells) (a2 : Upd (fun k => sv.ownBlock = some k ∨ ¬ Off H k) w w1)
  (a4 : ∀ k,v'.ownBlock = some k → Off H k ∧ (sv.ownBlock = some k ∨ w.heap.size ≤ k)) : R4 w0 w1 c src all D cu (L ++ [z]) ins bx xl ll v' iv bv xv lv vs := by
 obtain ⟨q1,q2,q3⟩ := h.rest eD h.s a2
 exact {
  u := q1
  cl := h.cl
  cur := q2
  s := by rw [List.length_append,show (stas (L ++ [z])).flatten = (stas L).flatten ++ news by rw [hz];simp [stas]];exact a1
  i := q3 zd h.i (row_ne h.s h.i ku)
  b := q3 zd h.b (row_ne h.s h.b ku)
  bl := ⟨h.bl.1,fun j x hx => by
   obtain ⟨v,e1,e2⟩ := h.bl.2 j x hx
   exact ⟨v,e1,q3 qh e2 (row_ne h.s e2 ku)⟩⟩
  x := q3 zd h.x (row_ne h.s h.x ku)
  l := q3 zd h.l (row_ne h.s h.l ku)
  o := fun y hy => by
   simp only [List.mem_cons] at hy
   rcases hy with rfl | hy
   ·exact h.own' eD a4
   ·exact h.o y (by simp only [List.mem_cons];exact .inr hy)
  p := h.p
  d := h.d }
theorem R4.gi {z : List UInt8} (h : R4 w0 w c src all D cu L ins bx xl ll sv iv bv xv lv vs) (eD : H.map Blk.b = D) (a1 : w1.ownsRow w0.heap.size 9 1 v' (ins.length + 1) (ins.map strV ++ [strV z])) (a2 : Upd (fun k => iv.ownBlock = some k ∨ ¬ Off H k) w w1)
  (a4 : ∀ k,v'.ownBlock = some k → Off H k ∧ (iv.ownBlock = some k ∨ w.heap.size ≤ k)) : R4 w0 w1 c src all D cu L (ins ++ [z]) bx xl ll sv v' bv xv lv vs := by
 obtain ⟨q1,q2,q3⟩ := h.rest eD h.i a2
 exact {
  u := q1
  cl := h.cl
  cur := q2
  s := q3 zd h.s (row_ne h.i h.s ku)
  i := by rw [List.length_append,List.map_append];exact a1
  b := q3 zd h.b (row_ne h.i h.b ku)
  bl := ⟨h.bl.1,fun j x hx => by
   obtain ⟨v,e1,e2⟩ := h.bl.2 j x hx
   exact ⟨v,e1,q3 qh e2 (row_ne h.i e2 ku)⟩⟩
  x := q3 zd h.x (row_ne h.i h.x ku)
  l := q3 zd h.l (row_ne h.i h.l ku)
  o := fun y hy => by
   simp only [List.mem_cons] at hy
   rcases hy with rfl | rfl | hy
   ·exact h.o _ zd
   ·exact h.own' eD a4
   ·exact h.o y (by simp only [List.mem_cons];exact .inr (.inr hy))
  p := h.p
  d := h.d }
theorem R4.gb (h : R4 w0 w c src all D cu L ins bx xl ll sv iv bv xv lv vs) (eD : H.map Blk.b = D) (a1 : w1.ownsRow w0.heap.size 76 1 v' (bx.length + 1) (vs ++ [xv])) (a2 : Upd (fun k => bv.ownBlock = some k ∨ ¬ Off H k) w w1)
  (a4 : ∀ k,v'.ownBlock = some k → Off H k ∧ (bv.ownBlock = some k ∨ w.heap.size ≤ k)) : R4 w0 w1 c src all D cu L ins (bx ++ [xl]) [] ll sv iv v' (.slice none 0 0) lv (vs ++ [xv]) := by
 obtain ⟨q1,q2,q3⟩ := h.rest eD h.b a2
 exact {
  u := q1
  cl := h.cl
  cur := q2
  s := q3 zd h.s (row_ne h.b h.s ku)
  i := q3 zd h.i (row_ne h.b h.i ku)
  b := by rw [List.length_append];exact a1
  bl := ⟨by rw [List.length_append,List.length_append,h.bl.1];rfl,fun j x hx => by
   by_cases hj : j < bx.length
   ·rw [List.getElem?_append_left hj] at hx
    obtain ⟨v,e1,e2⟩ := h.bl.2 j x hx
    exact ⟨v,by rw [List.getElem?_append_left (by rw [h.bl.1];exact hj)];exact e1,q3 qh e2 (row_ne h.b e2 ku)⟩
   ·rw [List.getElem?_append_right kc] at hx
    obtain ⟨e0,rfl⟩ : j - bx.length = 0 ∧ xl = x := by
     cases hk : j - bx.length with
     | zero => rw [hk] at hx;exact ⟨rfl,by simpa using hx⟩
     | succ q => rw [hk] at hx;simp at hx
    exact ⟨xv,by rw [List.getElem?_append_right (by rw [h.bl.1];omega),h.bl.1,e0];rfl,q3 zd h.x (row_ne h.b h.x ku)⟩⟩
  x := World.ownsRow_nil _ _ _ _
  l := q3 zd h.l (row_ne h.b h.l ku)
  o := fun y hy => by
   simp only [List.mem_cons,List.mem_append,List.not_mem_nil,or_false] at hy
   rcases hy with rfl | rfl | rfl | rfl | rfl | hy | rfl
   ·exact h.o _ zd
   ·exact h.o _ zd
   ·exact h.own' eD a4
   ·intro k hk;cases hk
   ·exact h.o _ zd
   ·exact h.o y (by simp [hy])
   ·exact h.o _ zd
  p := fun y _ k _ e => by cases e
  d := h.d }
theorem R4.gx {z : Int × List UInt8} (h : R4 w0 w c src all D cu L ins bx xl ll sv iv bv xv lv vs) (eD : H.map Blk.b = D) (a1 : w1.ownsRow w0.heap.size 78 2 v' (xl.length + 1) ((xl.map lineC).flatten ++ lineC z)) (a2 : Upd (fun k => xv.ownBlock = some k ∨ ¬ Off H k) w w1)
  (a4 : ∀ k,v'.ownBlock = some k → Off H k ∧ (xv.ownBlock = some k ∨ w.heap.size ≤ k)) : R4 w0 w1 c src all D cu L ins bx (xl ++ [z]) ll sv iv bv v' lv vs := by
 obtain ⟨q1,q2,q3⟩ := h.rest eD h.x a2
 exact {
  u := q1
  cl := h.cl
  cur := q2
  s := q3 zd h.s (row_ne h.x h.s ku)
  i := q3 zd h.i (row_ne h.x h.i ku)
  b := q3 zd h.b (row_ne h.x h.b ku)
  bl := ⟨h.bl.1,fun j x hx => by
   obtain ⟨v,e1,e2⟩ := h.bl.2 j x hx
   exact ⟨v,e1,q3 qh e2 fun k hk hk' => h.p v (List.mem_of_getElem? e1) k hk' hk⟩⟩
  x := by rw [List.length_append,List.map_append,List.flatten_append];simpa using a1
  l := q3 zd h.l (row_ne h.x h.l ku)
  o := fun y hy => by
   simp only [List.mem_cons] at hy
   rcases hy with rfl | rfl | rfl | rfl | rfl | hy
   ·exact h.o _ zd
   ·exact h.o _ zd
   ·exact h.o _ zd
   ·exact h.own' eD a4
   ·exact h.o _ zd
   ·exact h.o y (by simp [hy])
  p := fun y hy k hk e => by
   obtain ⟨n,xs,g⟩ := h.vsRow hy
   rcases (a4 k e).2 with e | e
   ·exact h.p y hy k hk e
   ·have := (g.ge k hk).2;omega
  d := h.d }
theorem R4.gl {z : Int × List UInt8} (h : R4 w0 w c src all D cu L ins bx xl ll sv iv bv xv lv vs) (eD : H.map Blk.b = D) (a1 : w1.ownsRow w0.heap.size 111 2 v' (ll.length + 1) ((ll.map lineC).flatten ++ lineC z)) (a2 : Upd (fun k => lv.ownBlock = some k ∨ ¬ Off H k) w w1)
  (a4 : ∀ k,v'.ownBlock = some k → Off H k ∧ (lv.ownBlock = some k ∨ w.heap.size ≤ k)) : R4 w0 w1 c src all D cu L ins bx xl (ll ++ [z]) sv iv bv xv v' vs := by
 obtain ⟨q1,q2,q3⟩ := h.rest eD h.l a2
 exact {
  u := q1
  cl := h.cl
  cur := q2
  s := q3 zd h.s (row_ne h.l h.s ku)
  i := q3 zd h.i (row_ne h.l h.i ku)
  b := q3 zd h.b (row_ne h.l h.b ku)
  bl := ⟨h.bl.1,fun j x hx => by
   obtain ⟨v,e1,e2⟩ := h.bl.2 j x hx
   exact ⟨v,e1,q3 qh e2 (row_ne h.l e2 ku)⟩⟩
  x := q3 zd h.x (row_ne h.l h.x ku)
  l := by rw [List.length_append,List.map_append,List.flatten_append];simpa using a1
  o := fun y hy => by
   simp only [List.mem_cons] at hy
   rcases hy with rfl | rfl | rfl | rfl | rfl | hy
   ·exact h.o _ zd
   ·exact h.o _ zd
   ·exact h.o _ zd
   ·exact h.o _ zd
   ·exact h.own' eD a4
   ·exact h.o y (by simp [hy])
  p := h.p
  d := h.d }
end
end Go.Proofs.YtabbklpalbikdaaGreatDoor
end
section
namespace Go.Pt
section
variable {P : Program} {ops : Array Oper} {C C2 Cy : World → Prop}
theorem YC.weak {o : Oper} {v : Value} {a : Act} (h : YC P ops Cy o v a) (hc : ∀ w,C w → Cy w) : YC P ops C o v a := h.imp (fun h => ⟨h.1,fun w hw => h.2 w (hc w hw)⟩) id
def wpAnyD (P : Program) (ops : Array Oper) (C C2 : World → Prop) (Q : Act → World → Prop) (k : Nat) : Nat → Array Bool → Act → World → Prop
 | 0,listed,a,w => C w ∧ Region.ready .any ops listed = [] ∧ Q a w
 | n + 1,listed,a,w => C w ∧ (Region.ready .any ops listed = [] → Q a w) ∧ ∀ i ∈ Region.ready .any ops listed,wpOp P ops (onlyN Q) i (if i = k then wpAnyC P ops C2 Q n (listed.setIfInBounds i true) else wpAnyD P ops C C2 Q k n (listed.setIfInBounds i true)) a w
theorem wpAny_of_D {Q : Act → World → Prop} {k : Nat} : ∀ (n : Nat) (listed : Array Bool) (a : Act) (w : World),wpAnyD P ops C C2 Q k n listed a w → wpAny P .any ops (onlyN Q) n listed a w
 | 0,_,_,_,h => ⟨h.2.1,h.2.2⟩
 | n + 1,_,_,_,h => ⟨h.2.1,fun i hi => wpOp_mono (fun a' w' hh => by
   by_cases e : i = k
   ·rw [if_pos e] at hh;exact wpAny_of_C n _ a' w' hh
   ·rw [if_neg e] at hh;exact wpAny_of_D n _ a' w' hh) (h.2.2 i hi)⟩
def depB (ops : Array Oper) (k i : Nat) : Bool := match ops[k]? with | some o => o.after.any fun e => Region.binds .any e && Nat.beq e.on i | none => false
theorem firstD {Q : Act → World → Prop} {i k : Nat} {oi : Oper} {v : Value} (hi : ops[i]? = some oi) (hsel : Region.noSelect ops = true) (hik : i ≠ k) (hc : ∀ w,C w → Cy w) (hdep : depB ops k i = true ∨ ∀ w,C2 w → Cy w) :
  ∀ (n : Nat) (listed : Array Bool) (a : Act) (w : World),
   (∀ j oj,ops[j]? = some oj → j ≠ i → listed.getD j true = false → (∀ e ∈ oj.after,Region.binds .any e = true → e.on ≠ i) → oi.apart ops oj = true) →
   i ∈ Region.ready .any ops listed → YC P ops Cy oi v a → wpAnyD P ops C C2 Q k n (listed.setIfInBounds i true) (a.put oi.dst v) w → wpAnyD P ops C C2 Q k (n + 1) listed a w := by
 have hs := fun j o cs b => Region.noSelect_spec hsel j o cs b
 intro n
 induction n with
 | zero =>
  intro listed a w _ hr hy H
  refine ⟨H.1,fun h => (by rw [h] at hr;cases hr),fun j hj => ?_⟩
  by_cases hji : j = i
  ·subst hji
   rw [if_neg hik]
   exact hy.now hi (hc w H.1) H
  ·have := ready_mono hj hji
   rw [H.2.1] at this
   cases this
 | succ n ih =>
  intro listed a w hfree hr hy H
  refine ⟨H.1,fun h => (by rw [h] at hr;cases hr),fun j hj => ?_⟩
  by_cases hji : j = i
  ·subst hji
   rw [if_neg hik]
   exact hy.now hi (hc w H.1) H
  ·have h1 := H.2.2 j (ready_mono hj hji)
   obtain ⟨hjun,oj,hoj,hall⟩ := mem_ready.1 hj
   have hnot : ∀ e ∈ oj.after,Region.binds .any e = true → e.on ≠ i := fun e he hb heq => by
    have h1 := hall e he hb
    have h0 := (mem_ready.1 hr).1
    rw [heq] at h1
    rcases Nat.lt_or_ge i listed.size with h' | h'
    ·simp [h'] at h0 h1;rw [h0] at h1;cases h1
    ·simp [Array.getElem?_eq_none h'] at h1
   have h2 := wpOp_swap hoj (hfree j oj hoj hji hjun hnot) (fun cs b => hs i oi cs b hi) (fun cs b => hs j oj cs b hoj) hy h1
   have hfree' : ∀ m ok,ops[m]? = some ok → m ≠ i → (listed.setIfInBounds j true).getD m true = false → (∀ e ∈ ok.after,Region.binds .any e = true → e.on ≠ i) → oi.apart ops ok = true := fun m ok hk hki hun hno => by
    refine hfree m ok hk hki ?_ hno
    by_cases hjk : j = m
    ·subst hjk;exact hjun
    ·rw [getD_set_ne true hjk] at hun;exact hun
   refine wpOp_mono (fun a' w' h3 => ?_) h2
   obtain ⟨h3,h4⟩ := h3
   by_cases e : j = k
   ·rw [if_pos e] at h4 ⊢
    rcases hdep with hd | hd
    ·exfalso
     subst e
     unfold depB at hd
     rw [hoj] at hd
     simp only [Array.any_eq_true'] at hd
     obtain ⟨e,he,hb⟩ := hd
     rw [Bool.and_eq_true] at hb
     exact hnot e he hb.1 (Nat.eq_of_beq_eq_true hb.2)
    ·rw [Array.setIfInBounds_comm _ _ (Ne.symm hji)] at h4
     exact firstC hi hsel n (listed.setIfInBounds j true) a' w' hfree' (ready_mono hr (Ne.symm hji)) (h3.weak hd) h4
   ·rw [if_neg e] at h4 ⊢
    rw [Array.setIfInBounds_comm _ _ (Ne.symm hji)] at h4
    exact ih (listed.setIfInBounds j true) a' w' hfree' (ready_mono hr (Ne.symm hji)) h3 h4
end
section
variable {P : Program} {ops : Array Oper} {N n k : Nat} {Γ : Env} {C C2 D : World → Prop} {Q : Act → World → Prop}
def Mtk (P : Program) (ops : Array Oper) (k N n : Nat) (listed : Array Bool) (Γ : Env) (D C C2 : World → Prop) (Q : Act → World → Prop) : Prop :=
 ∀ a w,Fr N a Γ → D w → C w → wpAnyD P ops C C2 Q k n listed a w
def MtkQ (P : Program) (ops : Array Oper) (k : Nat) (C C2 : World → Prop) (Q : Act → World → Prop) (n : Nat) (listed : Array Bool) : Exit → Act → World → Prop := fun _ a w => C w → wpAnyD P ops C C2 Q k n listed a w
def MtkE (P : Program) (ops : Array Oper) (k : Nat) (C C2 : World → Prop) (Q : Act → World → Prop) (n : Nat) (listed : Array Bool) : Exit → Act → World → Prop := fun e a w => e = .normal ∧ C w ∧ wpAnyD P ops C C2 Q k n listed a w
theorem Mtk.back {listed : Array Bool} (h : Mtk P ops k N n listed Γ D C C2 Q) : Gt N .normal Γ D (MtkQ P ops k C C2 Q n listed) := Gt.intro fun a w ha hD hC => h a w ha hD hC
theorem Mtk.backE {listed : Array Bool} (hc : ∀ w,D w → C w) (h : Mtk P ops k N n listed Γ D C C2 Q) : Gt N .normal Γ D (MtkE P ops k C C2 Q n listed) := Gt.intro fun a w ha hD => ⟨rfl,hc w hD,h a w ha hD (hc w hD)⟩
theorem Mtk.pure {listed : Array Bool} (i : Nat) {o : Oper} (hs : Region.noSelect ops = true) (hi : ops[i]? = some o) (he : effB o = false) (hr : (Region.ready .any ops listed).contains i = true) (hf : Region.free .any ops listed i = true) (hik : Nat.beq i k = false) (hd : depB ops k i = true)
  (h : Wl [o] P (.mix D) ops N Γ C (MtkQ P ops k C C2 Q n (listed.setIfInBounds i true))) : Mtk P ops k N (n + 1) listed Γ D C C2 Q := fun a w ha hD hC => by
 have hik' : i ≠ k := fun e => by rw [e,Nat.beq_refl] at hik;cases hik
 have h := h.elimM a w ha hD hC
 simp only [wpE,he] at h
 by_cases hw : Region.wanted o (yielded ops a.tmps) = true
 ·rw [if_pos hw] at h
  obtain ⟨v,hv,h⟩ := h
  exact firstD (Cy := C) hi hs hik' (fun _ h => h) (.inl hd) n listed a w (Region.free_spec hi hf) j6 (.inl ⟨hw,hv⟩) (h hC)
 ·rw [if_neg hw] at h
  exact firstD (Cy := C) hi hs hik' (fun _ h => h) (.inl hd) n listed a w (Region.free_spec hi hf) j6 (.inr ⟨by simpa using hw,rfl⟩) (h hC)
theorem Mtk.pureT {listed : Array Bool} (i : Nat) {o : Oper} (hs : Region.noSelect ops = true) (hi : ops[i]? = some o) (he : effB o = false) (hr : (Region.ready .any ops listed).contains i = true) (hf : Region.free .any ops listed i = true) (hik : Nat.beq i k = false)
  (h : Wl [o] P (.mix D) ops N Γ (fun _ => True) (MtkQ P ops k C C2 Q n (listed.setIfInBounds i true))) : Mtk P ops k N (n + 1) listed Γ D C C2 Q := fun a w ha hD hC => by
 have hik' : i ≠ k := fun e => by rw [e,Nat.beq_refl] at hik;cases hik
 have h := h.elimM a w ha hD trivial
 simp only [wpE,he] at h
 by_cases hw : Region.wanted o (yielded ops a.tmps) = true
 ·rw [if_pos hw] at h
  obtain ⟨v,hv,h⟩ := h
  exact firstD (Cy := fun _ => True) hi hs hik' (fun _ _ => trivial) (.inr fun _ _ => trivial) n listed a w (Region.free_spec hi hf) j6 (.inl ⟨hw,hv⟩) (h hC)
 ·rw [if_neg hw] at h
  exact firstD (Cy := fun _ => True) hi hs hik' (fun _ _ => trivial) (.inr fun _ _ => trivial) n listed a w (Region.free_spec hi hf) j6 (.inr ⟨by simpa using hw,rfl⟩) (h hC)
theorem Mtk.op {listed : Array Bool} {i : Nat} {o : Oper} (hi : ops[i]? = some o) (hik : Nat.beq i k = false) (h : Wl [o] P .seq ops N Γ D (MtkE P ops k C C2 Q n (listed.setIfInBounds i true))) (a : Act) (w : World) (ha : Fr N a Γ) (hD : D w) :
  wpOp P ops (onlyN Q) i (if i = k then wpAnyC P ops C2 Q n (listed.setIfInBounds i true) else wpAnyD P ops C C2 Q k n (listed.setIfInBounds i true)) a w := by
 have hik' : i ≠ k := fun e => by rw [e,Nat.beq_refl] at hik;cases hik
 rw [if_neg hik']
 have h := h.elim a w ha hD
 unfold wpOp
 simp only [hi]
 simp only [wpList] at h
 split
 ·rename_i hw
  rw [if_pos hw] at h
  rcases h with h | ⟨_,x,y,h⟩
  ·refine .inl ?_
   have h1 := wp_only (fun _ _ _ h => h.1) h
   have h2 := Oper.wp_mono (fun a' w' hh => hh.2.2) h1
   unfold Oper.wp at *
   generalize (execOp a.eval o).run P w = r at *
   cases r with
   | ok n w' =>
    cases n <;> simp only [Oper.upon] at h2 ⊢
    case value u => exact h2
    case skip => exact h2
    case defer d => exact h2
    case enter f args => exact Calls.mono h2 (fun e w'' he => by cases e <;> first | exact he | exact he.elim | (obtain ⟨_,_,hf⟩ := he;exact hf.elim))
    case row row args => exact h2
   | halt x w' => cases x <;> simp only [Oper.upon] at h2
  ·cases h.1
 ·rename_i hw
  rw [if_neg hw] at h
  exact h.2.2
theorem Mtk.eff1 {listed : Array Bool} {i : Nat} {o : Oper} (hr : Region.ready .any ops listed = [i]) (hi : ops[i]? = some o) (hk : Nat.beq i k = false) (h : Wl [o] P .seq ops N Γ D (MtkE P ops k C C2 Q n (listed.setIfInBounds i true))) : Mtk P ops k N (n + 1) listed Γ D C C2 Q := fun a w ha hD hC => by
 refine ⟨hC,fun e => qy,fun j hj => ?_⟩
 rw [hr,List.mem_singleton] at hj
 subst hj
 exact Mtk.op hi hk h a w ha hD
theorem Mtk.eff2 {listed : Array Bool} {i j : Nat} {o o' : Oper} (hr : Region.ready .any ops listed = [i,j]) (hi : ops[i]? = some o) (hj : ops[j]? = some o') (hk : Nat.beq i k = false) (hk' : Nat.beq j k = false) (h : Wl [o] P .seq ops N Γ D (MtkE P ops k C C2 Q n (listed.setIfInBounds i true)))
  (h' : Wl [o'] P .seq ops N Γ D (MtkE P ops k C C2 Q n (listed.setIfInBounds j true))) : Mtk P ops k N (n + 1) listed Γ D C C2 Q := fun a w ha hD hC => by
 refine ⟨hC,fun e => qy,fun x hx => ?_⟩
 rw [hr] at hx
 simp only [List.mem_cons,List.not_mem_nil,or_false] at hx
 rcases hx with rfl | rfl
 ·exact Mtk.op hi hk h a w ha hD
 ·exact Mtk.op hj hk' h' a w ha hD
theorem Mtk.eff3 {listed : Array Bool} {i j l : Nat} {o o' o'' : Oper} (hr : Region.ready .any ops listed = [i,j,l]) (hi : ops[i]? = some o) (hj : ops[j]? = some o') (hl : ops[l]? = some o'') (hk : Nat.beq i k = false) (hk' : Nat.beq j k = false) (hk'' : Nat.beq l k = false) (h : Wl [o] P .seq ops N Γ D (MtkE P ops k C C2 Q n (listed.setIfInBounds i true)))
  (h' : Wl [o'] P .seq ops N Γ D (MtkE P ops k C C2 Q n (listed.setIfInBounds j true))) (h'' : Wl [o''] P .seq ops N Γ D (MtkE P ops k C C2 Q n (listed.setIfInBounds l true))) : Mtk P ops k N (n + 1) listed Γ D C C2 Q := fun a w ha hD hC => by
 refine ⟨hC,fun e => qy,fun x hx => ?_⟩
 rw [hr] at hx
 simp only [List.mem_cons,List.not_mem_nil,or_false] at hx
 rcases hx with rfl | rfl | rfl
 ·exact Mtk.op hi hk h a w ha hD
 ·exact Mtk.op hj hk' h' a w ha hD
 ·exact Mtk.op hl hk'' h'' a w ha hD
theorem Mtk.cut {listed : Array Bool} {o : Oper} (hr : Region.ready .any ops listed = [k]) (hi : ops[k]? = some o) (h : Wl [o] P .seq ops N Γ D (MtE P ops C2 Q n (listed.setIfInBounds k true))) : Mtk P ops k N (n + 1) listed Γ D C C2 Q := fun a w ha hD hC => by
 refine ⟨hC,fun e => qy,fun j hj => ?_⟩
 rw [hr,List.mem_singleton] at hj
 subst hj
 rw [if_pos rfl]
 exact Mt.op hi h a w ha hD
end
section
variable {P : Program} {N : Nat} {Γ : Env} {C B : World → Prop} {Q : Exit → Act → World → Prop}
theorem St.treeK {i : Nat} {l : List Oper} (k : Nat) (B : World → Prop) (hm : P.follows .mixedOrders = true) (hC : ∀ w,C w → C w.drew ∧ B w.drew) (h : Mtk P l.toArray k N l.length (Array.replicate l.length false) Γ C B (fun _ => True) (fun a w => Q .normal a w)) :
  St (.region i l.toArray true) P N Γ C Q := St.intro fun a w ha hw => by
 refine wp_mono (wp_region_any (Q := onlyN fun a' w' => Q .normal a' w') hm ?_) ?_
 ·have := wpAny_of_D _ _ _ _ (h a w.drew ha (hC w hw).1 (hC w hw).2)
  simpa using this
 ·intro e a w h
  cases e <;> first | exact h | exact h.elim
end
end Go.Pt
end
