/-
 3 texts,one behind the other;each says what it proves. Conditions: as each text says.
-/
import Derived.Test.YtabbklpalbikdaaGreatDoorM02
import Derived.Test.YtabbklpalbikdaaGreatDoorM03
set_option maxHeartbeats 32000000
set_option linter.unusedVariables false
set_option linter.unusedSimpArgs false
section
namespace Go.Proofs.YtabbklpalbikdaaGreatDoor
open Go.RowKit Go.Pt
theorem Hp.restT {S : Nat → Prop} {w0 w w' : World} {H : List Blk} (h : Hp w0 H w) (u : Upd S w w') (hs : ∀ x ∈ H,¬ S x.b) : Hp w' H w' := ⟨Upd.refl _ _,h.own.upd u hs,h.apart⟩
def BxR (w : World) (base : Nat) (ls : Nat → List (Int × List UInt8)) (vs : List Value) (n : Nat) : Prop :=
 vs.length = n ∧ ∀ j,j < n → ∃ v,vs[j]? = some v ∧ w.ownsRow base 78 2 v (ls j).length ((ls j).map lineC).flatten
structure StT (w : World) (base : Nat) (M : Mv2) (ls : Nat → List (Int × List UInt8)) (sv iv bv lv : Value) (cM : Nat) (vs : List Value) : Prop where
 s : w.ownsRow base 44 35 sv M.L.length (stas M.L).flatten
 i : w.ownsRow base 9 1 iv M.L.length (M.ins.map strV)
 b : w.ownsRow base 76 1 bv M.L.length vs
 bl : BxR w base ls vs M.L.length
 l : w.ownsRow base 111 2 lv M.ll.length (M.ll.map lineC).flatten
 m : memH w cM M.f
def Zc (I : Mi) (ls : Nat → List (Int × List UInt8)) (k : Nat) : Prop := ∃ i,I.cs[i]? = some k ∧ ls i ≠ []
theorem Zc.mem {I : Mi} {ls : Nat → List (Int × List UInt8)} {k : Nat} (h : Zc I ls k) : k ∈ I.cs := h.elim fun _ h => List.mem_of_getElem? h.1
structure StJ (w wc : World) (base : Nat) (I : Mi) (M : Mv2) (ls : Nat → List (Int × List UInt8)) (i1 i2 i3 : Nat) (sv iv bv lv : Value) (vs : List Value) (c2 c3 cC : Nat) : Prop where
 mon : MonS wc base I M
 s : wc.ownsRow w.heap.size 44 35 sv i1 (stas (M.L.take i1)).flatten
 i : wc.ownsRow w.heap.size 9 1 iv i2 ((M.ins.take i2).map strV)
 b : wc.ownsRow w.heap.size 76 1 bv i3 vs
 bl : vs.length = i3 ∧ ∀ j,j < i3 → ∃ v,vs[j]? = some v ∧ wc.ownsRow w.heap.size 78 2 v (ls j).length ((ls j).map lineC).flatten ∧ ∀ k,v.ownBlock = some k → k ≠ c3 ∧ k ≠ c2
 l : wc.ownsRow w.heap.size 111 2 lv M.ll.length (M.ll.map lineC).flatten
 m : memH wc cC M.f
 os : ∀ k,sv.ownBlock = some k → k ≠ c3 ∧ k ≠ c2
 oi : ∀ k,iv.ownBlock = some k → k ≠ c3 ∧ k ≠ c2
 ob : ∀ k,bv.ownBlock = some k → k ≠ c3 ∧ k ≠ c2
 ol : ∀ k,lv.ownBlock = some k → k ≠ c3 ∧ k ≠ c2
 u : Upd (fun k => Zc I ls k ∨ w.heap.size ≤ k) w wc
 cc : c3 ≠ cC ∧ c2 ≠ cC ∧ w.heap.size ≤ c2 ∧ w.heap.size ≤ c3 ∧ w.heap.size ≤ cC ∧ c3 ≠ c2
section
variable {w wc w1 : World} {base : Nat} {I : Mi} {M : Mv2} {ls : Nat → List (Int × List UInt8)} {i1 i2 i3 : Nat} {sv iv bv lv v : Value} {vs : List Value} {c2 c3 cC : Nat} {t2 t3 : Nat} {xs2 xs3 : List Value}
theorem StJ.grow (k : StJ w wc base I M ls i1 i2 i3 sv iv bv lv vs c2 c3 cC) (h0 : MonS w base I M) {x : Value} (hx : ∀ b,x.ownBlock = some b → w.heap.size ≤ b) (u1 : Upd (fun k => x.ownBlock = some k ∨ ¬ Off [⟨c3,xs3,t3⟩,⟨c2,xs2,t2⟩] k) wc w1) : MonS w1 base I M ∧ Upd (fun k => Zc I ls k ∨ w.heap.size ≤ k) w w1 := by
 have hc := k.cc
 have key : ∀ b,x.ownBlock = some b ∨ ¬ Off [⟨c3,xs3,t3⟩,⟨c2,xs2,t2⟩] b → w.heap.size ≤ b := fun b hb => by
  rcases hb with y | y
  ·exact hx b y
  ·rcases offs2 y with rfl | rfl <;> omega
 exact ⟨k.mon.upd u1 fun b hb hs => by have := key b hs;have := (h0.lt b hb).2;omega,k.u.comp u1 fun b _ hs => hs.elim id fun y => .inr (key b y)⟩
theorem StJ.upd {S : Nat → Prop} (k : StJ w wc base I M ls i1 i2 i3 sv iv bv lv vs c2 c3 cC) (h1 : MonS w1 base I M) (u1 : Upd S wc w1) (hs : ∀ b,S b → b < wc.heap.size → (Zc I ls b ∧ b < w.heap.size) ∨ b = c3 ∨ b = c2) : StJ w w1 base I M ls i1 i2 i3 sv iv bv lv vs c2 c3 cC := by
 obtain ⟨a1,a2,a3,a4,a5,a6⟩ := k.cc
 have kr : ∀ {y : Value} {e sz n : Nat} {xs : List Value},wc.ownsRow w.heap.size e sz y n xs → (∀ b,y.ownBlock = some b → b ≠ c3 ∧ b ≠ c2) → w1.ownsRow w.heap.size e sz y n xs := fun hr ho =>
  ownsRow_upd hr u1 fun b hb y => by
   have g := hr.ge b hb
   have := ho b hb
   rcases hs b y g.2 with h | h | h <;> omega
 exact {
  mon := h1
  s := kr k.s k.os
  i := kr k.i k.oi
  b := kr k.b k.ob
  bl := ⟨k.bl.1,fun j hj => by obtain ⟨v,e1,e2,e3⟩ := k.bl.2 j hj;exact ⟨v,e1,kr e2 e3,e3⟩⟩
  l := kr k.l k.ol
  m := u1.heap k.m fun y => by rcases hs _ y (lt_of_block k.m) with h | h | h <;> omega
  os := k.os
  oi := k.oi
  ob := k.ob
  ol := k.ol
  u := k.u.comp ((Upd.refl (fun b => Zc I ls b ∨ w.heap.size ≤ b) wc).comp u1 (T := fun b => Zc I ls b ∨ w.heap.size ≤ b) fun b hb h => h.elim id fun h => by rcases hs b h hb with h | h | h <;> first | exact .inl h.1 | (right;omega)) fun b _ h => h.elim id id
  cc := k.cc }
theorem bl_keep {x : Value} {e' sz' m : Nat} {ys : List Value} (k : StJ w wc base I M ls i1 i2 i3 sv iv bv lv vs c2 c3 cC) (hx : wc.ownsRow w.heap.size e' sz' x m ys) (he : 78 ≠ e') (u1 : Upd (fun k => x.ownBlock = some k ∨ ¬ Off [⟨c3,xs3,t3⟩,⟨c2,xs2,t2⟩] k) wc w1) : vs.length = i3 ∧ ∀ j,j < i3 → ∃ v,vs[j]? = some v ∧ w1.ownsRow w.heap.size 78 2 v (ls j).length ((ls j).map lineC).flatten ∧ ∀ k,v.ownBlock = some k → k ≠ c3 ∧ k ≠ c2 :=
 ⟨k.bl.1,fun j hj => by obtain ⟨v,e1,e2,e3⟩ := k.bl.2 j hj;exact ⟨v,e1,row_keep e2 hx he e3 u1,e3⟩⟩
theorem bl_add {i : Nat} (k : vs.length = i ∧ ∀ j,j < i → ∃ v,vs[j]? = some v ∧ w1.ownsRow w.heap.size 78 2 v (ls j).length ((ls j).map lineC).flatten ∧ ∀ k,v.ownBlock = some k → k ≠ c3 ∧ k ≠ c2) (h : w1.ownsRow w.heap.size 78 2 v (ls i).length ((ls i).map lineC).flatten) (hk : ∀ k,v.ownBlock = some k → k ≠ c3 ∧ k ≠ c2) :
  (vs ++ [v]).length = i + 1 ∧ ∀ j,j < i + 1 → ∃ v',(vs ++ [v])[j]? = some v' ∧ w1.ownsRow w.heap.size 78 2 v' (ls j).length ((ls j).map lineC).flatten ∧ ∀ k,v'.ownBlock = some k → k ≠ c3 ∧ k ≠ c2 := by
 refine ⟨by rw [List.length_append,k.1];rfl,fun j hj => ?_⟩
 by_cases e : j < i
 ·obtain ⟨v',e1,e2⟩ := k.2 j e
  exact ⟨v',by rw [List.getElem?_append_left (by rw [k.1];exact e)];exact e1,e2⟩
 ·obtain rfl : j = i := by omega
  exact ⟨v,by rw [List.getElem?_append_right (by rw [k.1];exact Nat.le_refl _),k.1,Nat.sub_self];rfl,h,hk⟩
end
theorem pAllM (base : Nat) (I : Mi) (M : Mv2) (ls : Nat → List (Int × List UInt8)) (i : Nat) (w : World) (hM : MonS w base I M) (hi : i < M.L.length) (hb : M.bx i = (ls i).map letV ∧ (ls i).length ≤ 4) :
  Calls Tryz.prog 75 #[.pointer (some ⟨I.pp,0,none⟩),.int .i64 i] w fun e w' => ∃ v,∃ S : Nat → Prop,e = .returned v ∧ w'.ownsRow w.heap.size 78 2 v (ls i).length ((ls i).map lineC).flatten ∧ MonS w' base I M ∧ (∀ k,S k → Zc I ls k) ∧ Upd S w w' := by
 obtain ⟨ch,hc⟩ : ∃ c,I.cs[i]? = some c := ⟨_,List.getElem?_eq_getElem (by rw [hM.len.1];exact hi)⟩
 by_cases h0 : ls i = []
 ·refine (pAll0 I.pp I.pa I.cs M.bx i w hM.post (by rw [hM.len.1];exact hi) (by rw [hb.1,h0];rfl)).mono ?_
  rintro e w' ⟨rfl,hq⟩
  exact ⟨_,fun _ => False,rfl,by rw [h0];exact World.ownsRow_nil _ _ _ _,hM.upd hq.upd fun _ _ y => y trivial,fun _ h => h.elim,hq.upd.mono fun _ _ y => y trivial⟩
 ·refine (pAll I.pp I.pa I.cs M.bx i ch (ls i) w hM.post hc hb.1 hb.2).mono ?_
  rintro e w' ⟨v,rfl,h1,h2,h3⟩
  have u : Upd (fun k => k = ch) w w' := (Upd.refl (fun k => k = ch) w).comp h3 fun k hk hs => hs.elim id fun h => h.elim id fun h => by omega
  exact ⟨v,fun k => k = ch,rfl,h1,hM.snd (List.mem_of_getElem? hc) h2 u,fun k hk => ⟨i,hk ▸ hc,h0⟩,u⟩
theorem mStateL (base : Nat) (I : Mi) (M : Mv2) (ls : Nat → List (Int × List UInt8)) (w : World) (hM : MonS w base I M) (hb : base ≤ w.heap.size) (hbx : ∀ i,i < M.L.length → M.bx i = (ls i).map letV ∧ (ls i).length ≤ 4) (hll : M.ll.length ≤ 1000) :
  Calls Tryz.prog 20 #[.pointer (some ⟨I.m,0,none⟩)] w fun e w' => ∃ sv iv bv lv cM' vs,e = .returned (.agg #[.int .i64 (turnV M.t),sv,iv,bv,lv,.pointer (some ⟨cM',0,none⟩)]) ∧ StT w' w.heap.size M ls sv iv bv lv cM' vs ∧ w.heap.size ≤ cM' ∧ MonS w' base I M ∧ Upd (fun k => Zc I ls k ∨ w.heap.size ≤ k) w w' := by
 have hM0 := hM
 have hw : Upd (fun k => w.heap.size ≤ k) w w := Upd.refl _ _
 have hn1 := hM.ward.2.2
 have hTn := fun wq (k : MonS wq base I M) => wTurn I.wd I.sa M.L M.t wq k.ward
 change ∀ wq,MonS wq base I M → Calls Tryz.prog 58 #[.pointer (some ⟨I.wd,0,none⟩)] wq (fun e w' => e = .returned (.int .i64 (turnV M.t)) ∧ Hp wq [] w') at hTn
 refine enter (args := [_]) (Γ := [(0,_)]) Tryz.func20 Tryz.ntmps20 rfl odq (.cons rfl .nil) ?_
 repeat' first | refine Wl.move rfl rfl ?_ | refine Wl.eqlPN rfl rfl rfl ?_ | (apply Wl.alloc;exact rfl;intro c hc ho) | apply Wl.nil | apply St.region | (apply St.condF;exact rfl;exact k5) | apply St.skip | apply Gt.next | (apply St.seqK (k := 3);exact rfl) | (apply St.seqKS (k := 3);exact rfl)
 generalize c = c2 at *
 have hc2 : w.heap.size ≤ c2 := by assumption
 apply St.cut (σ := World × Nat × Value × Nat) (fun τ => MonS τ.1 base I M ∧ w.heap.size ≤ τ.2.1 ∧ τ.2.1 ≠ c2 ∧ τ.1.ownsRow w.heap.size 111 2 τ.2.2.1 M.ll.length (M.ll.map lineC).flatten ∧ memH τ.1 τ.2.2.2 M.f ∧ w.heap.size ≤ τ.2.2.2 ∧ Upd (fun k => w.heap.size ≤ k) w τ.1 ∧ τ.2.1 ≠ τ.2.2.2 ∧ c2 ≠ τ.2.2.2 ∧ (∀ k,τ.2.2.1.ownBlock = some k → k ≠ τ.2.1 ∧ k ≠ c2))
  (fun τ => [(0,.pointer (some ⟨I.m,0,none⟩)),(2,.pointer (some ⟨c2,0,none⟩)),(3,.pointer (some ⟨τ.2.1,0,none⟩))])
  (fun τ => Hp τ.1 [⟨τ.2.1,[.int .i64 (turnV M.t),.slice none 0 0,.slice none 0 0,.slice none 0 0,τ.2.2.1,.pointer (some ⟨τ.2.2.2,0,none⟩)],54⟩,⟨c2,[.int .i64 0,.slice none 0 0,.slice none 0 0,.slice none 0 0,.slice none 0 0,.pointer none],54⟩])
 ·skip
  refine St.tree (fun w' => MonS w' base I M) mixed (fun _ h' => ⟨Hp.drew h',hM.hp0 hM0 (Hp.drew h') k6⟩) ?_
  refine Mt.pm 0 ?_
  refine Mt.pm 5 ?_
  refine Mt.pm 13 ?_
  refine Mt.pn 1 ?_
  refine Mt.pn 6 ?_
  refine Mt.pn 14 ?_
  refine Mt.pz 2 ?_
  refine Mt.pz 7 ?_
  refine Mt.pz 15 ?_
  refine Mt.pu 3 ?_
  apply Wl.loadF;exact rfl;exact rfl;(intro w' h';first | exact cell_of h'.mm rfl | exact cell_of h'.dd rfl);apply Wl.nilB
  refine Mt.pu 8 ?_
  apply Wl.loadF;exact rfl;exact rfl;(intro w' h';first | exact cell_of h'.mm rfl | exact cell_of h'.dd rfl);apply Wl.nilB
  refine Mt.pu 16 ?_
  apply Wl.loadF;exact rfl;exact rfl;(intro w' h';first | exact cell_of h'.mm rfl | exact cell_of h'.dd rfl);apply Wl.nilB
  refine Mt.pn 9 ?_
  refine Mt.pn 17 ?_
  refine Mt.pz 10 ?_
  refine Mt.pz 18 ?_
  refine Mt.pu 11 ?_
  apply Wl.loadF;exact rfl;exact rfl;(intro w' h';first | exact cell_of h'.mm rfl | exact cell_of h'.dd rfl);apply Wl.nilB
  refine Mt.pu 19 ?_
  apply Wl.loadF;exact rfl;exact rfl;(intro w' h';first | exact cell_of h'.mm rfl | exact cell_of h'.dd rfl);apply Wl.nilB
  refine Mt.eff2 (i := 4) (j := 22) ka kc kc ?_ ?_
  ·apply Wl.callQ
   ·exact rfl
   ·exact kd
   ·intro wq hq
    exact hq.q (hTn wq (hM.hp0 hM0 hq k6))
   apply Wl.nil
   refine Mt.backE (fun _ h' => hM.hp0 hM0 h' k6) ?_
   refine Mt.eff2 (i := 12) (j := 22) ka kc kc ?_ ?_
   ·apply Wl.callC
    ·exact rfl
    ·exact kd
    intro wq hq
    have hMq := hM.hp0 hM0 hq k6
    have zq := hq.upd.size
    have hltL : ∀ x : Blk,x ∈ _ → x.b < wq.heap.size := fun x hx => hq.own.lt hx
    simp only [List.mem_cons,List.not_mem_nil,or_false,forall_eq_or_imp,forall_eq] at hltL
    refine (bLines base I.bd I.ia M.lv M.ll M.used M.ins wq hMq.board kf hll).mono ?_
    rintro e wL ⟨lvv,rfl,hLv,uL⟩
    have hqL := hq.newer uL
    have zL := uL.size
    have hwL : Upd (fun k => w.heap.size ≤ k) w wL := hqL.on hw k6
    have hM := hMq.new uL (Nat.le_refl _)
    have lvge := hLv.ge
    have hlv1 := hLv.one
    refine ⟨_,_,rfl,hqL.rb,?_⟩
    clear hMq
    apply Wl.nil
    refine Mt.backE (fun _ h' => hM.hp0 hM0 h' k6) ?_
    refine Mt.eff2 (i := 20) (j := 22) ka kc kc ?_ ?_
    ·apply Wl.callC
     ·exact rfl
     ·exact kd
     intro wq2 hq2
     have hMq := hM.hp0 hM0 hq2 k6
     have zq2 := hq2.upd.size
     have hltC : ∀ x : Blk,x ∈ _ → x.b < wq2.heap.size := fun x hx => hq2.own.lt hx
     simp only [List.mem_cons,List.not_mem_nil,or_false,forall_eq_or_imp,forall_eq] at hltC
     refine (mcopy I.cM M.f wq2 hMq.mem).mono ?_
     rintro e wC ⟨cC,rfl,hcC,hmC,uC⟩
     have hqC := hq2.newer uC
     have zC := uC.size
     have hwC : Upd (fun k => w.heap.size ≤ k) w wC := hqC.on hwL k6
     have hM := hMq.new uC (Nat.le_refl _)
     have hLvC := ownsRow_upd (ownsRow_upd hLv hq2.upd fun k hk y => y (Off.of zh)) uC fun k hk => by have h1 := lvge k hk;omega
     have lmC := lt_of_block hmC
     refine ⟨_,_,rfl,hqC.rb,?_⟩
     clear hMq
     apply Wl.nil
     refine Mt.backE (fun _ h' => hM.hp0 hM0 h' k6) ?_
     refine Mt.pu 21 ?_
     apply Wl.buildS;exact rfl;exact kh;exact ze;apply Wl.nilB
     refine Mt.e1 22 ?_
     apply Wl.alloc
     ·exact rfl
     intro c3 hc3 ho3
     apply Wl.nil
     refine Mt.backE (fun _ h' => hM.hp0 hM0 h' k6) ?_
     refine Mt.e1 23 ?_
     apply Wl.storeA
     ·exact rfl
     ·exact rfl
     ·exact rfl
     ·show (true && (true && (true && (true && (Value.oneCell' lvv && (true && true)))))) = true;rw [hlv1];rfl
     ·exact kd
     ·exact .z (LOver.whole rfl)
     apply Wl.nil
     refine Mt.backE (fun _ h' => hM.hp0 hM0 h' k6) ?_
     refine Mt.toGt ka ?_
     apply Gt.meet (wC,c3,lvv,cC)
     ·exact ⟨hM,by simp only;omega,fun e => ho3.1 e.symm,hLvC.baseLe kf,hmC,by simp only;omega,hwC,by simp only;omega,by simp only;omega,fun k hk => by have h1 := lvge k hk;simp only;omega⟩
     ·exact kd
     ·exact fun _ h' => h'
    ·apply Wl.alloc
     ·exact rfl
     intro c3 hc3 ho3
     apply Wl.nil
     refine Mt.backE (fun _ h' => hM.hp0 hM0 h' k6) ?_
     refine Mt.e1 20 ?_
     apply Wl.callC
     ·exact rfl
     ·exact kd
     intro wq2 hq2
     have hMq := hM.hp0 hM0 hq2 k6
     have zq2 := hq2.upd.size
     have hltC : ∀ x : Blk,x ∈ _ → x.b < wq2.heap.size := fun x hx => hq2.own.lt hx
     simp only [List.mem_cons,List.not_mem_nil,or_false,forall_eq_or_imp,forall_eq] at hltC
     refine (mcopy I.cM M.f wq2 hMq.mem).mono ?_
     rintro e wC ⟨cC,rfl,hcC,hmC,uC⟩
     have hqC := hq2.newer uC
     have zC := uC.size
     have hwC : Upd (fun k => w.heap.size ≤ k) w wC := hqC.on hwL k6
     have hM := hMq.new uC (Nat.le_refl _)
     have hLvC := ownsRow_upd (ownsRow_upd hLv hq2.upd fun k hk y => y (Off.of zh)) uC fun k hk => by have h1 := lvge k hk;omega
     have lmC := lt_of_block hmC
     refine ⟨_,_,rfl,hqC.rb,?_⟩
     clear hMq
     apply Wl.nil
     refine Mt.backE (fun _ h' => hM.hp0 hM0 h' k6) ?_
     refine Mt.pu 21 ?_
     apply Wl.buildS;exact rfl;exact kh;exact ze;apply Wl.nilB
     refine Mt.e1 23 ?_
     apply Wl.storeA
     ·exact rfl
     ·exact rfl
     ·exact rfl
     ·show (true && (true && (true && (true && (Value.oneCell' lvv && (true && true)))))) = true;rw [hlv1];rfl
     ·exact kd
     ·exact .z (LOver.whole rfl)
     apply Wl.nil
     refine Mt.backE (fun _ h' => hM.hp0 hM0 h' k6) ?_
     refine Mt.toGt ka ?_
     apply Gt.meet (wC,c3,lvv,cC)
     ·exact ⟨hM,by simp only;omega,fun e => ho3.1 e.symm,hLvC.baseLe kf,hmC,by simp only;omega,hwC,by simp only;omega,by simp only;omega,fun k hk => by have h1 := lvge k hk;simp only;omega⟩
     ·exact kd
     ·exact fun _ h' => h'
   ·apply Wl.alloc
    ·exact rfl
    intro c3 hc3 ho3
    apply Wl.nil
    refine Mt.backE (fun _ h' => hM.hp0 hM0 h' k6) ?_
    refine Mt.e1 12 ?_
    apply Wl.callC
    ·exact rfl
    ·exact kd
    intro wq hq
    have hMq := hM.hp0 hM0 hq k6
    have zq := hq.upd.size
    have hltL : ∀ x : Blk,x ∈ _ → x.b < wq.heap.size := fun x hx => hq.own.lt hx
    simp only [List.mem_cons,List.not_mem_nil,or_false,forall_eq_or_imp,forall_eq] at hltL
    refine (bLines base I.bd I.ia M.lv M.ll M.used M.ins wq hMq.board kf hll).mono ?_
    rintro e wL ⟨lvv,rfl,hLv,uL⟩
    have hqL := hq.newer uL
    have zL := uL.size
    have hwL : Upd (fun k => w.heap.size ≤ k) w wL := hqL.on hw k6
    have hM := hMq.new uL (Nat.le_refl _)
    have lvge := hLv.ge
    have hlv1 := hLv.one
    refine ⟨_,_,rfl,hqL.rb,?_⟩
    clear hMq
    apply Wl.nil
    refine Mt.backE (fun _ h' => hM.hp0 hM0 h' k6) ?_
    refine Mt.e1 20 ?_
    apply Wl.callC
    ·exact rfl
    ·exact kd
    intro wq2 hq2
    have hMq := hM.hp0 hM0 hq2 k6
    have zq2 := hq2.upd.size
    have hltC : ∀ x : Blk,x ∈ _ → x.b < wq2.heap.size := fun x hx => hq2.own.lt hx
    simp only [List.mem_cons,List.not_mem_nil,or_false,forall_eq_or_imp,forall_eq] at hltC
    refine (mcopy I.cM M.f wq2 hMq.mem).mono ?_
    rintro e wC ⟨cC,rfl,hcC,hmC,uC⟩
    have hqC := hq2.newer uC
    have zC := uC.size
    have hwC : Upd (fun k => w.heap.size ≤ k) w wC := hqC.on hwL k6
    have hM := hMq.new uC (Nat.le_refl _)
    have hLvC := ownsRow_upd (ownsRow_upd hLv hq2.upd fun k hk y => y (Off.of zh)) uC fun k hk => by have h1 := lvge k hk;omega
    have lmC := lt_of_block hmC
    refine ⟨_,_,rfl,hqC.rb,?_⟩
    clear hMq
    apply Wl.nil
    refine Mt.backE (fun _ h' => hM.hp0 hM0 h' k6) ?_
    refine Mt.pu 21 ?_
    apply Wl.buildS;exact rfl;exact kh;exact ze;apply Wl.nilB
    refine Mt.e1 23 ?_
    apply Wl.storeA
    ·exact rfl
    ·exact rfl
    ·exact rfl
    ·show (true && (true && (true && (true && (Value.oneCell' lvv && (true && true)))))) = true;rw [hlv1];rfl
    ·exact kd
    ·exact .z (LOver.whole rfl)
    apply Wl.nil
    refine Mt.backE (fun _ h' => hM.hp0 hM0 h' k6) ?_
    refine Mt.toGt ka ?_
    apply Gt.meet (wC,c3,lvv,cC)
    ·exact ⟨hM,by simp only;omega,fun e => ho3.1 e.symm,hLvC.baseLe kf,hmC,by simp only;omega,hwC,by simp only;omega,by simp only;omega,fun k hk => by have h1 := lvge k hk;simp only;omega⟩
    ·exact kd
    ·exact fun _ h' => h'
  ·apply Wl.alloc
   ·exact rfl
   intro c3 hc3 ho3
   apply Wl.nil
   refine Mt.backE (fun _ h' => hM.hp0 hM0 h' k6) ?_
   refine Mt.e1 4 ?_
   apply Wl.callQ
   ·exact rfl
   ·exact kd
   ·intro wq hq
    exact hq.q (hTn wq (hM.hp0 hM0 hq k6))
   apply Wl.nil
   refine Mt.backE (fun _ h' => hM.hp0 hM0 h' k6) ?_
   refine Mt.e1 12 ?_
   apply Wl.callC
   ·exact rfl
   ·exact kd
   intro wq hq
   have hMq := hM.hp0 hM0 hq k6
   have zq := hq.upd.size
   have hltL : ∀ x : Blk,x ∈ _ → x.b < wq.heap.size := fun x hx => hq.own.lt hx
   simp only [List.mem_cons,List.not_mem_nil,or_false,forall_eq_or_imp,forall_eq] at hltL
   refine (bLines base I.bd I.ia M.lv M.ll M.used M.ins wq hMq.board kf hll).mono ?_
   rintro e wL ⟨lvv,rfl,hLv,uL⟩
   have hqL := hq.newer uL
   have zL := uL.size
   have hwL : Upd (fun k => w.heap.size ≤ k) w wL := hqL.on hw k6
   have hM := hMq.new uL (Nat.le_refl _)
   have lvge := hLv.ge
   have hlv1 := hLv.one
   refine ⟨_,_,rfl,hqL.rb,?_⟩
   clear hMq
   apply Wl.nil
   refine Mt.backE (fun _ h' => hM.hp0 hM0 h' k6) ?_
   refine Mt.e1 20 ?_
   apply Wl.callC
   ·exact rfl
   ·exact kd
   intro wq2 hq2
   have hMq := hM.hp0 hM0 hq2 k6
   have zq2 := hq2.upd.size
   have hltC : ∀ x : Blk,x ∈ _ → x.b < wq2.heap.size := fun x hx => hq2.own.lt hx
   simp only [List.mem_cons,List.not_mem_nil,or_false,forall_eq_or_imp,forall_eq] at hltC
   refine (mcopy I.cM M.f wq2 hMq.mem).mono ?_
   rintro e wC ⟨cC,rfl,hcC,hmC,uC⟩
   have hqC := hq2.newer uC
   have zC := uC.size
   have hwC : Upd (fun k => w.heap.size ≤ k) w wC := hqC.on hwL k6
   have hM := hMq.new uC (Nat.le_refl _)
   have hLvC := ownsRow_upd (ownsRow_upd hLv hq2.upd fun k hk y => y (Off.of zh)) uC fun k hk => by have h1 := lvge k hk;omega
   have lmC := lt_of_block hmC
   refine ⟨_,_,rfl,hqC.rb,?_⟩
   clear hMq
   apply Wl.nil
   refine Mt.backE (fun _ h' => hM.hp0 hM0 h' k6) ?_
   refine Mt.pu 21 ?_
   apply Wl.buildS;exact rfl;exact kh;exact ze;apply Wl.nilB
   refine Mt.e1 23 ?_
   apply Wl.storeA
   ·exact rfl
   ·exact rfl
   ·exact rfl
   ·show (true && (true && (true && (true && (Value.oneCell' lvv && (true && true)))))) = true;rw [hlv1];rfl
   ·exact kd
   ·exact .z (LOver.whole rfl)
   apply Wl.nil
   refine Mt.backE (fun _ h' => hM.hp0 hM0 h' k6) ?_
   refine Mt.toGt ka ?_
   apply Gt.meet (wC,c3,lvv,cC)
   ·exact ⟨hM,by simp only;omega,fun e => ho3.1 e.symm,hLvC.baseLe kf,hmC,by simp only;omega,hwC,by simp only;omega,by simp only;omega,fun k hk => by have h1 := lvge k hk;simp only;omega⟩
   ·exact kd
   ·exact fun _ h' => h'
 rintro ⟨w3,c3,lvv,cC⟩ ⟨hM3,hc3,hne,hL3,hm3,hcC,hu3,hne3,hne2,hlo⟩
 simp only at hM3 hc3 hne hL3 hm3 hcC hu3 hne3 hne2 hlo ⊢
 have hcnt := fun wq (k : MonS wq base I M) => wCount I.wd I.sa M.L M.t wq k.ward
 have q0 : w3.cell? ⟨I.m,2,none⟩ = some (.pointer (some ⟨I.wd,0,none⟩)) := cell_of hM3.mm rfl
 have hmlt := hM0.lt
 have lm1 := (hmlt I.m (.inl rfl)).2
 have l33 := hu3.size
 have lcC := lt_of_block hm3
 have loS : ∀ {b : Nat},b < w.heap.size → c3 ≠ b ∧ c2 ≠ b := fun hb => ⟨by omega,by omega⟩
 repeat' first | (apply Wl.loadO;exact rfl;exact rfl;exact zs;exact km) | refine Wl.move rfl rfl ?_ | refine Wl.nilCheck rfl rfl ?_ | refine Wl.fieldAddrZ rfl rfl ?_ | apply St.seq | apply St.region
 apply Wl.callQ
 exact rfl
 (focus repeat constructor)
 ·intro wq hq
  exact hq.q (hcnt wq (hM3.hp0 hM0 hq k6))
 repeat' first | refine Wl.move rfl rfl ?_ | apply Wl.nil | apply St.block | apply Gt.next
 refine St.loop (σ := Nat × World × Value × Value × Value × List Value) (fun τ => τ.1 ≤ M.L.length ∧ StJ w τ.2.1 base I M ls τ.1 τ.1 τ.1 τ.2.2.1 τ.2.2.2.1 τ.2.2.2.2.1 lvv τ.2.2.2.2.2 c2 c3 cC)
  (fun τ => [(0,.pointer (some ⟨I.m,0,none⟩)),(2,.pointer (some ⟨c2,0,none⟩)),(3,.pointer (some ⟨c3,0,none⟩)),(34,.int .i64 M.L.length),(35,.int .i64 (τ.1 : Int))])
  (fun τ => Hp τ.2.1 [⟨c3,[.int .i64 (turnV M.t),τ.2.2.1,τ.2.2.2.1,τ.2.2.2.2.1,lvv,.pointer (some ⟨cC,0,none⟩)],54⟩,⟨c2,[.int .i64 0,.slice none 0 0,.slice none 0 0,.slice none 0 0,.slice none 0 0,.pointer none],54⟩]) (fun τ => M.L.length - τ.1)
  (0,w3,.slice none 0 0,.slice none 0 0,.slice none 0 0,[]) ⟨Nat.zero_le _,hM3,World.ownsRow_nil _ _ _ _,World.ownsRow_nil _ _ _ _,World.ownsRow_nil _ _ _ _,⟨rfl,fun _ h => (Nat.not_lt_zero _ h).elim⟩,hL3,hm3,(fun k hk => by cases hk),(fun k hk => by cases hk),(fun k hk => by cases hk),hlo,hu3.mono fun _ _ h => .inr h,hne3,hne2,hc2,hc3,hcC,hne⟩ kq (fun _ h => h) ?_
 clear hM3 hL3 hm3 hu3 q0
 rintro ⟨i,w4,sv,iv,bv,vs⟩ ⟨hi,hS⟩
 simp only at hi hS ⊢
 obtain ⟨e1,e2,e3,e4,e5,e6⟩ := hS.cc
 have l44 := hS.u.size
 by_cases hlt : i < M.L.length
 ·have hd : decide ((i : Int) < (M.L.length : Int)) = true := decide_eq_true kf
  obtain ⟨x,hx⟩ : ∃ x,M.L[i]? = some x := ⟨_,List.getElem?_eq_getElem hlt⟩
  obtain ⟨s,hs⟩ : ∃ s,M.ins[i]? = some s := ⟨_,List.getElem?_eq_getElem (by have := hM0.len.2;omega)⟩
  have hxo := hM0.ward.2.1 x (List.mem_of_getElem? hx)
  repeat' first | refine Wl.lss rfl rfl rfl ?_ | apply Wl.nil | apply St.region | (apply St.condT;exact rfl;exact k5) | apply St.skip | apply Gt.next | (apply St.seqK (k := 7);exact rfl) | apply St.seqC
  apply St.seq
  repeat' first | refine Wl.move rfl rfl ?_ | refine Wl.assign rfl rfl ?_ | apply Wl.nil | apply St.block | apply St.region | apply Gt.next | (apply St.seqK (k := 7);exact rfl)
  apply St.cut (σ := World × Value) (fun τ => StJ w τ.1 base I M ls (i + 1) i i τ.2 iv bv lvv vs c2 c3 cC)
   (fun τ => [(0,.pointer (some ⟨I.m,0,none⟩)),(2,.pointer (some ⟨c2,0,none⟩)),(3,.pointer (some ⟨c3,0,none⟩)),(4,.int .i64 (i : Int)),(34,.int .i64 M.L.length),(35,.int .i64 (i : Int))])
   (fun τ => Hp τ.1 [⟨c3,[.int .i64 (turnV M.t),τ.2,iv,bv,lvv,.pointer (some ⟨cC,0,none⟩)],54⟩,⟨c2,[.int .i64 0,.slice none 0 0,.slice none 0 0,.slice none 0 0,.slice none 0 0,.pointer none],54⟩])
  ·have hM := hS.mon
   refine St.tree (fun w' => MonS w' base I M) mixed (fun _ h' => ⟨Hp.drew h',hM.hp0 hM0 (Hp.drew h') k6⟩) ?_
   refine Mt.pz 0 ?_
   refine Mt.pm 2 ?_
   refine Mt.pm 6 ?_
   refine Mt.pn 3 ?_
   refine Mt.pz 4 ?_
   refine Mt.pu 5 ?_
   apply Wl.loadF;exact rfl;exact rfl;(intro w' h';first | exact cell_of h'.mm rfl | exact cell_of h'.dd rfl);apply Wl.nilB
   refine Mt.eff2 (i := 1) (j := 7) ka kc kc ?_ ?_
   ·repeat' first | (apply Wl.loadH;exact rfl;exact rfl;exact kd;exact rfl) | apply Wl.nil
    refine Mt.backE (fun _ h' => hM.hp0 hM0 h' k6) ?_
    refine Mt.e1 7 ?_
    apply Wl.callQ
    ·exact rfl
    ·exact kd
    ·intro wq hq
     exact hq.q (wStatus I.wd I.sa M.L M.t i x wq (hM.hp0 hM0 hq k6).ward hx)
    apply Wl.nil
    refine Mt.backE (fun _ h' => hM.hp0 hM0 h' k6) ?_
    refine Mt.e1 8 ?_
    apply Wl.lit (cs := x.cells)
    ·exact rfl
    ·(repeat (first | exact Parts.nil | apply Parts.cons rfl))
    ·exact rfl
    ·exact rfl
    ·exact CatP.agg (by rw [hxo.len];rfl) .nil (lappE _)
    intro c8 hc8 ho8
    apply Wl.nil
    refine Mt.backE (fun _ h' => hM.hp0 hM0 h' k6) ?_
    refine Mt.e1 9 ?_
    apply Wl.appendT (base := w.heap.size) (n := i) (m := 1) (sz := 35) (e := 44) (xs := (stas (M.L.take i)).flatten)
    ·exact rfl
    ·exact rfl
    ·exact rfl
    ·assumption
    ·exact (by rw [hxo.len];rfl)
    ·exact hS.s
    ·exact fun k hk => ⟨fun e => (hS.os k hk).1 e.symm,fun e => (hS.os k hk).2 e.symm,trivial⟩
    ·exact hxo.one
    ·exact rfl
    ·decide
    ·unfold maxLen;omega
    ·omega
    ·omega
    intro v' w5 ho5 u5 _ hoff5
    have hov := ho5.one
    have s5 := u5.size
    obtain ⟨hM,hu5⟩ := hS.grow hM0 (fun b hb => (hS.s.ge b hb).1) u5
    apply Wl.nil
    refine Mt.backE (fun _ h' => hM.hp0 hM0 h' k6) ?_
    refine Mt.pz 10 ?_
    refine Mt.e1 11 ?_
    repeat' first | (apply Wl.store;exact rfl;exact rfl;exact hov;exact kd;exact kg) | apply Wl.nil
    refine Mt.backE (fun _ h' => hM.hp0 hM0 h' k6) ?_
    refine Mt.toGt ka ?_
    apply Gt.meet (w5,v')
    ·exact ⟨hM,(by rw [stas_take hx];exact ho5),row_keep hS.i hS.s ku hS.oi u5,row_keep hS.b hS.s ku hS.ob u5,bl_keep hS hS.s ku u5,row_keep hS.l hS.s ku hS.ol u5,mem_keep hS.m hS.s ku e1 e2 u5,(fun k hk => ⟨fun e => (hoff5 k hk).1.1 e.symm,fun e => (hoff5 k hk).1.2.1 e.symm⟩),hS.oi,hS.ob,hS.ol,hu5,hS.cc⟩
    ·exact kd
    ·exact fun _ h' => h'
   ·apply Wl.callQ
    ·exact rfl
    ·exact kd
    ·intro wq hq
     exact hq.q (wStatus I.wd I.sa M.L M.t i x wq (hM.hp0 hM0 hq k6).ward hx)
    apply Wl.nil
    refine Mt.backE (fun _ h' => hM.hp0 hM0 h' k6) ?_
    refine Mt.eff2 (i := 1) (j := 8) ka kc kc ?_ ?_
    ·repeat' first | (apply Wl.loadH;exact rfl;exact rfl;exact kd;exact rfl) | apply Wl.nil
     refine Mt.backE (fun _ h' => hM.hp0 hM0 h' k6) ?_
     refine Mt.e1 8 ?_
     apply Wl.lit (cs := x.cells)
     ·exact rfl
     ·(repeat (first | exact Parts.nil | apply Parts.cons rfl))
     ·exact rfl
     ·exact rfl
     ·exact CatP.agg (by rw [hxo.len];rfl) .nil (lappE _)
     intro c8 hc8 ho8
     apply Wl.nil
     refine Mt.backE (fun _ h' => hM.hp0 hM0 h' k6) ?_
     refine Mt.e1 9 ?_
     apply Wl.appendT (base := w.heap.size) (n := i) (m := 1) (sz := 35) (e := 44) (xs := (stas (M.L.take i)).flatten)
     ·exact rfl
     ·exact rfl
     ·exact rfl
     ·assumption
     ·exact (by rw [hxo.len];rfl)
     ·exact hS.s
     ·exact fun k hk => ⟨fun e => (hS.os k hk).1 e.symm,fun e => (hS.os k hk).2 e.symm,trivial⟩
     ·exact hxo.one
     ·exact rfl
     ·decide
     ·unfold maxLen;omega
     ·omega
     ·omega
     intro v' w5 ho5 u5 _ hoff5
     have hov := ho5.one
     have s5 := u5.size
     obtain ⟨hM,hu5⟩ := hS.grow hM0 (fun b hb => (hS.s.ge b hb).1) u5
     apply Wl.nil
     refine Mt.backE (fun _ h' => hM.hp0 hM0 h' k6) ?_
     refine Mt.pz 10 ?_
     refine Mt.e1 11 ?_
     repeat' first | (apply Wl.store;exact rfl;exact rfl;exact hov;exact kd;exact kg) | apply Wl.nil
     refine Mt.backE (fun _ h' => hM.hp0 hM0 h' k6) ?_
     refine Mt.toGt ka ?_
     apply Gt.meet (w5,v')
     ·exact ⟨hM,(by rw [stas_take hx];exact ho5),row_keep hS.i hS.s ku hS.oi u5,row_keep hS.b hS.s ku hS.ob u5,bl_keep hS hS.s ku u5,row_keep hS.l hS.s ku hS.ol u5,mem_keep hS.m hS.s ku e1 e2 u5,(fun k hk => ⟨fun e => (hoff5 k hk).1.1 e.symm,fun e => (hoff5 k hk).1.2.1 e.symm⟩),hS.oi,hS.ob,hS.ol,hu5,hS.cc⟩
     ·exact kd
     ·exact fun _ h' => h'
    ·apply Wl.lit (cs := x.cells)
     ·exact rfl
     ·(repeat (first | exact Parts.nil | apply Parts.cons rfl))
     ·exact rfl
     ·exact rfl
     ·exact CatP.agg (by rw [hxo.len];rfl) .nil (lappE _)
     intro c8 hc8 ho8
     apply Wl.nil
     refine Mt.backE (fun _ h' => hM.hp0 hM0 h' k6) ?_
     refine Mt.e1 1 ?_
     repeat' first | (apply Wl.loadH;exact rfl;exact rfl;exact kd;exact rfl) | apply Wl.nil
     refine Mt.backE (fun _ h' => hM.hp0 hM0 h' k6) ?_
     refine Mt.e1 9 ?_
     apply Wl.appendT (base := w.heap.size) (n := i) (m := 1) (sz := 35) (e := 44) (xs := (stas (M.L.take i)).flatten)
     ·exact rfl
     ·exact rfl
     ·exact rfl
     ·assumption
     ·exact (by rw [hxo.len];rfl)
     ·exact hS.s
     ·exact fun k hk => ⟨fun e => (hS.os k hk).1 e.symm,fun e => (hS.os k hk).2 e.symm,trivial⟩
     ·exact hxo.one
     ·exact rfl
     ·decide
     ·unfold maxLen;omega
     ·omega
     ·omega
     intro v' w5 ho5 u5 _ hoff5
     have hov := ho5.one
     have s5 := u5.size
     obtain ⟨hM,hu5⟩ := hS.grow hM0 (fun b hb => (hS.s.ge b hb).1) u5
     apply Wl.nil
     refine Mt.backE (fun _ h' => hM.hp0 hM0 h' k6) ?_
     refine Mt.pz 10 ?_
     refine Mt.e1 11 ?_
     repeat' first | (apply Wl.store;exact rfl;exact rfl;exact hov;exact kd;exact kg) | apply Wl.nil
     refine Mt.backE (fun _ h' => hM.hp0 hM0 h' k6) ?_
     refine Mt.toGt ka ?_
     apply Gt.meet (w5,v')
     ·exact ⟨hM,(by rw [stas_take hx];exact ho5),row_keep hS.i hS.s ku hS.oi u5,row_keep hS.b hS.s ku hS.ob u5,bl_keep hS hS.s ku u5,row_keep hS.l hS.s ku hS.ol u5,mem_keep hS.m hS.s ku e1 e2 u5,(fun k hk => ⟨fun e => (hoff5 k hk).1.1 e.symm,fun e => (hoff5 k hk).1.2.1 e.symm⟩),hS.oi,hS.ob,hS.ol,hu5,hS.cc⟩
     ·exact kd
     ·exact fun _ h' => h'
  clear hS
  rintro ⟨w4,sv⟩ hS
  simp only at hS ⊢
  have l44 := hS.u.size
  apply St.cut (σ := World × Value) (fun τ => StJ w τ.1 base I M ls (i + 1) (i + 1) i sv τ.2 bv lvv vs c2 c3 cC)
   (fun τ => [(0,.pointer (some ⟨I.m,0,none⟩)),(2,.pointer (some ⟨c2,0,none⟩)),(3,.pointer (some ⟨c3,0,none⟩)),(4,.int .i64 (i : Int)),(34,.int .i64 M.L.length),(35,.int .i64 (i : Int))])
   (fun τ => Hp τ.1 [⟨c3,[.int .i64 (turnV M.t),sv,τ.2,bv,lvv,.pointer (some ⟨cC,0,none⟩)],54⟩,⟨c2,[.int .i64 0,.slice none 0 0,.slice none 0 0,.slice none 0 0,.slice none 0 0,.pointer none],54⟩])
  ·have hM := hS.mon
   refine St.tree (fun w' => MonS w' base I M) mixed (fun _ h' => ⟨Hp.drew h',hM.hp0 hM0 (Hp.drew h') k6⟩) ?_
   refine Mt.pz 0 ?_
   refine Mt.pm 2 ?_
   refine Mt.pm 9 ?_
   refine Mt.pn 3 ?_
   refine Mt.pz 4 ?_
   refine Mt.pu 5 ?_
   apply Wl.loadF;exact rfl;exact rfl;(intro w' h';first | exact cell_of h'.mm rfl | exact cell_of h'.dd rfl);apply Wl.nilB
   refine Mt.pn 6 ?_
   refine Mt.pz 7 ?_
   refine Mt.pu 8 ?_
   apply Wl.loadF;exact rfl;exact rfl;(intro w' h';first | exact cell_of h'.mm rfl | exact cell_of h'.dd rfl);apply Wl.nilB
   refine Mt.eff2 (i := 1) (j := 10) ka kc kc ?_ ?_
   ·repeat' first | (apply Wl.loadH;exact rfl;exact rfl;exact kd;exact rfl) | apply Wl.nil
    refine Mt.backE (fun _ h' => hM.hp0 hM0 h' k6) ?_
    refine Mt.e1 10 ?_
    apply Wl.callQ
    ·exact rfl
    ·exact kd
    ·intro wq hq
     exact hq.q (bInput base I.bd I.ia M.lv M.ll M.used M.ins i s wq (hM.hp0 hM0 hq k6).board hs)
    apply Wl.nil
    refine Mt.backE (fun _ h' => hM.hp0 hM0 h' k6) ?_
    refine Mt.e1 11 ?_
    repeat' first | (apply Wl.lit;exact rfl;exact kh;exact rfl;exact rfl;exact ke;intro c hc ho) | apply Wl.nil
    generalize c = c8 at *
    have hc8 : w4.heap.size ≤ c8 := by assumption
    refine Mt.backE (fun _ h' => hM.hp0 hM0 h' k6) ?_
    refine Mt.e1 12 ?_
    apply Wl.appendT (base := w.heap.size) (n := i) (m := 1) (sz := 1) (e := 9) (xs := ((M.ins.take i).map strV))
    ·exact rfl
    ·exact rfl
    ·exact rfl
    ·assumption
    ·exact rfl
    ·exact hS.i
    ·exact fun k hk => ⟨fun e => (hS.oi k hk).1 e.symm,fun e => (hS.oi k hk).2 e.symm,trivial⟩
    ·exact rfl
    ·exact rfl
    ·decide
    ·unfold maxLen;omega
    ·omega
    ·omega
    intro v' w5 ho5 u5 _ hoff5
    have hov := ho5.one
    have s5 := u5.size
    obtain ⟨hM,hu5⟩ := hS.grow hM0 (fun b hb => (hS.i.ge b hb).1) u5
    apply Wl.nil
    refine Mt.backE (fun _ h' => hM.hp0 hM0 h' k6) ?_
    refine Mt.pz 13 ?_
    refine Mt.e1 14 ?_
    repeat' first | (apply Wl.store;exact rfl;exact rfl;exact hov;exact kd;exact kg) | apply Wl.nil
    refine Mt.backE (fun _ h' => hM.hp0 hM0 h' k6) ?_
    refine Mt.toGt ka ?_
    apply Gt.meet (w5,v')
    ·exact ⟨hM,row_keep hS.s hS.i ku hS.os u5,(by rw [ins_take hs];exact ho5),row_keep hS.b hS.i ku hS.ob u5,bl_keep hS hS.i ku u5,row_keep hS.l hS.i ku hS.ol u5,mem_keep hS.m hS.i ku e1 e2 u5,hS.os,(fun k hk => ⟨fun e => (hoff5 k hk).1.1 e.symm,fun e => (hoff5 k hk).1.2.1 e.symm⟩),hS.ob,hS.ol,hu5,hS.cc⟩
    ·exact kd
    ·exact fun _ h' => h'
   ·apply Wl.callQ
    ·exact rfl
    ·exact kd
    ·intro wq hq
     exact hq.q (bInput base I.bd I.ia M.lv M.ll M.used M.ins i s wq (hM.hp0 hM0 hq k6).board hs)
    apply Wl.nil
    refine Mt.backE (fun _ h' => hM.hp0 hM0 h' k6) ?_
    refine Mt.eff2 (i := 1) (j := 11) ka kc kc ?_ ?_
    ·repeat' first | (apply Wl.loadH;exact rfl;exact rfl;exact kd;exact rfl) | apply Wl.nil
     refine Mt.backE (fun _ h' => hM.hp0 hM0 h' k6) ?_
     refine Mt.e1 11 ?_
     repeat' first | (apply Wl.lit;exact rfl;exact kh;exact rfl;exact rfl;exact ke;intro c hc ho) | apply Wl.nil
     generalize c = c8 at *
     have hc8 : w4.heap.size ≤ c8 := by assumption
     refine Mt.backE (fun _ h' => hM.hp0 hM0 h' k6) ?_
     refine Mt.e1 12 ?_
     apply Wl.appendT (base := w.heap.size) (n := i) (m := 1) (sz := 1) (e := 9) (xs := ((M.ins.take i).map strV))
     ·exact rfl
     ·exact rfl
     ·exact rfl
     ·assumption
     ·exact rfl
     ·exact hS.i
     ·exact fun k hk => ⟨fun e => (hS.oi k hk).1 e.symm,fun e => (hS.oi k hk).2 e.symm,trivial⟩
     ·exact rfl
     ·exact rfl
     ·decide
     ·unfold maxLen;omega
     ·omega
     ·omega
     intro v' w5 ho5 u5 _ hoff5
     have hov := ho5.one
     have s5 := u5.size
     obtain ⟨hM,hu5⟩ := hS.grow hM0 (fun b hb => (hS.i.ge b hb).1) u5
     apply Wl.nil
     refine Mt.backE (fun _ h' => hM.hp0 hM0 h' k6) ?_
     refine Mt.pz 13 ?_
     refine Mt.e1 14 ?_
     repeat' first | (apply Wl.store;exact rfl;exact rfl;exact hov;exact kd;exact kg) | apply Wl.nil
     refine Mt.backE (fun _ h' => hM.hp0 hM0 h' k6) ?_
     refine Mt.toGt ka ?_
     apply Gt.meet (w5,v')
     ·exact ⟨hM,row_keep hS.s hS.i ku hS.os u5,(by rw [ins_take hs];exact ho5),row_keep hS.b hS.i ku hS.ob u5,bl_keep hS hS.i ku u5,row_keep hS.l hS.i ku hS.ol u5,mem_keep hS.m hS.i ku e1 e2 u5,hS.os,(fun k hk => ⟨fun e => (hoff5 k hk).1.1 e.symm,fun e => (hoff5 k hk).1.2.1 e.symm⟩),hS.ob,hS.ol,hu5,hS.cc⟩
     ·exact kd
     ·exact fun _ h' => h'
    ·repeat' first | (apply Wl.lit;exact rfl;exact kh;exact rfl;exact rfl;exact ke;intro c hc ho) | apply Wl.nil
     generalize c = c8 at *
     have hc8 : w4.heap.size ≤ c8 := by assumption
     refine Mt.backE (fun _ h' => hM.hp0 hM0 h' k6) ?_
     refine Mt.e1 1 ?_
     repeat' first | (apply Wl.loadH;exact rfl;exact rfl;exact kd;exact rfl) | apply Wl.nil
     refine Mt.backE (fun _ h' => hM.hp0 hM0 h' k6) ?_
     refine Mt.e1 12 ?_
     apply Wl.appendT (base := w.heap.size) (n := i) (m := 1) (sz := 1) (e := 9) (xs := ((M.ins.take i).map strV))
     ·exact rfl
     ·exact rfl
     ·exact rfl
     ·assumption
     ·exact rfl
     ·exact hS.i
     ·exact fun k hk => ⟨fun e => (hS.oi k hk).1 e.symm,fun e => (hS.oi k hk).2 e.symm,trivial⟩
     ·exact rfl
     ·exact rfl
     ·decide
     ·unfold maxLen;omega
     ·omega
     ·omega
     intro v' w5 ho5 u5 _ hoff5
     have hov := ho5.one
     have s5 := u5.size
     obtain ⟨hM,hu5⟩ := hS.grow hM0 (fun b hb => (hS.i.ge b hb).1) u5
     apply Wl.nil
     refine Mt.backE (fun _ h' => hM.hp0 hM0 h' k6) ?_
     refine Mt.pz 13 ?_
     refine Mt.e1 14 ?_
     repeat' first | (apply Wl.store;exact rfl;exact rfl;exact hov;exact kd;exact kg) | apply Wl.nil
     refine Mt.backE (fun _ h' => hM.hp0 hM0 h' k6) ?_
     refine Mt.toGt ka ?_
     apply Gt.meet (w5,v')
     ·exact ⟨hM,row_keep hS.s hS.i ku hS.os u5,(by rw [ins_take hs];exact ho5),row_keep hS.b hS.i ku hS.ob u5,bl_keep hS hS.i ku u5,row_keep hS.l hS.i ku hS.ol u5,mem_keep hS.m hS.i ku e1 e2 u5,hS.os,(fun k hk => ⟨fun e => (hoff5 k hk).1.1 e.symm,fun e => (hoff5 k hk).1.2.1 e.symm⟩),hS.ob,hS.ol,hu5,hS.cc⟩
     ·exact kd
     ·exact fun _ h' => h'
  clear hS
  rintro ⟨w4,iv⟩ hS
  simp only at hS ⊢
  have l44 := hS.u.size
  have hM := hS.mon
  refine St.tree (fun w' => MonS w' base I M) mixed (fun _ h' => ⟨Hp.drew h',hM.hp0 hM0 (Hp.drew h') k6⟩) ?_
  refine Mt.pz 0 ?_
  refine Mt.pm 2 ?_
  refine Mt.pm 9 ?_
  refine Mt.pn 3 ?_
  refine Mt.pz 4 ?_
  refine Mt.pu 5 ?_
  apply Wl.loadF;exact rfl;exact rfl;(intro w' h';first | exact cell_of h'.mm rfl | exact cell_of h'.dd rfl);apply Wl.nilB
  refine Mt.pn 6 ?_
  refine Mt.pz 7 ?_
  refine Mt.pu 8 ?_
  apply Wl.loadF;exact rfl;exact rfl;(intro w' h';first | exact cell_of h'.mm rfl | exact cell_of h'.dd rfl);apply Wl.nilB
  refine Mt.eff2 (i := 1) (j := 10) ka kc kc ?_ ?_
  ·repeat' first | (apply Wl.loadH;exact rfl;exact rfl;exact kd;exact rfl) | apply Wl.nil
   refine Mt.backE (fun _ h' => hM.hp0 hM0 h' k6) ?_
   refine Mt.e1 10 ?_
   apply Wl.callC
   ·exact rfl
   ·exact kd
   intro wq hq
   have hMq := hM.hp0 hM0 hq k6
   have zq := hq.upd.size
   have hltA : ∀ x : Blk,x ∈ _ → x.b < wq.heap.size := fun x hx => hq.own.lt hx
   simp only [List.mem_cons,List.not_mem_nil,or_false,forall_eq_or_imp,forall_eq] at hltA
   refine (pAllM base I M ls i wq hMq hlt (hbx i hlt)).mono ?_
   rintro e wA ⟨lt,Sx,rfl,hvA,hMA,hcA,uA⟩
   have zA := uA.size
   have hcl : ∀ k,Sx k → k < w.heap.size := fun k hk => (hmlt k (.inr (.inr (.inr (.inr (.inr (.inr (.inr (.inr (.inr (.inr (.inl (hcA k hk).mem)))))))))))).2
   have hSA := (hS.upd hMq hq.upd fun b hb _ => .inr (offs2 hb)).upd hMA uA fun b hb _ => .inl ⟨hcA b hb,hcl b hb⟩
   have hltv : ∀ k,lt.ownBlock = some k → k ≠ c3 ∧ k ≠ c2 := fun k hk => by have h1 := hvA.ge k hk;constructor <;> omega
   have hvw := hvA.baseLe (base' := w.heap.size) kf
   have lt1 := hvw.one
   refine ⟨_,_,rfl,(Hp.restT hq uA zx),?_⟩
   clear hS hM
   have hS := hSA
   have hM := hMA
   clear hSA
   apply Wl.nil
   refine Mt.backE (fun _ h' => hM.hp0 hM0 h' k6) ?_
   refine Mt.e1 11 ?_
   apply Wl.lit (cs := [lt])
   ·exact rfl
   ·(repeat (first | exact Parts.nil | apply Parts.cons rfl))
   ·exact rfl
   ·exact rfl
   ·exact CatP.one lt1 rfl .nil
   intro c8 hc8 ho8
   apply Wl.nil
   refine Mt.backE (fun _ h' => hM.hp0 hM0 h' k6) ?_
   refine Mt.e1 12 ?_
   apply Wl.appendT (base := w.heap.size) (n := i) (m := 1) (sz := 1) (e := 76) (xs := vs)
   ·exact rfl
   ·exact rfl
   ·exact rfl
   ·assumption
   ·exact rfl
   ·exact hS.b
   ·exact fun k hk => ⟨fun e => (hS.ob k hk).1 e.symm,fun e => (hS.ob k hk).2 e.symm,trivial⟩
   ·exact qc
   ·exact rfl
   ·decide
   ·unfold maxLen;omega
   ·omega
   ·omega
   intro v' w5 ho5 u5 _ hoff5
   have hov := ho5.one
   have s5 := u5.size
   obtain ⟨hM,hu5⟩ := hS.grow hM0 (fun b hb => (hS.b.ge b hb).1) u5
   have hvw5 := row_keep hvw hS.b ku hltv u5
   apply Wl.nil
   refine Mt.backE (fun _ h' => hM.hp0 hM0 h' k6) ?_
   refine Mt.pz 13 ?_
   refine Mt.e1 14 ?_
   repeat' first | (apply Wl.store;exact rfl;exact rfl;exact hov;exact kd;exact kg) | apply Wl.nil
   refine Mt.backE (fun _ h' => hM.hp0 hM0 h' k6) ?_
   refine Mt.toGt ka ?_
   repeat' first | refine Wl.move rfl rfl ?_ | (refine Wl.addI rfl rfl rfl ?_ ?_;constructor <;> omega) | apply Wl.nil | apply St.region | apply Gt.next | apply Gt.inNormal
   apply Gt.round (i + 1,w5,sv,iv,v',vs ++ [lt])
   rotate_left
   ·simp only;omega
   ·exact kd
   ·exact fun _ h' => h'
   ·exact ⟨hlt,hM,row_keep hS.s hS.b ku hS.os u5,row_keep hS.i hS.b ku hS.oi u5,ho5,bl_add (bl_keep hS hS.b ku u5) hvw5 hltv,row_keep hS.l hS.b ku hS.ol u5,mem_keep hS.m hS.b ku e1 e2 u5,hS.os,hS.oi,(fun k hk => ⟨fun e => (hoff5 k hk).1.1 e.symm,fun e => (hoff5 k hk).1.2.1 e.symm⟩),hS.ol,hu5,hS.cc⟩
  ·apply Wl.callC
   ·exact rfl
   ·exact kd
   intro wq hq
   have hMq := hM.hp0 hM0 hq k6
   have zq := hq.upd.size
   have hltA : ∀ x : Blk,x ∈ _ → x.b < wq.heap.size := fun x hx => hq.own.lt hx
   simp only [List.mem_cons,List.not_mem_nil,or_false,forall_eq_or_imp,forall_eq] at hltA
   refine (pAllM base I M ls i wq hMq hlt (hbx i hlt)).mono ?_
   rintro e wA ⟨lt,Sx,rfl,hvA,hMA,hcA,uA⟩
   have zA := uA.size
   have hcl : ∀ k,Sx k → k < w.heap.size := fun k hk => (hmlt k (.inr (.inr (.inr (.inr (.inr (.inr (.inr (.inr (.inr (.inr (.inl (hcA k hk).mem)))))))))))).2
   have hSA := (hS.upd hMq hq.upd fun b hb _ => .inr (offs2 hb)).upd hMA uA fun b hb _ => .inl ⟨hcA b hb,hcl b hb⟩
   have hltv : ∀ k,lt.ownBlock = some k → k ≠ c3 ∧ k ≠ c2 := fun k hk => by have h1 := hvA.ge k hk;constructor <;> omega
   have hvw := hvA.baseLe (base' := w.heap.size) kf
   have lt1 := hvw.one
   refine ⟨_,_,rfl,(Hp.restT hq uA zx),?_⟩
   clear hS hM
   have hS := hSA
   have hM := hMA
   clear hSA
   apply Wl.nil
   refine Mt.backE (fun _ h' => hM.hp0 hM0 h' k6) ?_
   refine Mt.eff2 (i := 1) (j := 11) ka kc kc ?_ ?_
   ·repeat' first | (apply Wl.loadH;exact rfl;exact rfl;exact kd;exact rfl) | apply Wl.nil
    refine Mt.backE (fun _ h' => hM.hp0 hM0 h' k6) ?_
    refine Mt.e1 11 ?_
    apply Wl.lit (cs := [lt])
    ·exact rfl
    ·(repeat (first | exact Parts.nil | apply Parts.cons rfl))
    ·exact rfl
    ·exact rfl
    ·exact CatP.one lt1 rfl .nil
    intro c8 hc8 ho8
    apply Wl.nil
    refine Mt.backE (fun _ h' => hM.hp0 hM0 h' k6) ?_
    refine Mt.e1 12 ?_
    apply Wl.appendT (base := w.heap.size) (n := i) (m := 1) (sz := 1) (e := 76) (xs := vs)
    ·exact rfl
    ·exact rfl
    ·exact rfl
    ·assumption
    ·exact rfl
    ·exact hS.b
    ·exact fun k hk => ⟨fun e => (hS.ob k hk).1 e.symm,fun e => (hS.ob k hk).2 e.symm,trivial⟩
    ·exact qc
    ·exact rfl
    ·decide
    ·unfold maxLen;omega
    ·omega
    ·omega
    intro v' w5 ho5 u5 _ hoff5
    have hov := ho5.one
    have s5 := u5.size
    obtain ⟨hM,hu5⟩ := hS.grow hM0 (fun b hb => (hS.b.ge b hb).1) u5
    have hvw5 := row_keep hvw hS.b ku hltv u5
    apply Wl.nil
    refine Mt.backE (fun _ h' => hM.hp0 hM0 h' k6) ?_
    refine Mt.pz 13 ?_
    refine Mt.e1 14 ?_
    repeat' first | (apply Wl.store;exact rfl;exact rfl;exact hov;exact kd;exact kg) | apply Wl.nil
    refine Mt.backE (fun _ h' => hM.hp0 hM0 h' k6) ?_
    refine Mt.toGt ka ?_
    repeat' first | refine Wl.move rfl rfl ?_ | (refine Wl.addI rfl rfl rfl ?_ ?_;constructor <;> omega) | apply Wl.nil | apply St.region | apply Gt.next | apply Gt.inNormal
    apply Gt.round (i + 1,w5,sv,iv,v',vs ++ [lt])
    rotate_left
    ·simp only;omega
    ·exact kd
    ·exact fun _ h' => h'
    ·exact ⟨hlt,hM,row_keep hS.s hS.b ku hS.os u5,row_keep hS.i hS.b ku hS.oi u5,ho5,bl_add (bl_keep hS hS.b ku u5) hvw5 hltv,row_keep hS.l hS.b ku hS.ol u5,mem_keep hS.m hS.b ku e1 e2 u5,hS.os,hS.oi,(fun k hk => ⟨fun e => (hoff5 k hk).1.1 e.symm,fun e => (hoff5 k hk).1.2.1 e.symm⟩),hS.ol,hu5,hS.cc⟩
   ·apply Wl.lit (cs := [lt])
    ·exact rfl
    ·(repeat (first | exact Parts.nil | apply Parts.cons rfl))
    ·exact rfl
    ·exact rfl
    ·exact CatP.one lt1 rfl .nil
    intro c8 hc8 ho8
    apply Wl.nil
    refine Mt.backE (fun _ h' => hM.hp0 hM0 h' k6) ?_
    refine Mt.e1 1 ?_
    repeat' first | (apply Wl.loadH;exact rfl;exact rfl;exact kd;exact rfl) | apply Wl.nil
    refine Mt.backE (fun _ h' => hM.hp0 hM0 h' k6) ?_
    refine Mt.e1 12 ?_
    apply Wl.appendT (base := w.heap.size) (n := i) (m := 1) (sz := 1) (e := 76) (xs := vs)
    ·exact rfl
    ·exact rfl
    ·exact rfl
    ·assumption
    ·exact rfl
    ·exact hS.b
    ·exact fun k hk => ⟨fun e => (hS.ob k hk).1 e.symm,fun e => (hS.ob k hk).2 e.symm,trivial⟩
    ·exact qc
    ·exact rfl
    ·decide
    ·unfold maxLen;omega
    ·omega
    ·omega
    intro v' w5 ho5 u5 _ hoff5
    have hov := ho5.one
    have s5 := u5.size
    obtain ⟨hM,hu5⟩ := hS.grow hM0 (fun b hb => (hS.b.ge b hb).1) u5
    have hvw5 := row_keep hvw hS.b ku hltv u5
    apply Wl.nil
    refine Mt.backE (fun _ h' => hM.hp0 hM0 h' k6) ?_
    refine Mt.pz 13 ?_
    refine Mt.e1 14 ?_
    repeat' first | (apply Wl.store;exact rfl;exact rfl;exact hov;exact kd;exact kg) | apply Wl.nil
    refine Mt.backE (fun _ h' => hM.hp0 hM0 h' k6) ?_
    refine Mt.toGt ka ?_
    repeat' first | refine Wl.move rfl rfl ?_ | (refine Wl.addI rfl rfl rfl ?_ ?_;constructor <;> omega) | apply Wl.nil | apply St.region | apply Gt.next | apply Gt.inNormal
    apply Gt.round (i + 1,w5,sv,iv,v',vs ++ [lt])
    rotate_left
    ·simp only;omega
    ·exact kd
    ·exact fun _ h' => h'
    ·exact ⟨hlt,hM,row_keep hS.s hS.b ku hS.os u5,row_keep hS.i hS.b ku hS.oi u5,ho5,bl_add (bl_keep hS hS.b ku u5) hvw5 hltv,row_keep hS.l hS.b ku hS.ol u5,mem_keep hS.m hS.b ku e1 e2 u5,hS.os,hS.oi,(fun k hk => ⟨fun e => (hoff5 k hk).1.1 e.symm,fun e => (hoff5 k hk).1.2.1 e.symm⟩),hS.ol,hu5,hS.cc⟩
 ·obtain rfl : i = M.L.length := by omega
  have hd : decide ((M.L.length : Int) < (M.L.length : Int)) = false := decide_eq_false kf
  have o1 := hS.s.one
  have o2 := hS.i.one
  have o3 := hS.b.one
  have o4 := hS.l.one
  repeat' first | (apply Wl.storeA;exact rfl;exact rfl;exact rfl;(show (true && (Value.oneCell' sv && (Value.oneCell' iv && (Value.oneCell' bv && (Value.oneCell' lvv && (true && true)))))) = true;rw [o1,o2,o3,o4];rfl);exact kd;exact .z (LOver.whole rfl)) | (apply Gt.outC';exact rfl;infer_instance;exact rfl;exact kd;exact kd;intro w' hp) | refine Wl.lss rfl rfl rfl ?_ | (apply Wl.loadAH;exact rfl;exact rfl;exact kd;exact kd) | apply Wl.nil | apply St.seq | apply St.region | (apply St.condF;exact rfl;exact k5) | apply St.ret | apply St.exit | apply Gt.next | apply Gt.thenExit | apply Gt.inExit
  have hr : ∀ k,(k ≠ c3 ∧ k ≠ c2) → ¬ ¬ Off [⟨c3,[.int .i64 (turnV M.t),sv,iv,bv,lvv,.pointer (some ⟨cC,0,none⟩)],54⟩,⟨c2,[.int .i64 (turnV M.t),sv,iv,bv,lvv,.pointer (some ⟨cC,0,none⟩)],54⟩] k := fun k hk y => y ⟨fun e => hk.1 e.symm,fun e => hk.2 e.symm,trivial⟩
  have a1 := hS.s
  have a2 := hS.i
  rw [List.take_length] at a1
  rw [← hM0.len.2,List.take_length,hM0.len.2] at a2
  refine ⟨sv,iv,bv,lvv,cC,vs,rfl,⟨ownsRow_upd a1 hp.upd fun k hk => hr k (hS.os k hk),ownsRow_upd a2 hp.upd fun k hk => hr k (hS.oi k hk),ownsRow_upd hS.b hp.upd fun k hk => hr k (hS.ob k hk),⟨hS.bl.1,fun j hj => by obtain ⟨v,e1,e2,e3⟩ := hS.bl.2 j hj;exact ⟨v,e1,ownsRow_upd e2 hp.upd fun k hk => hr k (e3 k hk)⟩⟩,ownsRow_upd hS.l hp.upd fun k hk => hr k (hS.ol k hk),hp.upd.heap hS.m (hr cC ⟨fun e => e1 e.symm,fun e => e2 e.symm⟩)⟩,e5,hS.mon.hp0 hM0 hp k6,hS.u.comp hp.upd fun b _ hs => hs.elim id fun y => by rcases offs2 y with rfl | rfl <;> (right;omega)⟩
theorem pSendNo (pp pa : Nat) (cs : List Nat) (bx : Nat → List Value) (i ch : Nat) (x : Int × List UInt8) (w : World) (hP : PostS w pp pa cs bx) (hi : cs[i]? = some ch) (hx : x.2 = []) :
  Calls Tryz.prog 80 #[.pointer (some ⟨pp,0,none⟩),.int .i64 i,letV x] w fun e w' => e = .returned (.int .i64 1) ∧ Hp w [] w' := by
 have hP0 := hP
 have hs1 := strV_size x.2
 rw [hx] at hs1
 have hlts := hP.lt
 have hd0 : decide (((strOf x.2).size : Int) < 1) = true := decide_eq_true (by rw [hx];simp only [List.length_nil] at hs1;omega)
 refine enter (args := [_,_,_]) (Γ := [(0,_),(1,_),(2,_)]) Tryz.func80 Tryz.ntmps80 rfl odq (.cons rfl (.cons rfl (.cons rfl .nil))) ?_
 repeat' first | refine Wl.move rfl rfl ?_ | refine Wl.assign rfl rfl ?_ | (apply Wl.boxA;exact rfl;exact rfl;intro c hc ho) | apply Wl.nil | apply St.seq | apply St.region | apply Gt.next
 apply Wl.callQ
 exact rfl
 (focus repeat constructor)
 ·intro wq hq
  exact hq.q (pBox pp pa cs bx i ch wq (hP0.upd hq.upd (fun y => y ⟨by simp only;omega,trivial⟩) (fun y => y ⟨by simp only;omega,trivial⟩) fun z hz y => y ⟨by have := hlts.2.2 z hz;simp only;omega,trivial⟩) hi)
 repeat' first | (apply Wl.eqlC (r := false) chTy;exact rfl;exact rfl;exact rfl;exact rfl) | refine Wl.move rfl rfl ?_ | refine Wl.assign rfl rfl ?_ | (apply Wl.on;exact rfl;exact rfl;exact k5) | (apply Wl.off;exact rfl;exact rfl;exact rfl;exact ki) | (apply Wl.pickT;exact rfl;exact rfl;exact k5;exact rfl) | (apply Wl.pickF;exact rfl;exact rfl;exact k5;exact rfl) | refine Wl.fieldAddrZ rfl rfl ?_ | (apply Wl.loadH;exact rfl;exact rfl;exact kd;exact rfl) | refine Wl.lss rfl rfl rfl ?_ | refine Wl.lenS rfl rfl ?_ | apply Wl.nil | apply St.seq | apply St.region | (apply St.condT;exact rfl;exact k5) | apply St.ret | apply Gt.next | apply Gt.thenRet | (apply Gt.out1;exact rfl;exact rfl;intro w' hp)
 exact ⟨rfl,hp.drop k6⟩
theorem bFeedNo (base bd ia : Nat) (lv : Value) (ll : List (Int × List UInt8)) (used : Int) (ins : List (List UInt8)) (i : Nat) (s z : List UInt8) (w : World) (hB : BoardS w base bd ia lv ll used ins) (hi : ins[i]? = some s) (hz : 64 < s.length + z.length ∧ s.length + z.length ≤ 100000) :
  Calls Tryz.prog 78 #[.pointer (some ⟨bd,0,none⟩),.int .i64 i,strV z] w fun e w' => e = .returned (.int .i64 16) ∧ Hp w [] w' := by
 have hil := (List.getElem?_eq_some_iff.1 hi).1
 have hB0 := hB
 obtain ⟨⟨cap,J,a,b⟩,hr,r1,r2⟩ := hB
 have p0 : w.cell? ⟨bd,2,none⟩ = some (.slice (some ⟨ia,0,none⟩) ins.length cap) := cell_of a rfl
 have p1 : w.cell? ⟨ia,0 + (i : Int).toNat,none⟩ = some (strV s) := by rw [Int.toNat_natCast,Nat.zero_add];exact cell_of b (ins_at hi)
 have hne : bd ≠ ia := blk_ne a b
 have hs1 := strV_size s
 have hs2 := strV_size z
 have hd : decide (((strOf s).size : Int) + ((strOf z).size : Int) > 64) = true := decide_eq_true kf
 refine enter (args := [_,_,_]) (Γ := [(0,_),(1,_),(2,_)]) Tryz.func78 Tryz.ntmps78 rfl odq (.cons rfl (.cons rfl (.cons rfl .nil))) ?_
 repeat' first | refine Wl.move rfl rfl ?_ | refine Wl.assign rfl rfl ?_ | apply Wl.nil | apply St.seq | apply St.block | apply St.region | apply Gt.next
 apply Wl.callQ
 exact rfl
 (focus repeat constructor)
 ·intro wq hq
  exact hq.q (bHas base bd ia lv ll used ins i wq (hB0.upd hq.upd nt0 nt0 fun _ _ y => y trivial) hil)
 repeat' first | (apply Wl.loadO;exact rfl;exact rfl;exact zs;exact km) | refine Wl.move rfl rfl ?_ | refine Wl.assign rfl rfl ?_ | refine Wl.nilCheck rfl rfl ?_ | refine Wl.not rfl rfl ?_ | refine Wl.fieldAddrZ rfl rfl ?_ | refine Wl.gtr rfl rfl rfl ?_ | (refine Wl.addI rfl rfl rfl ?_ ?_;constructor <;> omega) | refine Wl.lenS rfl rfl ?_ | (refine Wl.indexAddr1 rfl rfl rfl ?_ ?_;constructor <;> omega) | apply Wl.nil | apply St.seq | apply St.region | (apply St.condT;exact rfl;exact k5) | (apply St.condF;exact rfl;exact k5) | apply St.ret | apply Gt.next | apply Gt.thenRet | apply Gt.inRet | (apply Gt.out1;exact rfl;exact rfl;intro w' hp)
 exact ⟨rfl,hp⟩
theorem wSetT (wd sa : Nat) (L : List Sta) (n : Nat) (t t' : Int) (v : Value) (cells : List Value) (w : World) (hW : WardS w wd sa L t) (hA : Sv w 35 n v cells) (hl' : n = L.length) (ht : (n : Int) ≤ t') :
  Calls Tryz.prog 79 #[.pointer (some ⟨wd,0,none⟩),v,.int .i64 t'] w fun e w' => e = .returned (.int .i64 3) ∧ Hp w [] w' := by
 obtain ⟨⟨cap0,J,a,b⟩,hl,h1,h4⟩ := hW
 obtain ⟨hlen,va,vc,rfl,hc1,hc2,hc3,hcell⟩ := id hA
 have p0 : w.cell? ⟨wd,0,none⟩ = some (.slice (some ⟨sa,0,none⟩) L.length cap0) := cell_of a rfl
 have hlw := lt_of_block a
 have d1 : decide ((n : Int) ≠ (L.length : Int)) = false := decide_eq_false kf
 have d2 : decide (t' < -1) = false := decide_eq_false kf
 have d3 : decide (t' ≥ (n : Int)) = true := decide_eq_true kf
 refine enter (args := [_,_,_]) (Γ := [(0,_),(1,_),(2,_)]) Tryz.func79 Tryz.ntmps79 rfl odq (.cons rfl (.cons rfl (.cons rfl .nil))) ?_
 repeat' first | (apply Wl.loadO;exact rfl;exact rfl;exact zs;exact km) | refine Wl.move rfl rfl ?_ | refine Wl.assign rfl rfl ?_ | (apply Wl.on;exact rfl;exact rfl;exact k5) | refine Wl.nilCheck rfl rfl ?_ | (apply Wl.pickF;exact rfl;exact rfl;exact k5;exact rfl) | refine Wl.fieldAddr0 rfl rfl ?_ | refine Wl.eqlPN rfl rfl rfl ?_ | refine Wl.neq rfl rfl rfl ?_ | refine Wl.lss rfl rfl rfl ?_ | refine Wl.geq rfl rfl rfl ?_ | refine Wl.len rfl rfl ?_ | apply Wl.nil | apply St.seq | apply St.region | (apply St.condT;exact rfl;exact k5) | apply St.ret | apply Gt.next | apply Gt.thenRet | (apply Gt.out1;exact rfl;exact rfl;intro w' hp)
 exact ⟨rfl,hp⟩
theorem wSetX (wd sa : Nat) (L L' : List Sta) (t t' g : Int) (x : Sta) (v : Value) (w : World) (hW : WardS w wd sa L t) (hA : Sv w 35 L'.length v (stas L').flatten) (hl' : L'.length = L.length) (hok : ∀ x ∈ L',StaOk x) (ht : -1 ≤ t' ∧ t' < L'.length) (hx : L'[0]? = some x) (hxs : 0 ≤ x.s ∧ x.s ≤ 2) (hg : x.xs[0]? = some (.int .u32 g)) (hg0 : g ≠ 0) :
  Calls Tryz.prog 79 #[.pointer (some ⟨wd,0,none⟩),v,.int .i64 t'] w fun e w' => e = .returned (.int .i64 3) ∧ Hp w [] w' := by
 obtain ⟨⟨cap0,J,a,b⟩,hl,h1,h4⟩ := hW
 obtain ⟨hlen,va,vc,rfl,hc1,hc2,hc3,hcell⟩ := id hA
 have hL1 : 1 ≤ L'.length := by omega
 obtain ⟨vb,vo,rfl,hcs⟩ := hcell (fun e => by rw [e] at hlen;simp at hlen;omega)
 have hat : ∀ (i : Nat) (x : Sta),L'[i]? = some x → ∀ (q : Nat) (u : Value),x.cells[q]? = some u → w.cell? ⟨vb,vo + i * 35 + q,none⟩ = some u := fun i x hx q u hq => by
  have hq35 : q < 35 := by
   have h := (List.getElem?_eq_some_iff.1 hq).1
   rw [(hok x (List.mem_of_getElem? hx)).len] at h
   exact h
  have e := flat_get (stas_len fun y hy => hok y hy) (stas_at hx) hq35
  rw [hq] at e
  obtain ⟨hj,e2⟩ := List.getElem?_eq_some_iff.1 e
  rw [Nat.add_assoc,hcs _ hj,e2]
 have hvb : vb < w.heap.size := World.block_lt_of_cell? w _ (hat 0 x hx 0 _ rfl)
 have p0 : w.cell? ⟨wd,0,none⟩ = some (.slice (some ⟨sa,0,none⟩) L.length cap0) := cell_of a rfl
 have hlw := lt_of_block a
 have d1 : decide ((L'.length : Int) ≠ (L.length : Int)) = false := decide_eq_false kf
 have d2 : decide (t' < -1) = false := decide_eq_false kf
 have d3 : decide (t' ≥ (L'.length : Int)) = false := decide_eq_false kf
 refine enter (args := [_,_,_]) (Γ := [(0,_),(1,_),(2,_)]) Tryz.func79 Tryz.ntmps79 rfl odq (.cons rfl (.cons rfl (.cons rfl .nil))) ?_
 repeat' first | (apply Wl.loadO;exact rfl;exact rfl;exact zs;exact km) | refine Wl.move rfl rfl ?_ | refine Wl.assign rfl rfl ?_ | (apply Wl.on;exact rfl;exact rfl;exact k5) | refine Wl.nilCheck rfl rfl ?_ | (apply Wl.pickF;exact rfl;exact rfl;exact k5;exact rfl) | refine Wl.fieldAddr0 rfl rfl ?_ | refine Wl.eqlPN rfl rfl rfl ?_ | refine Wl.neq rfl rfl rfl ?_ | refine Wl.lss rfl rfl rfl ?_ | refine Wl.geq rfl rfl rfl ?_ | refine Wl.len rfl rfl ?_ | apply Wl.nil | apply St.seq | apply St.block | apply St.region | (apply St.condF;exact rfl;exact k5) | apply St.skip | apply Gt.next
 refine St.loop (σ := Unit) (fun _ => True) (fun _ => [(0,.pointer (some ⟨wd,0,none⟩)),(1,.slice (some ⟨vb,vo,none⟩) L'.length vc),(2,.int .i64 t'),(7,.bool false),(32,.slice (some ⟨vb,vo,none⟩) L'.length vc),(33,.int .i64 L'.length),(34,.int .i64 ((0 : Nat) : Int))])
  (fun _ => Hp w []) (fun _ => 0) () trivial kq (fun _ h => h) ?_
 intro _ _
 have hd : decide (((0 : Nat) : Int) < (L'.length : Int)) = true := decide_eq_true kf
 have hxo := hok x (List.mem_of_getElem? hx)
 have hati := hat 0 x hx
 have e1 : decide (x.s < 0) = false := decide_eq_false kf
 have e2 : decide (x.s > 2) = false := decide_eq_false kf
 have e9 : decide (g ≠ 0) = true := decide_eq_true hg0
 have hx3 : x.cells[3 + (0 : Int).toNat * 1]? = some (.int .u32 g) := hg
 have hati' : ∀ q u,x.cells[q]? = some u → w.cell? (Addr.add ⟨vb,vo + ((0 : Nat) : Int).toNat * 35,none⟩ q) = some u := fun q u hq => by rw [addLit,Int.toNat_natCast];exact hati q u hq
 repeat' first | (apply Wl.storeA (xs := x.cells);exact rfl;exact rfl;exact hxo.len;exact hxo.one;exact kd;exact .z (LOver.whole (by rw [hxo.len];exact rfl))) | (apply Wl.loadH;exact rfl;exact rfl;exact (.head _);(first | exact hx3 | exact rfl)) | (apply Wl.loadAF (xs := x.cells);exact rfl;exact rfl;exact hxo.len;(intro wq hq q u hq';exact hq.old (hati' q u hq') zt)) | refine Wl.move rfl rfl ?_ | refine Wl.assign rfl rfl ?_ | (apply Wl.on;exact rfl;exact rfl;exact k5) | (apply Wl.off;exact rfl;exact rfl;exact rfl;exact ki) | refine Wl.offU rfl rfl rfl ?_ | (apply Wl.pickT;exact rfl;exact rfl;exact k5;exact rfl) | (apply Wl.pickF;exact rfl;exact rfl;exact k5;exact rfl) | refine Wl.fieldAddr0 rfl rfl ?_ | refine Wl.fieldAddrZ rfl rfl ?_ | refine Wl.neq rfl rfl rfl ?_ | refine Wl.lss rfl rfl rfl ?_ | refine Wl.gtr rfl rfl rfl ?_ | (apply Wl.alloc;exact rfl;intro c hc ho) | (refine Wl.indexAddr rfl rfl rfl ?_ ?_;constructor <;> omega) | (refine Wl.indexArr rfl rfl rfl ?_ ?_;constructor <;> omega) | apply Wl.nil | apply St.seq | apply St.block | apply St.region | (apply St.condT;exact rfl;exact k5) | apply St.ret | apply St.skip | apply Gt.next | apply Gt.thenRet | apply Gt.inRet | (apply Gt.out1;exact rfl;exact rfl;intro w' hp)
 all_goals exact ⟨rfl,hp.drop k6⟩
def SetOk (L : List Sta) (t : Int) : Prop := (∀ x ∈ L,StaOk x ∧ StaV x) ∧ (-1 ≤ t ∧ t < L.length) ∧ anyR L = decide (0 ≤ t) ∧ ∀ x,0 ≤ t → L[t.toNat]? = some x → x.s = 0
def usedL (ll : List (Int × List UInt8)) : Nat := (ll.map fun x => x.2.length).sum
theorem usedL_snoc (l : List (Int × List UInt8)) (x : Int × List UInt8) : usedL (l ++ [x]) = usedL l + x.2.length := by simp [usedL]
theorem usedL_take (l : List (Int × List UInt8)) (k : Nat) : usedL (l.take k) ≤ usedL l := by
 have h : usedL (l.take k ++ l.drop k) = usedL (l.take k) + usedL (l.drop k) := by simp only [usedL,List.map_append,List.sum_append]
 rw [List.take_append_drop] at h
 omega
def BoxOk (n : Nat) (l : List (Int × List UInt8)) : Prop := l.length ≤ 4 ∧ ∀ x ∈ l,x.1 < (n : Int) ∧ x.2 ≠ []
theorem take_snoc {α : Type} {l : List α} {k : Nat} {x : α} (h : l[k]? = some x) : l.take (k + 1) = l.take k ++ [x] := by
 rw [List.take_add_one,h];rfl
end Go.Proofs.YtabbklpalbikdaaGreatDoor
end
