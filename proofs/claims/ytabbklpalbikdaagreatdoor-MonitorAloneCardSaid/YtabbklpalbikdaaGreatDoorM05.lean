/-
 7 texts,one behind the other;each says what it proves. Conditions: as each text says.
-/
import Derived.Test.YtabbklpalbikdaaGreatDoorM04
import Derived.Test.YtabbklpalbikdaaGreatDoorM03
import Derived.Laws.IdiomCopy
set_option linter.unusedVariables false
set_option linter.unusedSimpArgs false
section
namespace Go.Proofs.YtabbklpalbikdaaGreatDoor
open Go.RowKit Go.Pt
theorem MonS.hp0 {w w0 w' : World} {base : Nat} {I : Mi} {M : Mv2} {H : List Blk} (k : MonS w base I M) (k0 : MonS w0 base I M) (hp : Hp w H w') (hH : ∀ x ∈ H,w0.heap.size ≤ x.b) : MonS w' base I M :=
 k.upd hp.upd fun b hb hs => hs (Off.of fun x hx e => by have := hH x hx;have := (k0.lt b hb).2;omega)
theorem row_ne {w : World} {b b' e e' sz sz' n n' : Nat} {v v' : Value} {xs xs' : List Value} (h1 : w.ownsRow b e sz v n xs) (h2 : w.ownsRow b' e' sz' v' n' xs') (he : e ≠ e') : ∀ k,v.ownBlock = some k → v'.ownBlock = some k → False := by
 intro k hk hk'
 rcases h1.2 with ⟨rfl,_⟩ | ⟨g,cap,cur,rfl,_,hg,_⟩
 ·cases hk
 ·rcases h2.2 with ⟨rfl,_⟩ | ⟨g',cap',cur',rfl,_,hg',_⟩
  ·cases hk'
  ·cases hk
   cases hk'
   rw [hg] at hg'
   cases hg'
   exact he rfl
theorem row_neB {w : World} {b e sz n c t : Nat} {v : Value} {xs : List Value} {cs : Array Value} (h1 : w.ownsRow b e sz v n xs) (h2 : w.heap[c]? = some (.cells cs t (0,0))) (he : e ≠ t) : ∀ k,v.ownBlock = some k → k ≠ c := by
 intro k hk hc
 subst hc
 rcases h1.2 with ⟨rfl,_⟩ | ⟨g,cap,cur,rfl,_,hg,_⟩
 ·cases hk
 ·cases hk
  rw [hg] at h2
  cases h2
  exact he rfl
theorem pAll0 (pp pa : Nat) (cs : List Nat) (bx : Nat → List Value) (i : Nat) (w : World) (hP : PostS w pp pa cs bx) (hi : i < cs.length) (h0 : bx i = []) :
  Calls Tryz.prog 75 #[.pointer (some ⟨pp,0,none⟩),.int .i64 i] w fun e w' => e = .returned (.slice none 0 0) ∧ Hp w [] w' := by
 obtain ⟨c,hc⟩ : ∃ c,cs[i]? = some c := ⟨_,List.getElem?_eq_getElem hi⟩
 have hch := hP.2.1 i c hc
 rw [h0] at hch
 have hd : decide ((0 : Int) < (([] : List Value).length : Int)) = false := by decide
 refine enter (args := [_,_]) (Γ := [(0,_),(1,_)]) Tryz.func75 Tryz.ntmps75 rfl (of_decide_eq_true rfl) (.cons rfl (.cons rfl .nil)) ?_
 repeat' first | refine Wl.move rfl rfl ?_ | refine Wl.assign rfl rfl ?_ | apply Wl.nil | apply St.seq | apply St.region | apply Gt.next
 apply Wl.callQ
 exact rfl
 (focus repeat constructor)
 ·intro wq hq
  exact hq.q (pBox pp pa cs bx i c wq (hP.upd hq.upd (fun y => y trivial) (fun y => y trivial) fun _ _ y => y trivial) hc)
 repeat' first | (apply Wl.lenChan (b := c) (cap := 4) (l := []) chTy;exact rfl;exact rfl;(intro w' h';exact hch.upd h'.upd fun y => y trivial)) | refine Wl.move rfl rfl ?_ | refine Wl.assign rfl rfl ?_ | apply Wl.nil | apply St.seq | apply St.block | apply St.region | apply Gt.next
 refine St.loop (σ := Unit) (fun _ => True) (fun _ => [(6,.slice none 0 0),(12,.int .i64 0),(13,.int .i64 0)]) (fun _ => Hp w []) (fun _ => 0) () trivial kv (fun _ h => h) ?_
 intro _ _
 have hd2 : decide ((0 : Int) < 0) = false := by decide
 repeat' first | refine Wl.move rfl rfl ?_ | refine Wl.assign rfl rfl ?_ | refine Wl.lss rfl rfl rfl ?_ | apply Wl.nil | apply St.seq | apply St.region | (apply St.condF;exact rfl;exact ka) | apply St.ret | apply St.exit | apply Gt.next | apply Gt.thenExit | apply Gt.inExit | (apply Gt.out1;exact rfl;exact rfl;intro w' hp)
 exact ⟨rfl,hp⟩
def turnV (t : Int) : Int := if t < 0 then -1 else t
structure StS (w : World) (base : Nat) (M : Mv2) (sv iv bv lv : Value) (cM : Nat) : Prop where
 s : w.ownsRow base 44 35 sv M.L.length (stas M.L).flatten
 i : w.ownsRow base 9 1 iv M.L.length (M.ins.map strV)
 b : w.ownsRow base 76 1 bv M.L.length (List.replicate M.L.length (.slice none 0 0))
 l : w.ownsRow base 111 2 lv M.ll.length (M.ll.map lineC).flatten
 m : memH w cM M.f
theorem _root_.Go.World.ownsRow.baseLe {w : World} {base base' e sz n : Nat} {v : Value} {xs : List Value} (h : w.ownsRow base e sz v n xs) (hb : base' ≤ base) : w.ownsRow base' e sz v n xs := by
 refine ⟨h.1,?_⟩
 rcases h.2 with h | ⟨g,cap,cur,rfl,hg,r⟩
 ·exact .inl h
 ·exact .inr ⟨g,cap,cur,rfl,by omega,r⟩
theorem lappE (xs : List Value) : LApp xs [] xs := by
 induction xs with
 | nil => exact .nil
 | cons x xs ih => exact .cons ih
structure StI (w wc : World) (base : Nat) (I : Mi) (M : Mv2) (i1 i2 i3 : Nat) (sv iv bv lv : Value) (c2 c3 cC : Nat) : Prop where
 mon : MonS wc base I M
 s : wc.ownsRow w.heap.size 44 35 sv i1 (stas (M.L.take i1)).flatten
 i : wc.ownsRow w.heap.size 9 1 iv i2 ((M.ins.take i2).map strV)
 b : wc.ownsRow w.heap.size 76 1 bv i3 (List.replicate i3 (.slice none 0 0))
 l : wc.ownsRow w.heap.size 111 2 lv M.ll.length (M.ll.map lineC).flatten
 m : memH wc cC M.f
 os : ∀ k,sv.ownBlock = some k → k ≠ c3 ∧ k ≠ c2
 oi : ∀ k,iv.ownBlock = some k → k ≠ c3 ∧ k ≠ c2
 ob : ∀ k,bv.ownBlock = some k → k ≠ c3 ∧ k ≠ c2
 ol : ∀ k,lv.ownBlock = some k → k ≠ c3 ∧ k ≠ c2
 u : Upd (fun k => w.heap.size ≤ k) w wc
 cc : c3 ≠ cC ∧ c2 ≠ cC ∧ w.heap.size ≤ c2 ∧ w.heap.size ≤ c3 ∧ w.heap.size ≤ cC ∧ c3 ≠ c2
theorem stas_take {L : List Sta} {i : Nat} {x : Sta} (h : L[i]? = some x) : (stas (L.take (i + 1))).flatten = (stas (L.take i)).flatten ++ x.cells := by
 rw [List.take_add_one,h]
 simp [stas]
theorem ins_take {L : List (List UInt8)} {i : Nat} {x : List UInt8} (h : L[i]? = some x) : (L.take (i + 1)).map strV = (L.take i).map strV ++ [strV x] := by
 rw [List.take_add_one,h]
 simp
section
variable {w wc w1 : World} {base : Nat} {I : Mi} {M : Mv2} {i1 i2 i3 : Nat} {sv iv bv lv v : Value} {c2 c3 cC : Nat} {t2 t3 : Nat} {xs2 xs3 : List Value}
theorem offs2 {k : Nat} (h : ¬ Off [⟨c3,xs3,t3⟩,⟨c2,xs2,t2⟩] k) : k = c3 ∨ k = c2 := Classical.byContradiction fun hn => h ⟨fun e => hn (.inl e.symm),fun e => hn (.inr e.symm),trivial⟩
theorem StI.grow (k : StI w wc base I M i1 i2 i3 sv iv bv lv c2 c3 cC) (h0 : MonS w base I M) {x : Value} (hx : ∀ b,x.ownBlock = some b → w.heap.size ≤ b) (u1 : Upd (fun k => x.ownBlock = some k ∨ ¬ Off [⟨c3,xs3,t3⟩,⟨c2,xs2,t2⟩] k) wc w1) : MonS w1 base I M ∧ Upd (fun k => w.heap.size ≤ k) w w1 := by
 have hc := k.cc
 have key : ∀ b,x.ownBlock = some b ∨ ¬ Off [⟨c3,xs3,t3⟩,⟨c2,xs2,t2⟩] b → w.heap.size ≤ b := fun b hb => by
  rcases hb with y | y
  ·exact hx b y
  ·rcases offs2 y with rfl | rfl <;> omega
 exact ⟨k.mon.upd u1 fun b hb hs => by have := key b hs;have := (h0.lt b hb).2;omega,k.u.comp u1 fun b _ hs => hs.elim id (key b)⟩
theorem row_keep {x y : Value} {e e' sz n m sz' : Nat} {xs ys : List Value} (hr : wc.ownsRow w.heap.size e sz y n xs) (hx : wc.ownsRow w.heap.size e' sz' x m ys) (he : e ≠ e') (ho : ∀ k,y.ownBlock = some k → k ≠ c3 ∧ k ≠ c2) (u1 : Upd (fun k => x.ownBlock = some k ∨ ¬ Off [⟨c3,xs3,t3⟩,⟨c2,xs2,t2⟩] k) wc w1) : w1.ownsRow w.heap.size e sz y n xs :=
 ownsRow_upd hr u1 fun k hk hs => by
  rcases hs with z | z
  ·exact row_ne hr hx he k hk z
  ·rcases offs2 z with rfl | rfl
   ·exact (ho _ hk).1 rfl
   ·exact (ho _ hk).2 rfl
theorem mem_keep {x : Value} {e' sz' m : Nat} {ys : List Value} {f : Nat → Int} (hm : memH wc cC f) (hx : wc.ownsRow w.heap.size e' sz' x m ys) (he : e' ≠ 156) (h3 : c3 ≠ cC) (h2 : c2 ≠ cC) (u1 : Upd (fun k => x.ownBlock = some k ∨ ¬ Off [⟨c3,xs3,t3⟩,⟨c2,xs2,t2⟩] k) wc w1) : memH w1 cC f :=
 u1.heap hm fun hs => by
  rcases hs with z | z
  ·exact row_neB hx hm he _ z rfl
  ·rcases offs2 z with e | e
   ·exact h3 e.symm
   ·exact h2 e.symm
end
set_option maxHeartbeats 32000000 in
theorem mState0 (base : Nat) (I : Mi) (M : Mv2) (w : World) (hM : MonS w base I M) (hb : base ≤ w.heap.size) (hbx : ∀ i,M.bx i = []) (hll : M.ll.length ≤ 1000) :
  Calls Tryz.prog 20 #[.pointer (some ⟨I.m,0,none⟩)] w fun e w' => ∃ sv iv bv lv cM',e = .returned (.agg #[.int .i64 (turnV M.t),sv,iv,bv,lv,.pointer (some ⟨cM',0,none⟩)]) ∧ StS w' w.heap.size M sv iv bv lv cM' ∧ w.heap.size ≤ cM' ∧ Upd (fun k => w.heap.size ≤ k) w w' := by
 have hM0 := hM
 have hw : Upd (fun k => w.heap.size ≤ k) w w := Upd.refl _ _
 have hn1 := hM.ward.2.2
 have hTn := fun wq (k : MonS wq base I M) => wTurn I.wd I.sa M.L M.t wq k.ward
 change ∀ wq,MonS wq base I M → Calls Tryz.prog 58 #[.pointer (some ⟨I.wd,0,none⟩)] wq (fun e w' => e = .returned (.int .i64 (turnV M.t)) ∧ Hp wq [] w') at hTn
 refine enter (args := [_]) (Γ := [(0,_)]) Tryz.func20 Tryz.ntmps20 rfl (of_decide_eq_true rfl) (.cons rfl .nil) ?_
 repeat' first | refine Wl.move rfl rfl ?_ | refine Wl.eqlPN rfl rfl rfl ?_ | (apply Wl.alloc;exact rfl;intro c hc ho) | apply Wl.nil | apply St.region | (apply St.condF;exact rfl;exact ka) | apply St.skip | apply Gt.next | (apply St.seqK (k := 3);exact rfl) | (apply St.seqKS (k := 3);exact rfl)
 generalize c = c2 at *
 have hc2 : w.heap.size ≤ c2 := by assumption
 apply St.cut (σ := World × Nat × Value × Nat) (fun τ => MonS τ.1 base I M ∧ w.heap.size ≤ τ.2.1 ∧ τ.2.1 ≠ c2 ∧ τ.1.ownsRow w.heap.size 111 2 τ.2.2.1 M.ll.length (M.ll.map lineC).flatten ∧ memH τ.1 τ.2.2.2 M.f ∧ w.heap.size ≤ τ.2.2.2 ∧ Upd (fun k => w.heap.size ≤ k) w τ.1 ∧ τ.2.1 ≠ τ.2.2.2 ∧ c2 ≠ τ.2.2.2 ∧ (∀ k,τ.2.2.1.ownBlock = some k → k ≠ τ.2.1 ∧ k ≠ c2))
  (fun τ => [(0,.pointer (some ⟨I.m,0,none⟩)),(2,.pointer (some ⟨c2,0,none⟩)),(3,.pointer (some ⟨τ.2.1,0,none⟩))])
  (fun τ => Hp τ.1 [⟨τ.2.1,[.int .i64 (turnV M.t),.slice none 0 0,.slice none 0 0,.slice none 0 0,τ.2.2.1,.pointer (some ⟨τ.2.2.2,0,none⟩)],54⟩,⟨c2,[.int .i64 0,.slice none 0 0,.slice none 0 0,.slice none 0 0,.slice none 0 0,.pointer none],54⟩])
 ·skip
  refine St.tree (fun w' => MonS w' base I M) mixed (fun _ h' => ⟨Hp.drew h',hM.hp0 hM0 (Hp.drew h') kb⟩) ?_
  refine Mt.pm 0 ?_
  refine Mt.pm 5 ?_
  refine Mt.pm 13 ?_
  refine Mt.pn 1 ?_
  refine Mt.pn 6 ?_
  refine Mt.pn 14 ?_
  refine Mt.pz 2 ?_
  refine Mt.pz 7 ?_
  refine Mt.pz 15 ?_
  refine Mt.pu 3 ?_
  repeat' first | (apply Wl.loadF;exact rfl;exact rfl;(intro w' h';first | exact cell_of h'.mm rfl | exact cell_of h'.dd rfl)) | apply Wl.nilB
  refine Mt.pu 8 ?_
  repeat' first | (apply Wl.loadF;exact rfl;exact rfl;(intro w' h';first | exact cell_of h'.mm rfl | exact cell_of h'.dd rfl)) | apply Wl.nilB
  refine Mt.pu 16 ?_
  repeat' first | (apply Wl.loadF;exact rfl;exact rfl;(intro w' h';first | exact cell_of h'.mm rfl | exact cell_of h'.dd rfl)) | apply Wl.nilB
  refine Mt.pn 9 ?_
  refine Mt.pn 17 ?_
  refine Mt.pz 10 ?_
  refine Mt.pz 18 ?_
  refine Mt.pu 11 ?_
  repeat' first | (apply Wl.loadF;exact rfl;exact rfl;(intro w' h';first | exact cell_of h'.mm rfl | exact cell_of h'.dd rfl)) | apply Wl.nilB
  refine Mt.pu 19 ?_
  repeat' first | (apply Wl.loadF;exact rfl;exact rfl;(intro w' h';first | exact cell_of h'.mm rfl | exact cell_of h'.dd rfl)) | apply Wl.nilB
  refine Mt.eff2 (i := 4) (j := 22) kg zd zd ?_ ?_
  ·apply Wl.callQ
   ·exact rfl
   ·repeat constructor
   ·intro wq hq
    exact hq.q (hTn wq (hM.hp0 hM0 hq kb))
   repeat' first | apply Wl.nil
   refine Mt.backE (fun _ h' => hM.hp0 hM0 h' kb) ?_
   refine Mt.eff2 (i := 12) (j := 22) kg zd zd ?_ ?_
   ·apply Wl.callC
    ·exact rfl
    ·repeat constructor
    intro wq hq
    have hMq := hM.hp0 hM0 hq kb
    have zq := hq.upd.size
    have hltL : ∀ x : Blk,x ∈ _ → x.b < wq.heap.size := fun x hx => hq.own.lt hx
    simp only [List.mem_cons,List.not_mem_nil,or_false,forall_eq_or_imp,forall_eq] at hltL
    refine (bLines base I.bd I.ia M.lv M.ll M.used M.ins wq hMq.board ky hll).mono ?_
    rintro e wL ⟨lvv,rfl,hLv,uL⟩
    have hqL := hq.newer uL
    have zL := uL.size
    have hwL : Upd (fun k => w.heap.size ≤ k) w wL := hqL.on hw kb
    have hM := hMq.new uL (Nat.le_refl _)
    have lvge := hLv.ge
    have hlv1 := hLv.one
    refine ⟨_,_,rfl,hqL.rb,?_⟩
    clear hMq
    repeat' first | apply Wl.nil
    refine Mt.backE (fun _ h' => hM.hp0 hM0 h' kb) ?_
    refine Mt.eff2 (i := 20) (j := 22) kg zd zd ?_ ?_
    ·apply Wl.callC
     ·exact rfl
     ·repeat constructor
     intro wq2 hq2
     have hMq := hM.hp0 hM0 hq2 kb
     have zq2 := hq2.upd.size
     have hltC : ∀ x : Blk,x ∈ _ → x.b < wq2.heap.size := fun x hx => hq2.own.lt hx
     simp only [List.mem_cons,List.not_mem_nil,or_false,forall_eq_or_imp,forall_eq] at hltC
     refine (mcopy I.cM M.f wq2 hMq.mem).mono ?_
     rintro e wC ⟨cC,rfl,hcC,hmC,uC⟩
     have hqC := hq2.newer uC
     have zC := uC.size
     have hwC : Upd (fun k => w.heap.size ≤ k) w wC := hqC.on hwL kb
     have hM := hMq.new uC (Nat.le_refl _)
     have hLvC := ownsRow_upd (ownsRow_upd hLv hq2.upd fun k hk y => y (Off.of qn)) uC fun k hk => by have h1 := lvge k hk;omega
     have lmC := lt_of_block hmC
     refine ⟨_,_,rfl,hqC.rb,?_⟩
     clear hMq
     repeat' first | apply Wl.nil
     refine Mt.backE (fun _ h' => hM.hp0 hM0 h' kb) ?_
     refine Mt.pu 21 ?_
     repeat' first | (apply Wl.buildS;exact rfl;exact ki;exact qa) | apply Wl.nilB
     refine Mt.eff1 (i := 22) kg zd ?_
     apply Wl.alloc
     ·exact rfl
     intro c3 hc3 ho3
     repeat' first | apply Wl.nil
     refine Mt.backE (fun _ h' => hM.hp0 hM0 h' kb) ?_
     refine Mt.eff1 (i := 23) kg zd ?_
     apply Wl.storeA
     ·exact rfl
     ·exact rfl
     ·exact rfl
     ·show (true && (true && (true && (true && (Value.oneCell' lvv && (true && true)))))) = true;rw [hlv1];rfl
     ·repeat constructor
     ·exact .z (LOver.whole rfl)
     repeat' first | apply Wl.nil
     refine Mt.backE (fun _ h' => hM.hp0 hM0 h' kb) ?_
     refine Mt.toGt kg ?_
     apply Gt.meet (wC,c3,lvv,cC)
     ·exact ⟨hM,by simp only;omega,fun e => ho3.1 e.symm,hLvC.baseLe ky,hmC,by simp only;omega,hwC,by simp only;omega,by simp only;omega,fun k hk => by have h1 := lvge k hk;simp only;omega⟩
     ·repeat constructor
     ·exact fun _ h' => h'
    ·apply Wl.alloc
     ·exact rfl
     intro c3 hc3 ho3
     repeat' first | apply Wl.nil
     refine Mt.backE (fun _ h' => hM.hp0 hM0 h' kb) ?_
     refine Mt.eff1 (i := 20) kg zd ?_
     apply Wl.callC
     ·exact rfl
     ·repeat constructor
     intro wq2 hq2
     have hMq := hM.hp0 hM0 hq2 kb
     have zq2 := hq2.upd.size
     have hltC : ∀ x : Blk,x ∈ _ → x.b < wq2.heap.size := fun x hx => hq2.own.lt hx
     simp only [List.mem_cons,List.not_mem_nil,or_false,forall_eq_or_imp,forall_eq] at hltC
     refine (mcopy I.cM M.f wq2 hMq.mem).mono ?_
     rintro e wC ⟨cC,rfl,hcC,hmC,uC⟩
     have hqC := hq2.newer uC
     have zC := uC.size
     have hwC : Upd (fun k => w.heap.size ≤ k) w wC := hqC.on hwL kb
     have hM := hMq.new uC (Nat.le_refl _)
     have hLvC := ownsRow_upd (ownsRow_upd hLv hq2.upd fun k hk y => y (Off.of qn)) uC fun k hk => by have h1 := lvge k hk;omega
     have lmC := lt_of_block hmC
     refine ⟨_,_,rfl,hqC.rb,?_⟩
     clear hMq
     repeat' first | apply Wl.nil
     refine Mt.backE (fun _ h' => hM.hp0 hM0 h' kb) ?_
     refine Mt.pu 21 ?_
     repeat' first | (apply Wl.buildS;exact rfl;exact ki;exact qa) | apply Wl.nilB
     refine Mt.eff1 (i := 23) kg zd ?_
     apply Wl.storeA
     ·exact rfl
     ·exact rfl
     ·exact rfl
     ·show (true && (true && (true && (true && (Value.oneCell' lvv && (true && true)))))) = true;rw [hlv1];rfl
     ·repeat constructor
     ·exact .z (LOver.whole rfl)
     repeat' first | apply Wl.nil
     refine Mt.backE (fun _ h' => hM.hp0 hM0 h' kb) ?_
     refine Mt.toGt kg ?_
     apply Gt.meet (wC,c3,lvv,cC)
     ·exact ⟨hM,by simp only;omega,fun e => ho3.1 e.symm,hLvC.baseLe ky,hmC,by simp only;omega,hwC,by simp only;omega,by simp only;omega,fun k hk => by have h1 := lvge k hk;simp only;omega⟩
     ·repeat constructor
     ·exact fun _ h' => h'
   ·apply Wl.alloc
    ·exact rfl
    intro c3 hc3 ho3
    repeat' first | apply Wl.nil
    refine Mt.backE (fun _ h' => hM.hp0 hM0 h' kb) ?_
    refine Mt.eff1 (i := 12) kg zd ?_
    apply Wl.callC
    ·exact rfl
    ·repeat constructor
    intro wq hq
    have hMq := hM.hp0 hM0 hq kb
    have zq := hq.upd.size
    have hltL : ∀ x : Blk,x ∈ _ → x.b < wq.heap.size := fun x hx => hq.own.lt hx
    simp only [List.mem_cons,List.not_mem_nil,or_false,forall_eq_or_imp,forall_eq] at hltL
    refine (bLines base I.bd I.ia M.lv M.ll M.used M.ins wq hMq.board ky hll).mono ?_
    rintro e wL ⟨lvv,rfl,hLv,uL⟩
    have hqL := hq.newer uL
    have zL := uL.size
    have hwL : Upd (fun k => w.heap.size ≤ k) w wL := hqL.on hw kb
    have hM := hMq.new uL (Nat.le_refl _)
    have lvge := hLv.ge
    have hlv1 := hLv.one
    refine ⟨_,_,rfl,hqL.rb,?_⟩
    clear hMq
    repeat' first | apply Wl.nil
    refine Mt.backE (fun _ h' => hM.hp0 hM0 h' kb) ?_
    refine Mt.eff1 (i := 20) kg zd ?_
    apply Wl.callC
    ·exact rfl
    ·repeat constructor
    intro wq2 hq2
    have hMq := hM.hp0 hM0 hq2 kb
    have zq2 := hq2.upd.size
    have hltC : ∀ x : Blk,x ∈ _ → x.b < wq2.heap.size := fun x hx => hq2.own.lt hx
    simp only [List.mem_cons,List.not_mem_nil,or_false,forall_eq_or_imp,forall_eq] at hltC
    refine (mcopy I.cM M.f wq2 hMq.mem).mono ?_
    rintro e wC ⟨cC,rfl,hcC,hmC,uC⟩
    have hqC := hq2.newer uC
    have zC := uC.size
    have hwC : Upd (fun k => w.heap.size ≤ k) w wC := hqC.on hwL kb
    have hM := hMq.new uC (Nat.le_refl _)
    have hLvC := ownsRow_upd (ownsRow_upd hLv hq2.upd fun k hk y => y (Off.of qn)) uC fun k hk => by have h1 := lvge k hk;omega
    have lmC := lt_of_block hmC
    refine ⟨_,_,rfl,hqC.rb,?_⟩
    clear hMq
    repeat' first | apply Wl.nil
    refine Mt.backE (fun _ h' => hM.hp0 hM0 h' kb) ?_
    refine Mt.pu 21 ?_
    repeat' first | (apply Wl.buildS;exact rfl;exact ki;exact qa) | apply Wl.nilB
    refine Mt.eff1 (i := 23) kg zd ?_
    apply Wl.storeA
    ·exact rfl
    ·exact rfl
    ·exact rfl
    ·show (true && (true && (true && (true && (Value.oneCell' lvv && (true && true)))))) = true;rw [hlv1];rfl
    ·repeat constructor
    ·exact .z (LOver.whole rfl)
    repeat' first | apply Wl.nil
    refine Mt.backE (fun _ h' => hM.hp0 hM0 h' kb) ?_
    refine Mt.toGt kg ?_
    apply Gt.meet (wC,c3,lvv,cC)
    ·exact ⟨hM,by simp only;omega,fun e => ho3.1 e.symm,hLvC.baseLe ky,hmC,by simp only;omega,hwC,by simp only;omega,by simp only;omega,fun k hk => by have h1 := lvge k hk;simp only;omega⟩
    ·repeat constructor
    ·exact fun _ h' => h'
  ·apply Wl.alloc
   ·exact rfl
   intro c3 hc3 ho3
   repeat' first | apply Wl.nil
   refine Mt.backE (fun _ h' => hM.hp0 hM0 h' kb) ?_
   refine Mt.eff1 (i := 4) kg zd ?_
   apply Wl.callQ
   ·exact rfl
   ·repeat constructor
   ·intro wq hq
    exact hq.q (hTn wq (hM.hp0 hM0 hq kb))
   repeat' first | apply Wl.nil
   refine Mt.backE (fun _ h' => hM.hp0 hM0 h' kb) ?_
   refine Mt.eff1 (i := 12) kg zd ?_
   apply Wl.callC
   ·exact rfl
   ·repeat constructor
   intro wq hq
   have hMq := hM.hp0 hM0 hq kb
   have zq := hq.upd.size
   have hltL : ∀ x : Blk,x ∈ _ → x.b < wq.heap.size := fun x hx => hq.own.lt hx
   simp only [List.mem_cons,List.not_mem_nil,or_false,forall_eq_or_imp,forall_eq] at hltL
   refine (bLines base I.bd I.ia M.lv M.ll M.used M.ins wq hMq.board ky hll).mono ?_
   rintro e wL ⟨lvv,rfl,hLv,uL⟩
   have hqL := hq.newer uL
   have zL := uL.size
   have hwL : Upd (fun k => w.heap.size ≤ k) w wL := hqL.on hw kb
   have hM := hMq.new uL (Nat.le_refl _)
   have lvge := hLv.ge
   have hlv1 := hLv.one
   refine ⟨_,_,rfl,hqL.rb,?_⟩
   clear hMq
   repeat' first | apply Wl.nil
   refine Mt.backE (fun _ h' => hM.hp0 hM0 h' kb) ?_
   refine Mt.eff1 (i := 20) kg zd ?_
   apply Wl.callC
   ·exact rfl
   ·repeat constructor
   intro wq2 hq2
   have hMq := hM.hp0 hM0 hq2 kb
   have zq2 := hq2.upd.size
   have hltC : ∀ x : Blk,x ∈ _ → x.b < wq2.heap.size := fun x hx => hq2.own.lt hx
   simp only [List.mem_cons,List.not_mem_nil,or_false,forall_eq_or_imp,forall_eq] at hltC
   refine (mcopy I.cM M.f wq2 hMq.mem).mono ?_
   rintro e wC ⟨cC,rfl,hcC,hmC,uC⟩
   have hqC := hq2.newer uC
   have zC := uC.size
   have hwC : Upd (fun k => w.heap.size ≤ k) w wC := hqC.on hwL kb
   have hM := hMq.new uC (Nat.le_refl _)
   have hLvC := ownsRow_upd (ownsRow_upd hLv hq2.upd fun k hk y => y (Off.of qn)) uC fun k hk => by have h1 := lvge k hk;omega
   have lmC := lt_of_block hmC
   refine ⟨_,_,rfl,hqC.rb,?_⟩
   clear hMq
   repeat' first | apply Wl.nil
   refine Mt.backE (fun _ h' => hM.hp0 hM0 h' kb) ?_
   refine Mt.pu 21 ?_
   repeat' first | (apply Wl.buildS;exact rfl;exact ki;exact qa) | apply Wl.nilB
   refine Mt.eff1 (i := 23) kg zd ?_
   apply Wl.storeA
   ·exact rfl
   ·exact rfl
   ·exact rfl
   ·show (true && (true && (true && (true && (Value.oneCell' lvv && (true && true)))))) = true;rw [hlv1];rfl
   ·repeat constructor
   ·exact .z (LOver.whole rfl)
   repeat' first | apply Wl.nil
   refine Mt.backE (fun _ h' => hM.hp0 hM0 h' kb) ?_
   refine Mt.toGt kg ?_
   apply Gt.meet (wC,c3,lvv,cC)
   ·exact ⟨hM,by simp only;omega,fun e => ho3.1 e.symm,hLvC.baseLe ky,hmC,by simp only;omega,hwC,by simp only;omega,by simp only;omega,fun k hk => by have h1 := lvge k hk;simp only;omega⟩
   ·repeat constructor
   ·exact fun _ h' => h'
 rintro ⟨w3,c3,lvv,cC⟩ ⟨hM3,hc3,hne,hL3,hm3,hcC,hu3,hne3,hne2,hlo⟩
 simp only at hM3 hc3 hne hL3 hm3 hcC hu3 hne3 hne2 hlo ⊢
 have hcnt := fun wq (k : MonS wq base I M) => wCount I.wd I.sa M.L M.t wq k.ward
 have q0 : w3.cell? ⟨I.m,2,none⟩ = some (.pointer (some ⟨I.wd,0,none⟩)) := cell_of hM3.mm rfl
 have hmlt := hM0.lt
 have lm1 := (hmlt I.m (.inl rfl)).2
 have l33 := hu3.size
 have lcC := lt_of_block hm3
 have loS : ∀ {b : Nat},b < w.heap.size → c3 ≠ b ∧ c2 ≠ b := fun hb => ⟨by omega,by omega⟩
 repeat' first | (apply Wl.loadO;exact rfl;exact rfl;exact zu;exact kj) | refine Wl.move rfl rfl ?_ | refine Wl.nilCheck rfl rfl ?_ | refine Wl.fieldAddrZ rfl rfl ?_ | apply St.seq | apply St.region
 apply Wl.callQ
 exact rfl
 (focus repeat constructor)
 ·intro wq hq
  exact hq.q (hcnt wq (hM3.hp0 hM0 hq kb))
 repeat' first | refine Wl.move rfl rfl ?_ | apply Wl.nil | apply St.block | apply Gt.next
 refine St.loop (σ := Nat × World × Value × Value × Value) (fun τ => τ.1 ≤ M.L.length ∧ StI w τ.2.1 base I M τ.1 τ.1 τ.1 τ.2.2.1 τ.2.2.2.1 τ.2.2.2.2 lvv c2 c3 cC)
  (fun τ => [(0,.pointer (some ⟨I.m,0,none⟩)),(2,.pointer (some ⟨c2,0,none⟩)),(3,.pointer (some ⟨c3,0,none⟩)),(34,.int .i64 M.L.length),(35,.int .i64 (τ.1 : Int))])
  (fun τ => Hp τ.2.1 [⟨c3,[.int .i64 (turnV M.t),τ.2.2.1,τ.2.2.2.1,τ.2.2.2.2,lvv,.pointer (some ⟨cC,0,none⟩)],54⟩,⟨c2,[.int .i64 0,.slice none 0 0,.slice none 0 0,.slice none 0 0,.slice none 0 0,.pointer none],54⟩]) (fun τ => M.L.length - τ.1)
  (0,w3,.slice none 0 0,.slice none 0 0,.slice none 0 0) ⟨Nat.zero_le _,hM3,World.ownsRow_nil _ _ _ _,World.ownsRow_nil _ _ _ _,World.ownsRow_nil _ _ _ _,hL3,hm3,(fun k hk => by cases hk),(fun k hk => by cases hk),(fun k hk => by cases hk),hlo,hu3,hne3,hne2,hc2,hc3,hcC,hne⟩ kv (fun _ h => h) ?_
 clear hM3 hL3 hm3 hu3 q0
 rintro ⟨i,w4,sv,iv,bv⟩ ⟨hi,hS⟩
 simp only at hi hS ⊢
 obtain ⟨e1,e2,e3,e4,e5,e6⟩ := hS.cc
 have l44 := hS.u.size
 by_cases hlt : i < M.L.length
 ·have hd : decide ((i : Int) < (M.L.length : Int)) = true := decide_eq_true ky
  obtain ⟨x,hx⟩ : ∃ x,M.L[i]? = some x := ⟨_,List.getElem?_eq_getElem hlt⟩
  obtain ⟨s,hs⟩ : ∃ s,M.ins[i]? = some s := ⟨_,List.getElem?_eq_getElem (by have := hM0.len.2;omega)⟩
  have hxo := hM0.ward.2.1 x (List.mem_of_getElem? hx)
  repeat' first | refine Wl.lss rfl rfl rfl ?_ | apply Wl.nil | apply St.region | (apply St.condT;exact rfl;exact ka) | apply St.skip | apply Gt.next | (apply St.seqK (k := 7);exact rfl) | apply St.seqC
  apply St.seq
  repeat' first | refine Wl.move rfl rfl ?_ | refine Wl.assign rfl rfl ?_ | apply Wl.nil | apply St.block | apply St.region | apply Gt.next | (apply St.seqK (k := 7);exact rfl)
  apply St.cut (σ := World × Value) (fun τ => StI w τ.1 base I M (i + 1) i i τ.2 iv bv lvv c2 c3 cC)
   (fun τ => [(0,.pointer (some ⟨I.m,0,none⟩)),(2,.pointer (some ⟨c2,0,none⟩)),(3,.pointer (some ⟨c3,0,none⟩)),(4,.int .i64 (i : Int)),(34,.int .i64 M.L.length),(35,.int .i64 (i : Int))])
   (fun τ => Hp τ.1 [⟨c3,[.int .i64 (turnV M.t),τ.2,iv,bv,lvv,.pointer (some ⟨cC,0,none⟩)],54⟩,⟨c2,[.int .i64 0,.slice none 0 0,.slice none 0 0,.slice none 0 0,.slice none 0 0,.pointer none],54⟩])
  ·have hM := hS.mon
   refine St.tree (fun w' => MonS w' base I M) mixed (fun _ h' => ⟨Hp.drew h',hM.hp0 hM0 (Hp.drew h') kb⟩) ?_
   refine Mt.pz 0 ?_
   refine Mt.pm 2 ?_
   refine Mt.pm 6 ?_
   refine Mt.pn 3 ?_
   refine Mt.pz 4 ?_
   refine Mt.pu 5 ?_
   repeat' first | (apply Wl.loadF;exact rfl;exact rfl;(intro w' h';first | exact cell_of h'.mm rfl | exact cell_of h'.dd rfl)) | apply Wl.nilB
   refine Mt.eff2 (i := 1) (j := 7) kg zd zd ?_ ?_
   ·repeat' first | (apply Wl.loadH;exact rfl;exact rfl;exact ke;exact rfl) | apply Wl.nil
    refine Mt.backE (fun _ h' => hM.hp0 hM0 h' kb) ?_
    refine Mt.eff1 (i := 7) kg zd ?_
    apply Wl.callQ
    ·exact rfl
    ·repeat constructor
    ·intro wq hq
     exact hq.q (wStatus I.wd I.sa M.L M.t i x wq (hM.hp0 hM0 hq kb).ward hx)
    repeat' first | apply Wl.nil
    refine Mt.backE (fun _ h' => hM.hp0 hM0 h' kb) ?_
    refine Mt.eff1 (i := 8) kg zd ?_
    apply Wl.lit (cs := x.cells)
    ·exact rfl
    ·(repeat (first | exact Parts.nil | apply Parts.cons rfl))
    ·exact rfl
    ·exact rfl
    ·exact CatP.agg (by rw [hxo.len];rfl) .nil (lappE _)
    intro c8 hc8 ho8
    repeat' first | apply Wl.nil
    refine Mt.backE (fun _ h' => hM.hp0 hM0 h' kb) ?_
    refine Mt.eff1 (i := 9) kg zd ?_
    apply Wl.appendT (base := w.heap.size) (n := i) (m := 1) (sz := 35) (e := 44) (xs := (stas (M.L.take i)).flatten)
    ·exact rfl
    ·exact rfl
    ·exact rfl
    ·assumption
    ·exact (by rw [hxo.len];rfl)
    ·exact hS.s
    ·exact fun k hk => ⟨fun e => (hS.os k hk).1 e.symm,fun e => (hS.os k hk).2 e.symm,trivial⟩
    ·exact hxo.one
    ·exact rfl
    ·decide
    ·unfold maxLen;omega
    ·omega
    ·omega
    intro v' w5 ho5 u5 _ hoff5
    have hov := ho5.one
    have s5 := u5.size
    obtain ⟨hM,hu5⟩ := hS.grow hM0 (fun b hb => (hS.s.ge b hb).1) u5
    repeat' first | apply Wl.nil
    refine Mt.backE (fun _ h' => hM.hp0 hM0 h' kb) ?_
    refine Mt.pz 10 ?_
    refine Mt.eff1 (i := 11) kg zd ?_
    repeat' first | (apply Wl.store;exact rfl;exact rfl;exact hov;exact ke;exact kw) | apply Wl.nil
    refine Mt.backE (fun _ h' => hM.hp0 hM0 h' kb) ?_
    refine Mt.toGt kg ?_
    apply Gt.meet (w5,v')
    ·exact ⟨hM,(by rw [stas_take hx];exact ho5),row_keep hS.i hS.s ze hS.oi u5,row_keep hS.b hS.s ze hS.ob u5,row_keep hS.l hS.s ze hS.ol u5,mem_keep hS.m hS.s ze e1 e2 u5,(fun k hk => ⟨fun e => (hoff5 k hk).1.1 e.symm,fun e => (hoff5 k hk).1.2.1 e.symm⟩),hS.oi,hS.ob,hS.ol,hu5,hS.cc⟩
    ·repeat constructor
    ·exact fun _ h' => h'
   ·apply Wl.callQ
    ·exact rfl
    ·repeat constructor
    ·intro wq hq
     exact hq.q (wStatus I.wd I.sa M.L M.t i x wq (hM.hp0 hM0 hq kb).ward hx)
    repeat' first | apply Wl.nil
    refine Mt.backE (fun _ h' => hM.hp0 hM0 h' kb) ?_
    refine Mt.eff2 (i := 1) (j := 8) kg zd zd ?_ ?_
    ·repeat' first | (apply Wl.loadH;exact rfl;exact rfl;exact ke;exact rfl) | apply Wl.nil
     refine Mt.backE (fun _ h' => hM.hp0 hM0 h' kb) ?_
     refine Mt.eff1 (i := 8) kg zd ?_
     apply Wl.lit (cs := x.cells)
     ·exact rfl
     ·(repeat (first | exact Parts.nil | apply Parts.cons rfl))
     ·exact rfl
     ·exact rfl
     ·exact CatP.agg (by rw [hxo.len];rfl) .nil (lappE _)
     intro c8 hc8 ho8
     repeat' first | apply Wl.nil
     refine Mt.backE (fun _ h' => hM.hp0 hM0 h' kb) ?_
     refine Mt.eff1 (i := 9) kg zd ?_
     apply Wl.appendT (base := w.heap.size) (n := i) (m := 1) (sz := 35) (e := 44) (xs := (stas (M.L.take i)).flatten)
     ·exact rfl
     ·exact rfl
     ·exact rfl
     ·assumption
     ·exact (by rw [hxo.len];rfl)
     ·exact hS.s
     ·exact fun k hk => ⟨fun e => (hS.os k hk).1 e.symm,fun e => (hS.os k hk).2 e.symm,trivial⟩
     ·exact hxo.one
     ·exact rfl
     ·decide
     ·unfold maxLen;omega
     ·omega
     ·omega
     intro v' w5 ho5 u5 _ hoff5
     have hov := ho5.one
     have s5 := u5.size
     obtain ⟨hM,hu5⟩ := hS.grow hM0 (fun b hb => (hS.s.ge b hb).1) u5
     repeat' first | apply Wl.nil
     refine Mt.backE (fun _ h' => hM.hp0 hM0 h' kb) ?_
     refine Mt.pz 10 ?_
     refine Mt.eff1 (i := 11) kg zd ?_
     repeat' first | (apply Wl.store;exact rfl;exact rfl;exact hov;exact ke;exact kw) | apply Wl.nil
     refine Mt.backE (fun _ h' => hM.hp0 hM0 h' kb) ?_
     refine Mt.toGt kg ?_
     apply Gt.meet (w5,v')
     ·exact ⟨hM,(by rw [stas_take hx];exact ho5),row_keep hS.i hS.s ze hS.oi u5,row_keep hS.b hS.s ze hS.ob u5,row_keep hS.l hS.s ze hS.ol u5,mem_keep hS.m hS.s ze e1 e2 u5,(fun k hk => ⟨fun e => (hoff5 k hk).1.1 e.symm,fun e => (hoff5 k hk).1.2.1 e.symm⟩),hS.oi,hS.ob,hS.ol,hu5,hS.cc⟩
     ·repeat constructor
     ·exact fun _ h' => h'
    ·apply Wl.lit (cs := x.cells)
     ·exact rfl
     ·(repeat (first | exact Parts.nil | apply Parts.cons rfl))
     ·exact rfl
     ·exact rfl
     ·exact CatP.agg (by rw [hxo.len];rfl) .nil (lappE _)
     intro c8 hc8 ho8
     repeat' first | apply Wl.nil
     refine Mt.backE (fun _ h' => hM.hp0 hM0 h' kb) ?_
     refine Mt.eff1 (i := 1) kg zd ?_
     repeat' first | (apply Wl.loadH;exact rfl;exact rfl;exact ke;exact rfl) | apply Wl.nil
     refine Mt.backE (fun _ h' => hM.hp0 hM0 h' kb) ?_
     refine Mt.eff1 (i := 9) kg zd ?_
     apply Wl.appendT (base := w.heap.size) (n := i) (m := 1) (sz := 35) (e := 44) (xs := (stas (M.L.take i)).flatten)
     ·exact rfl
     ·exact rfl
     ·exact rfl
     ·assumption
     ·exact (by rw [hxo.len];rfl)
     ·exact hS.s
     ·exact fun k hk => ⟨fun e => (hS.os k hk).1 e.symm,fun e => (hS.os k hk).2 e.symm,trivial⟩
     ·exact hxo.one
     ·exact rfl
     ·decide
     ·unfold maxLen;omega
     ·omega
     ·omega
     intro v' w5 ho5 u5 _ hoff5
     have hov := ho5.one
     have s5 := u5.size
     obtain ⟨hM,hu5⟩ := hS.grow hM0 (fun b hb => (hS.s.ge b hb).1) u5
     repeat' first | apply Wl.nil
     refine Mt.backE (fun _ h' => hM.hp0 hM0 h' kb) ?_
     refine Mt.pz 10 ?_
     refine Mt.eff1 (i := 11) kg zd ?_
     repeat' first | (apply Wl.store;exact rfl;exact rfl;exact hov;exact ke;exact kw) | apply Wl.nil
     refine Mt.backE (fun _ h' => hM.hp0 hM0 h' kb) ?_
     refine Mt.toGt kg ?_
     apply Gt.meet (w5,v')
     ·exact ⟨hM,(by rw [stas_take hx];exact ho5),row_keep hS.i hS.s ze hS.oi u5,row_keep hS.b hS.s ze hS.ob u5,row_keep hS.l hS.s ze hS.ol u5,mem_keep hS.m hS.s ze e1 e2 u5,(fun k hk => ⟨fun e => (hoff5 k hk).1.1 e.symm,fun e => (hoff5 k hk).1.2.1 e.symm⟩),hS.oi,hS.ob,hS.ol,hu5,hS.cc⟩
     ·repeat constructor
     ·exact fun _ h' => h'
  clear hS
  rintro ⟨w4,sv⟩ hS
  simp only at hS ⊢
  have l44 := hS.u.size
  apply St.cut (σ := World × Value) (fun τ => StI w τ.1 base I M (i + 1) (i + 1) i sv τ.2 bv lvv c2 c3 cC)
   (fun τ => [(0,.pointer (some ⟨I.m,0,none⟩)),(2,.pointer (some ⟨c2,0,none⟩)),(3,.pointer (some ⟨c3,0,none⟩)),(4,.int .i64 (i : Int)),(34,.int .i64 M.L.length),(35,.int .i64 (i : Int))])
   (fun τ => Hp τ.1 [⟨c3,[.int .i64 (turnV M.t),sv,τ.2,bv,lvv,.pointer (some ⟨cC,0,none⟩)],54⟩,⟨c2,[.int .i64 0,.slice none 0 0,.slice none 0 0,.slice none 0 0,.slice none 0 0,.pointer none],54⟩])
  ·have hM := hS.mon
   refine St.tree (fun w' => MonS w' base I M) mixed (fun _ h' => ⟨Hp.drew h',hM.hp0 hM0 (Hp.drew h') kb⟩) ?_
   refine Mt.pz 0 ?_
   refine Mt.pm 2 ?_
   refine Mt.pm 9 ?_
   refine Mt.pn 3 ?_
   refine Mt.pz 4 ?_
   refine Mt.pu 5 ?_
   repeat' first | (apply Wl.loadF;exact rfl;exact rfl;(intro w' h';first | exact cell_of h'.mm rfl | exact cell_of h'.dd rfl)) | apply Wl.nilB
   refine Mt.pn 6 ?_
   refine Mt.pz 7 ?_
   refine Mt.pu 8 ?_
   repeat' first | (apply Wl.loadF;exact rfl;exact rfl;(intro w' h';first | exact cell_of h'.mm rfl | exact cell_of h'.dd rfl)) | apply Wl.nilB
   refine Mt.eff2 (i := 1) (j := 10) kg zd zd ?_ ?_
   ·repeat' first | (apply Wl.loadH;exact rfl;exact rfl;exact ke;exact rfl) | apply Wl.nil
    refine Mt.backE (fun _ h' => hM.hp0 hM0 h' kb) ?_
    refine Mt.eff1 (i := 10) kg zd ?_
    apply Wl.callQ
    ·exact rfl
    ·repeat constructor
    ·intro wq hq
     exact hq.q (bInput base I.bd I.ia M.lv M.ll M.used M.ins i s wq (hM.hp0 hM0 hq kb).board hs)
    repeat' first | apply Wl.nil
    refine Mt.backE (fun _ h' => hM.hp0 hM0 h' kb) ?_
    refine Mt.eff1 (i := 11) kg zd ?_
    repeat' first | (apply Wl.lit;exact rfl;exact ki;exact rfl;exact rfl;exact kh;intro c hc ho) | apply Wl.nil
    generalize c = c8 at *
    have hc8 : w4.heap.size ≤ c8 := by assumption
    refine Mt.backE (fun _ h' => hM.hp0 hM0 h' kb) ?_
    refine Mt.eff1 (i := 12) kg zd ?_
    apply Wl.appendT (base := w.heap.size) (n := i) (m := 1) (sz := 1) (e := 9) (xs := ((M.ins.take i).map strV))
    ·exact rfl
    ·exact rfl
    ·exact rfl
    ·assumption
    ·exact rfl
    ·exact hS.i
    ·exact fun k hk => ⟨fun e => (hS.oi k hk).1 e.symm,fun e => (hS.oi k hk).2 e.symm,trivial⟩
    ·exact rfl
    ·exact rfl
    ·decide
    ·unfold maxLen;omega
    ·omega
    ·omega
    intro v' w5 ho5 u5 _ hoff5
    have hov := ho5.one
    have s5 := u5.size
    obtain ⟨hM,hu5⟩ := hS.grow hM0 (fun b hb => (hS.i.ge b hb).1) u5
    repeat' first | apply Wl.nil
    refine Mt.backE (fun _ h' => hM.hp0 hM0 h' kb) ?_
    refine Mt.pz 13 ?_
    refine Mt.eff1 (i := 14) kg zd ?_
    repeat' first | (apply Wl.store;exact rfl;exact rfl;exact hov;exact ke;exact kw) | apply Wl.nil
    refine Mt.backE (fun _ h' => hM.hp0 hM0 h' kb) ?_
    refine Mt.toGt kg ?_
    apply Gt.meet (w5,v')
    ·exact ⟨hM,row_keep hS.s hS.i ze hS.os u5,(by rw [ins_take hs];exact ho5),row_keep hS.b hS.i ze hS.ob u5,row_keep hS.l hS.i ze hS.ol u5,mem_keep hS.m hS.i ze e1 e2 u5,hS.os,(fun k hk => ⟨fun e => (hoff5 k hk).1.1 e.symm,fun e => (hoff5 k hk).1.2.1 e.symm⟩),hS.ob,hS.ol,hu5,hS.cc⟩
    ·repeat constructor
    ·exact fun _ h' => h'
   ·apply Wl.callQ
    ·exact rfl
    ·repeat constructor
    ·intro wq hq
     exact hq.q (bInput base I.bd I.ia M.lv M.ll M.used M.ins i s wq (hM.hp0 hM0 hq kb).board hs)
    repeat' first | apply Wl.nil
    refine Mt.backE (fun _ h' => hM.hp0 hM0 h' kb) ?_
    refine Mt.eff2 (i := 1) (j := 11) kg zd zd ?_ ?_
    ·repeat' first | (apply Wl.loadH;exact rfl;exact rfl;exact ke;exact rfl) | apply Wl.nil
     refine Mt.backE (fun _ h' => hM.hp0 hM0 h' kb) ?_
     refine Mt.eff1 (i := 11) kg zd ?_
     repeat' first | (apply Wl.lit;exact rfl;exact ki;exact rfl;exact rfl;exact kh;intro c hc ho) | apply Wl.nil
     generalize c = c8 at *
     have hc8 : w4.heap.size ≤ c8 := by assumption
     refine Mt.backE (fun _ h' => hM.hp0 hM0 h' kb) ?_
     refine Mt.eff1 (i := 12) kg zd ?_
     apply Wl.appendT (base := w.heap.size) (n := i) (m := 1) (sz := 1) (e := 9) (xs := ((M.ins.take i).map strV))
     ·exact rfl
     ·exact rfl
     ·exact rfl
     ·assumption
     ·exact rfl
     ·exact hS.i
     ·exact fun k hk => ⟨fun e => (hS.oi k hk).1 e.symm,fun e => (hS.oi k hk).2 e.symm,trivial⟩
     ·exact rfl
     ·exact rfl
     ·decide
     ·unfold maxLen;omega
     ·omega
     ·omega
     intro v' w5 ho5 u5 _ hoff5
     have hov := ho5.one
     have s5 := u5.size
     obtain ⟨hM,hu5⟩ := hS.grow hM0 (fun b hb => (hS.i.ge b hb).1) u5
     repeat' first | apply Wl.nil
     refine Mt.backE (fun _ h' => hM.hp0 hM0 h' kb) ?_
     refine Mt.pz 13 ?_
     refine Mt.eff1 (i := 14) kg zd ?_
     repeat' first | (apply Wl.store;exact rfl;exact rfl;exact hov;exact ke;exact kw) | apply Wl.nil
     refine Mt.backE (fun _ h' => hM.hp0 hM0 h' kb) ?_
     refine Mt.toGt kg ?_
     apply Gt.meet (w5,v')
     ·exact ⟨hM,row_keep hS.s hS.i ze hS.os u5,(by rw [ins_take hs];exact ho5),row_keep hS.b hS.i ze hS.ob u5,row_keep hS.l hS.i ze hS.ol u5,mem_keep hS.m hS.i ze e1 e2 u5,hS.os,(fun k hk => ⟨fun e => (hoff5 k hk).1.1 e.symm,fun e => (hoff5 k hk).1.2.1 e.symm⟩),hS.ob,hS.ol,hu5,hS.cc⟩
     ·repeat constructor
     ·exact fun _ h' => h'
    ·repeat' first | (apply Wl.lit;exact rfl;exact ki;exact rfl;exact rfl;exact kh;intro c hc ho) | apply Wl.nil
     generalize c = c8 at *
     have hc8 : w4.heap.size ≤ c8 := by assumption
     refine Mt.backE (fun _ h' => hM.hp0 hM0 h' kb) ?_
     refine Mt.eff1 (i := 1) kg zd ?_
     repeat' first | (apply Wl.loadH;exact rfl;exact rfl;exact ke;exact rfl) | apply Wl.nil
     refine Mt.backE (fun _ h' => hM.hp0 hM0 h' kb) ?_
     refine Mt.eff1 (i := 12) kg zd ?_
     apply Wl.appendT (base := w.heap.size) (n := i) (m := 1) (sz := 1) (e := 9) (xs := ((M.ins.take i).map strV))
     ·exact rfl
     ·exact rfl
     ·exact rfl
     ·assumption
     ·exact rfl
     ·exact hS.i
     ·exact fun k hk => ⟨fun e => (hS.oi k hk).1 e.symm,fun e => (hS.oi k hk).2 e.symm,trivial⟩
     ·exact rfl
     ·exact rfl
     ·decide
     ·unfold maxLen;omega
     ·omega
     ·omega
     intro v' w5 ho5 u5 _ hoff5
     have hov := ho5.one
     have s5 := u5.size
     obtain ⟨hM,hu5⟩ := hS.grow hM0 (fun b hb => (hS.i.ge b hb).1) u5
     repeat' first | apply Wl.nil
     refine Mt.backE (fun _ h' => hM.hp0 hM0 h' kb) ?_
     refine Mt.pz 13 ?_
     refine Mt.eff1 (i := 14) kg zd ?_
     repeat' first | (apply Wl.store;exact rfl;exact rfl;exact hov;exact ke;exact kw) | apply Wl.nil
     refine Mt.backE (fun _ h' => hM.hp0 hM0 h' kb) ?_
     refine Mt.toGt kg ?_
     apply Gt.meet (w5,v')
     ·exact ⟨hM,row_keep hS.s hS.i ze hS.os u5,(by rw [ins_take hs];exact ho5),row_keep hS.b hS.i ze hS.ob u5,row_keep hS.l hS.i ze hS.ol u5,mem_keep hS.m hS.i ze e1 e2 u5,hS.os,(fun k hk => ⟨fun e => (hoff5 k hk).1.1 e.symm,fun e => (hoff5 k hk).1.2.1 e.symm⟩),hS.ob,hS.ol,hu5,hS.cc⟩
     ·repeat constructor
     ·exact fun _ h' => h'
  clear hS
  rintro ⟨w4,iv⟩ hS
  simp only at hS ⊢
  have l44 := hS.u.size
  have hM := hS.mon
  refine St.tree (fun w' => MonS w' base I M) mixed (fun _ h' => ⟨Hp.drew h',hM.hp0 hM0 (Hp.drew h') kb⟩) ?_
  refine Mt.pz 0 ?_
  refine Mt.pm 2 ?_
  refine Mt.pm 9 ?_
  refine Mt.pn 3 ?_
  refine Mt.pz 4 ?_
  refine Mt.pu 5 ?_
  repeat' first | (apply Wl.loadF;exact rfl;exact rfl;(intro w' h';first | exact cell_of h'.mm rfl | exact cell_of h'.dd rfl)) | apply Wl.nilB
  refine Mt.pn 6 ?_
  refine Mt.pz 7 ?_
  refine Mt.pu 8 ?_
  repeat' first | (apply Wl.loadF;exact rfl;exact rfl;(intro w' h';first | exact cell_of h'.mm rfl | exact cell_of h'.dd rfl)) | apply Wl.nilB
  refine Mt.eff2 (i := 1) (j := 10) kg zd zd ?_ ?_
  ·repeat' first | (apply Wl.loadH;exact rfl;exact rfl;exact ke;exact rfl) | apply Wl.nil
   refine Mt.backE (fun _ h' => hM.hp0 hM0 h' kb) ?_
   refine Mt.eff1 (i := 10) kg zd ?_
   apply Wl.callQ
   ·exact rfl
   ·repeat constructor
   ·intro wq hq
    exact hq.q (pAll0 I.pp I.pa I.cs M.bx i wq (hM.hp0 hM0 hq kb).post (by rw [hM0.len.1];exact hlt) (hbx i))
   repeat' first | apply Wl.nil
   refine Mt.backE (fun _ h' => hM.hp0 hM0 h' kb) ?_
   refine Mt.eff1 (i := 11) kg zd ?_
   repeat' first | (apply Wl.lit;exact rfl;exact ki;exact rfl;exact rfl;exact kh;intro c hc ho) | apply Wl.nil
   generalize c = c8 at *
   have hc8 : w4.heap.size ≤ c8 := by assumption
   refine Mt.backE (fun _ h' => hM.hp0 hM0 h' kb) ?_
   refine Mt.eff1 (i := 12) kg zd ?_
   apply Wl.appendT (base := w.heap.size) (n := i) (m := 1) (sz := 1) (e := 76) (xs := (List.replicate i (.slice none 0 0)))
   ·exact rfl
   ·exact rfl
   ·exact rfl
   ·assumption
   ·exact rfl
   ·exact hS.b
   ·exact fun k hk => ⟨fun e => (hS.ob k hk).1 e.symm,fun e => (hS.ob k hk).2 e.symm,trivial⟩
   ·exact rfl
   ·exact rfl
   ·decide
   ·unfold maxLen;omega
   ·omega
   ·omega
   intro v' w5 ho5 u5 _ hoff5
   have hov := ho5.one
   have s5 := u5.size
   obtain ⟨hM,hu5⟩ := hS.grow hM0 (fun b hb => (hS.b.ge b hb).1) u5
   repeat' first | apply Wl.nil
   refine Mt.backE (fun _ h' => hM.hp0 hM0 h' kb) ?_
   refine Mt.pz 13 ?_
   refine Mt.eff1 (i := 14) kg zd ?_
   repeat' first | (apply Wl.store;exact rfl;exact rfl;exact hov;exact ke;exact kw) | apply Wl.nil
   refine Mt.backE (fun _ h' => hM.hp0 hM0 h' kb) ?_
   refine Mt.toGt kg ?_
   repeat' first | refine Wl.move rfl rfl ?_ | (refine Wl.addI rfl rfl rfl ?_ ?_;constructor <;> omega) | apply Wl.nil | apply St.region | apply Gt.next | apply Gt.inNormal
   apply Gt.round (i + 1,w5,sv,iv,v')
   rotate_left
   ·simp only;omega
   ·repeat constructor
   ·exact fun _ h' => h'
   ·exact ⟨hlt,hM,row_keep hS.s hS.b ze hS.os u5,row_keep hS.i hS.b ze hS.oi u5,(by rw [List.replicate_succ'];exact ho5),row_keep hS.l hS.b ze hS.ol u5,mem_keep hS.m hS.b ze e1 e2 u5,hS.os,hS.oi,(fun k hk => ⟨fun e => (hoff5 k hk).1.1 e.symm,fun e => (hoff5 k hk).1.2.1 e.symm⟩),hS.ol,hu5,hS.cc⟩
  ·apply Wl.callQ
   ·exact rfl
   ·repeat constructor
   ·intro wq hq
    exact hq.q (pAll0 I.pp I.pa I.cs M.bx i wq (hM.hp0 hM0 hq kb).post (by rw [hM0.len.1];exact hlt) (hbx i))
   repeat' first | apply Wl.nil
   refine Mt.backE (fun _ h' => hM.hp0 hM0 h' kb) ?_
   refine Mt.eff2 (i := 1) (j := 11) kg zd zd ?_ ?_
   ·repeat' first | (apply Wl.loadH;exact rfl;exact rfl;exact ke;exact rfl) | apply Wl.nil
    refine Mt.backE (fun _ h' => hM.hp0 hM0 h' kb) ?_
    refine Mt.eff1 (i := 11) kg zd ?_
    repeat' first | (apply Wl.lit;exact rfl;exact ki;exact rfl;exact rfl;exact kh;intro c hc ho) | apply Wl.nil
    generalize c = c8 at *
    have hc8 : w4.heap.size ≤ c8 := by assumption
    refine Mt.backE (fun _ h' => hM.hp0 hM0 h' kb) ?_
    refine Mt.eff1 (i := 12) kg zd ?_
    apply Wl.appendT (base := w.heap.size) (n := i) (m := 1) (sz := 1) (e := 76) (xs := (List.replicate i (.slice none 0 0)))
    ·exact rfl
    ·exact rfl
    ·exact rfl
    ·assumption
    ·exact rfl
    ·exact hS.b
    ·exact fun k hk => ⟨fun e => (hS.ob k hk).1 e.symm,fun e => (hS.ob k hk).2 e.symm,trivial⟩
    ·exact rfl
    ·exact rfl
    ·decide
    ·unfold maxLen;omega
    ·omega
    ·omega
    intro v' w5 ho5 u5 _ hoff5
    have hov := ho5.one
    have s5 := u5.size
    obtain ⟨hM,hu5⟩ := hS.grow hM0 (fun b hb => (hS.b.ge b hb).1) u5
    repeat' first | apply Wl.nil
    refine Mt.backE (fun _ h' => hM.hp0 hM0 h' kb) ?_
    refine Mt.pz 13 ?_
    refine Mt.eff1 (i := 14) kg zd ?_
    repeat' first | (apply Wl.store;exact rfl;exact rfl;exact hov;exact ke;exact kw) | apply Wl.nil
    refine Mt.backE (fun _ h' => hM.hp0 hM0 h' kb) ?_
    refine Mt.toGt kg ?_
    repeat' first | refine Wl.move rfl rfl ?_ | (refine Wl.addI rfl rfl rfl ?_ ?_;constructor <;> omega) | apply Wl.nil | apply St.region | apply Gt.next | apply Gt.inNormal
    apply Gt.round (i + 1,w5,sv,iv,v')
    rotate_left
    ·simp only;omega
    ·repeat constructor
    ·exact fun _ h' => h'
    ·exact ⟨hlt,hM,row_keep hS.s hS.b ze hS.os u5,row_keep hS.i hS.b ze hS.oi u5,(by rw [List.replicate_succ'];exact ho5),row_keep hS.l hS.b ze hS.ol u5,mem_keep hS.m hS.b ze e1 e2 u5,hS.os,hS.oi,(fun k hk => ⟨fun e => (hoff5 k hk).1.1 e.symm,fun e => (hoff5 k hk).1.2.1 e.symm⟩),hS.ol,hu5,hS.cc⟩
   ·repeat' first | (apply Wl.lit;exact rfl;exact ki;exact rfl;exact rfl;exact kh;intro c hc ho) | apply Wl.nil
    generalize c = c8 at *
    have hc8 : w4.heap.size ≤ c8 := by assumption
    refine Mt.backE (fun _ h' => hM.hp0 hM0 h' kb) ?_
    refine Mt.eff1 (i := 1) kg zd ?_
    repeat' first | (apply Wl.loadH;exact rfl;exact rfl;exact ke;exact rfl) | apply Wl.nil
    refine Mt.backE (fun _ h' => hM.hp0 hM0 h' kb) ?_
    refine Mt.eff1 (i := 12) kg zd ?_
    apply Wl.appendT (base := w.heap.size) (n := i) (m := 1) (sz := 1) (e := 76) (xs := (List.replicate i (.slice none 0 0)))
    ·exact rfl
    ·exact rfl
    ·exact rfl
    ·assumption
    ·exact rfl
    ·exact hS.b
    ·exact fun k hk => ⟨fun e => (hS.ob k hk).1 e.symm,fun e => (hS.ob k hk).2 e.symm,trivial⟩
    ·exact rfl
    ·exact rfl
    ·decide
    ·unfold maxLen;omega
    ·omega
    ·omega
    intro v' w5 ho5 u5 _ hoff5
    have hov := ho5.one
    have s5 := u5.size
    obtain ⟨hM,hu5⟩ := hS.grow hM0 (fun b hb => (hS.b.ge b hb).1) u5
    repeat' first | apply Wl.nil
    refine Mt.backE (fun _ h' => hM.hp0 hM0 h' kb) ?_
    refine Mt.pz 13 ?_
    refine Mt.eff1 (i := 14) kg zd ?_
    repeat' first | (apply Wl.store;exact rfl;exact rfl;exact hov;exact ke;exact kw) | apply Wl.nil
    refine Mt.backE (fun _ h' => hM.hp0 hM0 h' kb) ?_
    refine Mt.toGt kg ?_
    repeat' first | refine Wl.move rfl rfl ?_ | (refine Wl.addI rfl rfl rfl ?_ ?_;constructor <;> omega) | apply Wl.nil | apply St.region | apply Gt.next | apply Gt.inNormal
    apply Gt.round (i + 1,w5,sv,iv,v')
    rotate_left
    ·simp only;omega
    ·repeat constructor
    ·exact fun _ h' => h'
    ·exact ⟨hlt,hM,row_keep hS.s hS.b ze hS.os u5,row_keep hS.i hS.b ze hS.oi u5,(by rw [List.replicate_succ'];exact ho5),row_keep hS.l hS.b ze hS.ol u5,mem_keep hS.m hS.b ze e1 e2 u5,hS.os,hS.oi,(fun k hk => ⟨fun e => (hoff5 k hk).1.1 e.symm,fun e => (hoff5 k hk).1.2.1 e.symm⟩),hS.ol,hu5,hS.cc⟩
 ·obtain rfl : i = M.L.length := by omega
  have hd : decide ((M.L.length : Int) < (M.L.length : Int)) = false := decide_eq_false ky
  have o1 := hS.s.one
  have o2 := hS.i.one
  have o3 := hS.b.one
  have o4 := hS.l.one
  repeat' first | (apply Wl.storeA;exact rfl;exact rfl;exact rfl;(show (true && (Value.oneCell' sv && (Value.oneCell' iv && (Value.oneCell' bv && (Value.oneCell' lvv && (true && true)))))) = true;rw [o1,o2,o3,o4];rfl);exact ke;exact .z (LOver.whole rfl)) | (apply Gt.outC';exact rfl;infer_instance;exact rfl;exact ke;exact ke;intro w' hp) | refine Wl.lss rfl rfl rfl ?_ | (apply Wl.loadAH;exact rfl;exact rfl;exact ke;exact ke) | apply Wl.nil | apply St.seq | apply St.region | (apply St.condF;exact rfl;exact ka) | apply St.ret | apply St.exit | apply Gt.next | apply Gt.thenExit | apply Gt.inExit
  have hr : ∀ k,(k ≠ c3 ∧ k ≠ c2) → ¬ ¬ Off [⟨c3,[.int .i64 (turnV M.t),sv,iv,bv,lvv,.pointer (some ⟨cC,0,none⟩)],54⟩,⟨c2,[.int .i64 (turnV M.t),sv,iv,bv,lvv,.pointer (some ⟨cC,0,none⟩)],54⟩] k := fun k hk y => y ⟨fun e => hk.1 e.symm,fun e => hk.2 e.symm,trivial⟩
  have a1 := hS.s
  have a2 := hS.i
  rw [List.take_length] at a1
  rw [← hM0.len.2,List.take_length,hM0.len.2] at a2
  refine ⟨sv,iv,bv,lvv,cC,rfl,⟨ownsRow_upd a1 hp.upd fun k hk => hr k (hS.os k hk),ownsRow_upd a2 hp.upd fun k hk => hr k (hS.oi k hk),ownsRow_upd hS.b hp.upd fun k hk => hr k (hS.ob k hk),ownsRow_upd hS.l hp.upd fun k hk => hr k (hS.ol k hk),hp.upd.heap hS.m (hr cC ⟨fun e => e1 e.symm,fun e => e2 e.symm⟩)⟩,e5,hp.on hS.u kb⟩
end Go.Proofs.YtabbklpalbikdaaGreatDoor
end
section
namespace Go.Pt
open Go.RowKit
theorem strOf_app (a b : List UInt8) : strOf a ++ strOf b = strOf (a ++ b) := by
 apply ByteArray.ext
 simp [strOf,ByteArray.data_append]
theorem _root_.Go.World.ownsRow.heap {w : World} {base e sz n b : Nat} {v : Value} {xs : List Value} (h : w.ownsRow base e sz v n xs) (hb : v.ownBlock = some b) : ∃ cs,w.heap[b]? = some (.cells cs e (0,0)) := by
 rcases h.2 with ⟨rfl,_⟩ | ⟨g,cap,cur,rfl,_,hg,_⟩
 ·cases hb
 ·cases hb;exact ⟨_,hg⟩
section
variable {P : Program} {md : Md} {N : Nat} {ops : Array Oper} {rest : List Oper} {Γ : Env} {C : World → Prop} {Q : Exit → Act → World → Prop} {d : Nat} {ty t u : TypeId} {pos : String} {af : Array Edge}
theorem Wl.addS {x y : Operand} {a b : List UInt8} (hd : Nat.blt d N = true) (hx : ev Γ x = some (.string (strOf a))) (hy : ev Γ y = some (.string (strOf b))) (hn : a.length + b.length < 1000000) (h : Wl rest P md ops N ((d,.string (strOf (a ++ b))) :: Γ) C Q) :
  Wl (⟨some d,.binOp .add t x y u,ty,pos,af,none⟩ :: rest) P md ops N Γ C Q :=
 Wl.val hd (fun c w ha _ => by
  have e : (strOf a).size + (strOf b).size < 1000000 := by simp [strOf,ByteArray.size];omega
  simp [execOp,ha.ev hx,ha.ev hy,eqGuard_add,binOp,Op.stringOp,strOf_app];omega) h
end
end Go.Pt
namespace Go.Proofs.YtabbklpalbikdaaGreatDoor
open Go.RowKit Go.Pt
set_option maxHeartbeats 4000000 in
theorem bFeed (base bd ia : Nat) (lv : Value) (ll : List (Int × List UInt8)) (used : Int) (ins : List (List UInt8)) (i : Nat) (s z : List UInt8) (w : World) (hB : BoardS w base bd ia lv ll used ins) (hi : ins[i]? = some s) (hz : s.length + z.length ≤ 64) :
  Calls Tryz.prog 78 #[.pointer (some ⟨bd,0,none⟩),.int .i64 i,strV z] w fun e w' => e = .returned (.int .i64 0) ∧ BoardS w' base bd ia lv ll used (ins.set i (s ++ z)) ∧ Upd (fun k => k = ia) w w' := by
 have hil := (List.getElem?_eq_some_iff.1 hi).1
 have hB0 := hB
 obtain ⟨⟨cap,J,a,b⟩,hr,r1,r2⟩ := hB
 have p0 : w.cell? ⟨bd,2,none⟩ = some (.slice (some ⟨ia,0,none⟩) ins.length cap) := cell_of a rfl
 have p1 : w.cell? ⟨ia,0 + (i : Int).toNat,none⟩ = some (strV s) := by rw [Int.toNat_natCast,Nat.zero_add];exact cell_of b (ins_at hi)
 have hne : bd ≠ ia := blk_ne a b
 have hs1 := strV_size s
 have hs2 := strV_size z
 have hd : decide (((strOf s).size : Int) + ((strOf z).size : Int) > 64) = false := decide_eq_false ky
 have hg : (ins.map strV ++ J)[0 + (i : Int).toNat]? = some (strV s) := by rw [Int.toNat_natCast,Nat.zero_add];exact ins_at hi
 have hset : LSet (ins.map strV ++ J) (0 + (i : Int).toNat) (strV (s ++ z)) ((ins.set i (s ++ z)).map strV ++ J) := by
  rw [Int.toNat_natCast,Nat.zero_add,List.map_set]
  exact LSet.left (by rw [List.length_map];exact hil)
 refine enter (args := [_,_,_]) (Γ := [(0,_),(1,_),(2,_)]) Tryz.func78 Tryz.ntmps78 rfl (of_decide_eq_true rfl) (.cons rfl (.cons rfl (.cons rfl .nil))) ?_
 have key : ∀ {wq : World} {e : Ending},e = .returned (.int .i64 0) → ∀ (Hx : Hp w [⟨ia,(ins.set i (s ++ z)).map strV ++ J,9⟩] wq),e = .returned (.int .i64 0) ∧ BoardS wq base bd ia lv ll used (ins.set i (s ++ z)) ∧ Upd (fun k => k = ia) w wq := by
  intro wq e he Hx
  have hr' := ownsRow_upd hr (Hp.turned Hx) (S := fun k => k = ia) fun k hk e => (hr.heap hk).elim fun _ hg => (blk_ne hg b) e
  exact ⟨he,⟨⟨cap,J,by rw [List.length_set];exact Hx.upd.heap a fun y => y ⟨hne.symm,trivial⟩,Hx.own.at (.head _)⟩,hr',by rw [List.length_set];exact ⟨r1,r2⟩⟩,(Hp.turned Hx)⟩
 repeat' first | refine Wl.move rfl rfl ?_ | refine Wl.assign rfl rfl ?_ | apply Wl.nil | apply St.seq | apply St.block | apply St.region | apply Gt.next
 apply Wl.callQ
 exact rfl
 (focus repeat constructor)
 ·intro wq hq
  exact hq.q (bHas base bd ia lv ll used ins i wq (hB0.upd hq.upd (fun y => y trivial) (fun y => y trivial) fun _ _ y => y trivial) hil)
 repeat' first | (apply Wl.loadO;exact rfl;exact rfl;exact zu;exact kj) | refine Wl.move rfl rfl ?_ | refine Wl.assign rfl rfl ?_ | refine Wl.nilCheck rfl rfl ?_ | refine Wl.not rfl rfl ?_ | refine Wl.fieldAddrZ rfl rfl ?_ | refine Wl.gtr rfl rfl rfl ?_ | (refine Wl.addI rfl rfl rfl ?_ ?_;constructor <;> omega) | refine Wl.lenS rfl rfl ?_ | (refine Wl.indexAddr1 rfl rfl rfl ?_ ?_;constructor <;> omega) | apply Wl.nil | apply St.seq | apply St.region | (apply St.condF;exact rfl;exact ka) | apply St.skip | apply Gt.next | apply Gt.inNormal
 apply Wl.addS (a := s) (b := z)
 ·exact rfl
 ·exact rfl
 ·exact rfl
 ·omega
 refine Wl.cls (fun _ h' => Hp.open h' b trivial) ?_
 repeat' first | (apply Wl.store;exact rfl;exact rfl;exact rfl;exact ke;exact hset) | refine Wl.assign rfl rfl ?_ | (refine Wl.indexAddr1 rfl rfl rfl ?_ ?_;constructor <;> omega) | apply Wl.nil | apply St.seq | apply St.region | apply St.ret | apply Gt.next | (apply Gt.out1;exact rfl;exact rfl;intro w' hp)
 exact key rfl hp
end Go.Proofs.YtabbklpalbikdaaGreatDoor
end
section
namespace Go.Proofs.YtabbklpalbikdaaGreatDoor
open Go.RowKit Go.Pt
def StaV (x : Sta) : Prop := (0 ≤ x.s ∧ x.s ≤ 2) ∧ x.xs[0]? = some (.int .u32 0) ∧ (x.s = 0 → x.c = 0)
def anyR (L : List Sta) : Bool := L.any fun x => decide (x.s = 0)
theorem anyR_snoc (L : List Sta) {i : Nat} {x : Sta} (h : L[i]? = some x) : anyR (L.take (i + 1)) = (anyR (L.take i) || decide (x.s = 0)) := by
 unfold anyR
 rw [List.take_add_one,h]
 simp
theorem stas_one {L : List Sta} (h : ∀ x ∈ L,StaOk x) : (stas L).flatten.all Value.oneCell' = true := by
 rw [List.all_eq_true]
 intro v hv
 obtain ⟨l,hl,hv⟩ := List.mem_flatten.1 hv
 obtain ⟨x,hx,rfl⟩ := List.mem_map.1 hl
 exact List.all_eq_true.1 (h x hx).one v hv
set_option maxHeartbeats 8000000 in
theorem wSetOk (wd sa : Nat) (L L' : List Sta) (t t' : Int) (v : Value) (w : World) (hW : WardS w wd sa L t) (hA : Sv w 35 L'.length v (stas L').flatten) (hl' : L'.length = L.length) (hok : ∀ x ∈ L',StaOk x ∧ StaV x) (ht : -1 ≤ t' ∧ t' < L'.length) (hany : anyR L' = decide (0 ≤ t')) (hr : ∀ x,0 ≤ t' → L'[t'.toNat]? = some x → x.s = 0) :
  Calls Tryz.prog 79 #[.pointer (some ⟨wd,0,none⟩),v,.int .i64 t'] w fun e w' => ∃ sa',e = .returned (.int .i64 0) ∧ WardS w' wd sa' L' t' ∧ w.heap.size ≤ sa' ∧ Upd (fun k => k = wd ∨ w.heap.size ≤ k) w w' := by
 have hne := hW.ne
 obtain ⟨⟨cap0,J,a,b⟩,hl,h1,h4⟩ := hW
 obtain ⟨hlen,va,vc,rfl,hc1,hc2,hc3,hcell⟩ := id hA
 have hL1 : 1 ≤ L'.length := by omega
 obtain ⟨vb,vo,rfl,hcs⟩ := hcell (fun e => by rw [e] at hlen;simp at hlen;omega)
 have hat : ∀ (i : Nat) (x : Sta),L'[i]? = some x → ∀ (q : Nat) (u : Value),x.cells[q]? = some u → w.cell? ⟨vb,vo + i * 35 + q,none⟩ = some u := fun i x hx q u hq => by
  have hq35 : q < 35 := by
   have h := (List.getElem?_eq_some_iff.1 hq).1
   rw [(hok x (List.mem_of_getElem? hx)).1.len] at h
   exact h
  have e := flat_get (stas_len fun y hy => (hok y hy).1) (stas_at hx) hq35
  rw [hq] at e
  obtain ⟨hj,e2⟩ := List.getElem?_eq_some_iff.1 e
  rw [Nat.add_assoc,hcs _ hj,e2]
 have hvb : vb < w.heap.size := by
  obtain ⟨x,hx⟩ : ∃ x,L'[0]? = some x := ⟨_,List.getElem?_eq_getElem ky⟩
  exact World.block_lt_of_cell? w _ (hat 0 x hx 0 _ rfl)
 have p0 : w.cell? ⟨wd,0,none⟩ = some (.slice (some ⟨sa,0,none⟩) L.length cap0) := cell_of a rfl
 have hlw := lt_of_block a
 have d1 : decide ((L'.length : Int) ≠ (L.length : Int)) = false := decide_eq_false ky
 have d2 : decide (t' < -1) = false := decide_eq_false ky
 have d3 : decide (t' ≥ (L'.length : Int)) = false := decide_eq_false ky
 refine enter (args := [_,_,_]) (Γ := [(0,_),(1,_),(2,_)]) Tryz.func79 Tryz.ntmps79 rfl (of_decide_eq_true rfl) (.cons rfl (.cons rfl (.cons rfl .nil))) ?_
 repeat' first | (apply Wl.loadO;exact rfl;exact rfl;exact zu;exact kj) | refine Wl.move rfl rfl ?_ | refine Wl.assign rfl rfl ?_ | (apply Wl.on;exact rfl;exact rfl;exact ka) | refine Wl.nilCheck rfl rfl ?_ | (apply Wl.pickF;exact rfl;exact rfl;exact ka;exact rfl) | refine Wl.fieldAddr0 rfl rfl ?_ | refine Wl.eqlPN rfl rfl rfl ?_ | refine Wl.neq rfl rfl rfl ?_ | refine Wl.lss rfl rfl rfl ?_ | refine Wl.geq rfl rfl rfl ?_ | refine Wl.len rfl rfl ?_ | apply Wl.nil | apply St.seq | apply St.block | apply St.region | (apply St.condF;exact rfl;exact ka) | apply St.skip | apply Gt.next
 refine St.loop (σ := Nat) (fun i => i ≤ L'.length) (fun i => [(0,.pointer (some ⟨wd,0,none⟩)),(1,.slice (some ⟨vb,vo,none⟩) L'.length vc),(2,.int .i64 t'),(7,.bool (anyR (L'.take i))),(32,.slice (some ⟨vb,vo,none⟩) L'.length vc),(33,.int .i64 L'.length),(34,.int .i64 (i : Int))])
  (fun _ => Hp w []) (fun i => L'.length - i) 0 (Nat.zero_le _) kv (fun _ h => h) ?_
 intro i hi
 by_cases hlt : i < L'.length
 ·have hd : decide ((i : Int) < (L'.length : Int)) = true := decide_eq_true ky
  obtain ⟨x,hx⟩ : ∃ x,L'[i]? = some x := ⟨_,List.getElem?_eq_getElem hlt⟩
  obtain ⟨hxo,⟨⟨s0,s2⟩,hx0,hsc⟩⟩ := hok x (List.mem_of_getElem? hx)
  have hati := hat i x hx
  have hsn := anyR_snoc L' hx
  have e1 : decide (x.s < 0) = false := decide_eq_false ky
  have e2 : decide (x.s > 2) = false := decide_eq_false ky
  have hx3 : x.cells[3 + (0 : Int).toNat * 1]? = some (.int .u32 0) := hx0
  have hati' : ∀ q u,x.cells[q]? = some u → w.cell? (Addr.add ⟨vb,vo + (i : Int).toNat * 35,none⟩ q) = some u := fun q u hq => by rw [addLit,Int.toNat_natCast];exact hati q u hq
  generalize anyR (L'.take i) = an at *
  by_cases hz : x.s = 0
  ·have e3 : decide (x.s = 0) = true := decide_eq_true hz
   have e4 : x.c = 0 := hsc hz
   have hsn' : anyR (L'.take (i + 1)) = true := by rw [hsn,e3,Bool.or_true]
   repeat' first | (apply Wl.storeA (xs := x.cells);exact rfl;exact rfl;exact hxo.len;exact hxo.one;exact ke;exact .z (LOver.whole (by rw [hxo.len];exact rfl))) | (apply Wl.loadH;exact rfl;exact rfl;exact (.head _);(first | exact hx3 | exact rfl)) | (apply Wl.loadAF (xs := x.cells);exact rfl;exact rfl;exact hxo.len;(intro wq hq q u hq';exact hq.old (hati' q u hq') qx)) | refine Wl.move rfl rfl ?_ | refine Wl.assign rfl rfl ?_ | (apply Wl.on;exact rfl;exact rfl;exact ka) | (apply Wl.off;exact rfl;exact rfl;exact rfl;exact kr) | (apply Wl.pickT;exact rfl;exact rfl;exact ka;exact rfl) | (apply Wl.pickF;exact rfl;exact rfl;exact ka;exact rfl) | refine Wl.fieldAddr0 rfl rfl ?_ | refine Wl.fieldAddrZ rfl rfl ?_ | (apply Wl.eqlIs;exact rfl;exact rfl;exact rfl;exact kz) | (apply Wl.neqIs;exact rfl;exact rfl;exact rfl;exact kz) | refine Wl.lss rfl rfl rfl ?_ | refine Wl.gtr rfl rfl rfl ?_ | (refine Wl.addI rfl rfl rfl ?_ ?_;constructor <;> omega) | (apply Wl.alloc;exact rfl;intro c hc ho) | (refine Wl.indexAddr rfl rfl rfl ?_ ?_;constructor <;> omega) | (refine Wl.indexArr rfl rfl rfl ?_ ?_;constructor <;> omega) | apply Wl.nil | apply St.seq | apply St.block | apply St.region | (apply St.condT;exact rfl;exact ka) | (apply St.condF;exact rfl;exact ka) | apply St.skip | apply Gt.next | apply Gt.inNormal | (apply Wl.splitB;exact rfl;exact rfl;all_goals intros)
   all_goals
    apply Gt.round (i + 1)
    rotate_left
    ·omega
    ·rw [hsn'];exact ke
    ·exact fun _ h => Hp.pop h (by simp only;assumption)
    ·exact hlt
  ·have e3 : decide (x.s = 0) = false := decide_eq_false hz
   have hsn' : anyR (L'.take (i + 1)) = an := by rw [hsn,e3,Bool.or_false]
   cases an
   all_goals
    repeat' first | (apply Wl.storeA (xs := x.cells);exact rfl;exact rfl;exact hxo.len;exact hxo.one;exact ke;exact .z (LOver.whole (by rw [hxo.len];exact rfl))) | (apply Wl.loadH;exact rfl;exact rfl;exact (.head _);(first | exact hx3 | exact rfl)) | (apply Wl.loadAF (xs := x.cells);exact rfl;exact rfl;exact hxo.len;(intro wq hq q u hq';exact hq.old (hati' q u hq') qx)) | refine Wl.move rfl rfl ?_ | refine Wl.assign rfl rfl ?_ | (apply Wl.on;exact rfl;exact rfl;exact ka) | (apply Wl.off;exact rfl;exact rfl;exact rfl;exact kr) | (apply Wl.pickT;exact rfl;exact rfl;exact ka;exact rfl) | (apply Wl.pickF;exact rfl;exact rfl;exact ka;exact rfl) | refine Wl.fieldAddr0 rfl rfl ?_ | refine Wl.fieldAddrZ rfl rfl ?_ | (apply Wl.neqIs;exact rfl;exact rfl;exact rfl;exact kz) | refine Wl.eql rfl rfl rfl ?_ | refine Wl.lss rfl rfl rfl ?_ | refine Wl.gtr rfl rfl rfl ?_ | (refine Wl.addI rfl rfl rfl ?_ ?_;constructor <;> omega) | (apply Wl.alloc;exact rfl;intro c hc ho) | (refine Wl.indexAddr rfl rfl rfl ?_ ?_;constructor <;> omega) | (refine Wl.indexArr rfl rfl rfl ?_ ?_;constructor <;> omega) | apply Wl.nil | apply St.seq | apply St.block | apply St.region | (apply St.condT;exact rfl;exact ka) | (apply St.condF;exact rfl;exact ka) | apply St.skip | apply Gt.next | apply Gt.inNormal
   all_goals
    apply Gt.round (i + 1)
    rotate_left
    ·omega
    ·rw [hsn];exact ke
    ·exact fun _ h => Hp.pop h (by simp only;assumption)
    ·exact hlt
 ·obtain rfl : i = L'.length := by omega
  have hd : decide ((L'.length : Int) < (L'.length : Int)) = false := decide_eq_false ky
  have hany' : anyR (L'.take L'.length) = decide (t' ≥ 0) := by rw [List.take_length];exact hany
  rw [hany']
  have dn : ∀ b : Bool,(!(b == b)) = false := fun b => by cases b <;> rfl
  have tail : ∀ {Q : Exit → Act → World → Prop} {Γ : Env},True := trivial
  by_cases hpos : 0 ≤ t'
  ·have d5 : decide (t' ≥ 0) = true := decide_eq_true hpos
   have dq : true = decide (0 ≤ t') := (decide_eq_true hpos).symm
   have dq2 : decide (0 ≤ t') = true := decide_eq_true hpos
   obtain ⟨x,hx⟩ : ∃ x,L'[t'.toNat]? = some x := ⟨_,List.getElem?_eq_getElem ky⟩
   have h0 := hr x hpos hx
   have d6 : decide (x.s ≠ 0) = false := decide_eq_false (fun h => h h0)
   have p3 : w.cell? ⟨vb,vo + t'.toNat * 35,none⟩ = some (.int .i64 x.s) := hat _ x hx 0 _ rfl
   rw [d5]
   repeat' first | (apply Wl.loadO;exact rfl;exact rfl;exact zu;exact kj) | refine Wl.move rfl rfl ?_ | (apply Wl.on;exact rfl;exact rfl;exact ka) | (apply Wl.pickT;exact rfl;exact rfl;exact ka;exact rfl) | (apply Wl.pickF;exact rfl;exact rfl;exact ka;exact rfl) | refine Wl.fieldAddr0 rfl rfl ?_ | (apply Wl.neqIs;exact rfl;exact rfl;exact rfl;exact kz) | refine Wl.lss rfl rfl rfl ?_ | refine Wl.geq rfl rfl rfl ?_ | (apply Wl.neqBs;exact rfl;exact rfl;exact rfl;exact kz) | (refine Wl.indexAddr rfl rfl rfl ?_ ?_;constructor <;> omega) | apply Wl.nil | apply St.seq | apply St.region | (apply St.condF;exact rfl;exact ka) | apply St.skip | apply St.exit | apply Gt.next | apply Gt.thenExit | apply Gt.inExit
   all_goals
    apply Wl.appendV (base := w.heap.size) (n := 0) (m := L'.length) (sz := 35) (xs := []) (news := (stas L').flatten) (v := .slice none 0 0) (y := .slice (some ⟨vb,vo,none⟩) L'.length vc)
    ·exact rfl
    ·exact rfl
    ·exact rfl
    ·exact hA
    ·exact fun _ _ _ _ => trivial
    ·exact World.ownsRow_nil w _ _ _
    ·exact fun k hk => by cases hk
    ·exact stas_one fun y hy => (hok y hy).1
    ·exact rfl
    ·decide
    ·omega
    ·omega
    ·exact Nat.le_refl _
    intro v' w1 ho1 u1 _ hoff1
    rw [Nat.zero_add,List.nil_append] at ho1
    obtain ⟨g,cp,J',rfl,hg1,hg2⟩ := ho1.blk ky
    have uu : Upd (fun _ => False) w w1 := u1.mono fun k _ hs => hs.elim (fun e => by cases e) fun y => y trivial
    have a1 := uu.heap a id
    have l1 := uu.size
    refine Wl.cls (fun _ h' => Hp.open h' a1 trivial) ?_
    repeat' first | refine Wl.move rfl rfl ?_ | refine Wl.assign rfl rfl ?_ | refine Wl.nilCheck rfl rfl ?_ | refine Wl.fieldAddr0 rfl rfl ?_ | refine Wl.fieldAddrZ rfl rfl ?_ | (apply Wl.store;exact rfl;exact rfl;exact rfl;exact ke;exact kw) | apply Wl.nil | apply St.seq | apply St.region | apply St.ret | apply Gt.next | (apply Gt.out1;exact rfl;exact rfl;intro w' hp)
    refine ⟨g,rfl,⟨⟨cp,J',hp.own.at (.head _),hp.upd.heap hg2 fun y => y ⟨by simp only;omega,trivial⟩⟩,fun y hy => (hok y hy).1,by omega,by omega⟩,hg1,?_⟩
    exact uu.comp (Hp.turned hp) fun k hk hs => hs.elim False.elim fun e => .inl e
  ·have d5 : decide (t' ≥ 0) = false := decide_eq_false hpos
   have dq : false = decide (0 ≤ t') := (decide_eq_false hpos).symm
   have dq2 : decide (0 ≤ t') = false := decide_eq_false hpos
   rw [d5]
   repeat' first | refine Wl.move rfl rfl ?_ | (apply Wl.on;exact rfl;exact rfl;exact ka) | (apply Wl.off;exact rfl;exact rfl;exact rfl;exact kr) | (apply Wl.pickF;exact rfl;exact rfl;exact ka;exact rfl) | refine Wl.lss rfl rfl rfl ?_ | refine Wl.geq rfl rfl rfl ?_ | (apply Wl.neqBs;exact rfl;exact rfl;exact rfl;exact kz) | apply Wl.nil | apply St.seq | apply St.region | (apply St.condF;exact rfl;exact ka) | apply St.skip | apply St.exit | apply Gt.next | apply Gt.thenExit | apply Gt.inExit
   all_goals
    apply Wl.appendV (base := w.heap.size) (n := 0) (m := L'.length) (sz := 35) (xs := []) (news := (stas L').flatten) (v := .slice none 0 0) (y := .slice (some ⟨vb,vo,none⟩) L'.length vc)
    ·exact rfl
    ·exact rfl
    ·exact rfl
    ·exact hA
    ·exact fun _ _ _ _ => trivial
    ·exact World.ownsRow_nil w _ _ _
    ·exact fun k hk => by cases hk
    ·exact stas_one fun y hy => (hok y hy).1
    ·exact rfl
    ·decide
    ·omega
    ·omega
    ·exact Nat.le_refl _
    intro v' w1 ho1 u1 _ hoff1
    rw [Nat.zero_add,List.nil_append] at ho1
    obtain ⟨g,cp,J',rfl,hg1,hg2⟩ := ho1.blk ky
    have uu : Upd (fun _ => False) w w1 := u1.mono fun k _ hs => hs.elim (fun e => by cases e) fun y => y trivial
    have a1 := uu.heap a id
    have l1 := uu.size
    refine Wl.cls (fun _ h' => Hp.open h' a1 trivial) ?_
    repeat' first | refine Wl.move rfl rfl ?_ | refine Wl.assign rfl rfl ?_ | refine Wl.nilCheck rfl rfl ?_ | refine Wl.fieldAddr0 rfl rfl ?_ | refine Wl.fieldAddrZ rfl rfl ?_ | (apply Wl.store;exact rfl;exact rfl;exact rfl;exact ke;exact kw) | apply Wl.nil | apply St.seq | apply St.region | apply St.ret | apply Gt.next | (apply Gt.out1;exact rfl;exact rfl;intro w' hp)
    refine ⟨g,rfl,⟨⟨cp,J',hp.own.at (.head _),hp.upd.heap hg2 fun y => y ⟨by simp only;omega,trivial⟩⟩,fun y hy => (hok y hy).1,by omega,by omega⟩,hg1,?_⟩
    exact uu.comp (Hp.turned hp) fun k hk hs => hs.elim False.elim fun e => .inl e
end Go.Proofs.YtabbklpalbikdaaGreatDoor
end
section
namespace Go.Pt
open Go.RowKit
section
variable {P : Program} {md : Md} {N : Nat} {ops : Array Oper} {rest : List Oper} {Γ : Env} {C : World → Prop} {Q : Exit → Act → World → Prop} {d : Nat} {ty t u : TypeId} {pos : String} {af : Array Edge}
theorem Wl.indexStr {x i : Operand} {q : IntKind} {b : UInt8} {s : List UInt8} [ht : TyD P t .string] (hd : Nat.blt d N = true) (hx : ev Γ x = some (.string (strOf (b :: s)))) (hi : ev Γ i = some (.int q 0)) (h : Wl rest P md ops N ((d,.int .u8 b.toNat) :: Γ) C Q) : Wl (⟨some d,.index t x i,ty,pos,af,none⟩ :: rest) P md ops N Γ C Q :=
 Wl.val hd (fun a w ha _ => by
  have e : (strOf (b :: s))[0]? = some b := rfl
  simp [execOp,ha.ev hx,ha.ev hi,Instr.index,asIntOf,run_underlying ht.out,e]) h
theorem strOf_tail (b : UInt8) (s : List UInt8) : (strOf (b :: s)).extract 1 (strOf (b :: s)).size = strOf s := by
 apply ByteArray.ext
 simp [strOf,ByteArray.size]
theorem Wl.sliceStr1 {x lo : Operand} {q : IntKind} {b : UInt8} {s : List UInt8} [ht : TyD P t .string] (hd : Nat.blt d N = true) (hx : ev Γ x = some (.string (strOf (b :: s)))) (hi : ev Γ lo = some (.int q 1)) (h : Wl rest P md ops N ((d,.string (strOf s)) :: Γ) C Q) : Wl (⟨some d,.slice t x (some lo) none none,ty,pos,af,none⟩ :: rest) P md ops N Γ C Q :=
 Wl.val hd (fun a w ha _ => by
  have e : (1 : Int) ≤ ((strOf (b :: s)).size : Int) := by simp [strOf,ByteArray.size];omega
  have hne : 1 ≤ (strOf (b :: s)).size := by simp [strOf,ByteArray.size]
  simp [execOp,ha.ev hx,ha.ev hi,Instr.sliceAt,Instr.slice,Instr.sliceBounds,Instr.sliceBound,asIntOf,run_underlying ht.out,e,hne,strOf_tail]) h
end
end Go.Pt
namespace Go.Proofs.YtabbklpalbikdaaGreatDoor
open Go.RowKit Go.Pt
theorem bHearNo (base bd ia : Nat) (lv : Value) (ll : List (Int × List UInt8)) (used : Int) (ins : List (List UInt8)) (i : Nat) (w : World) (hB : BoardS w base bd ia lv ll used ins) (hi : ins[i]? = some []) :
  Calls Tryz.prog 165 #[.pointer (some ⟨bd,0,none⟩),.int .i64 i] w fun e w' => e = .returned (.tuple #[.int .u8 0,.int .i64 17]) ∧ Hp w [] w' := by
 have hil := (List.getElem?_eq_some_iff.1 hi).1
 have hB0 := hB
 obtain ⟨⟨cap,J,a,b⟩,hr,r⟩ := hB
 have p0 : w.cell? ⟨bd,2,none⟩ = some (.slice (some ⟨ia,0,none⟩) ins.length cap) := cell_of a rfl
 have p1 : w.cell? ⟨ia,0 + (i : Int).toNat,none⟩ = some (strV []) := by rw [Int.toNat_natCast,Nat.zero_add];exact cell_of b (ins_at hi)
 have hz : decide (([] : List UInt8) = []) = true := rfl
 refine enter (args := [_,_]) (Γ := [(0,_),(1,_)]) Tryz.func165 Tryz.ntmps165 rfl (of_decide_eq_true rfl) (.cons rfl (.cons rfl .nil)) ?_
 repeat' first | refine Wl.move rfl rfl ?_ | refine Wl.assign rfl rfl ?_ | apply Wl.nil | apply St.seq | apply St.block | apply St.region | apply Gt.next
 apply Wl.callQ
 exact rfl
 (focus repeat constructor)
 ·intro wq hq
  exact hq.q (bHas base bd ia lv ll used ins i wq (hB0.upd hq.upd (fun y => y trivial) (fun y => y trivial) fun _ _ y => y trivial) hil)
 repeat' first | (apply Wl.loadO;exact rfl;exact rfl;exact zu;exact kj) | (apply Wl.eqlSB (p := []) (q := []);exact rfl;exact rfl;exact rfl) | refine Wl.move rfl rfl ?_ | refine Wl.assign rfl rfl ?_ | refine Wl.nilCheck rfl rfl ?_ | refine Wl.not rfl rfl ?_ | refine Wl.fieldAddrZ rfl rfl ?_ | (refine Wl.indexAddr1 rfl rfl rfl ?_ ?_;constructor <;> omega) | apply Wl.nil | apply St.seq | apply St.region | (apply St.condT;exact rfl;exact ka) | (apply St.condF;exact rfl;exact ka) | apply St.ret | apply Gt.next | apply Gt.thenRet | apply Gt.inRet | (apply Gt.out2;exact rfl;exact rfl;exact rfl;intro w' hp)
 exact ⟨rfl,hp⟩
set_option maxHeartbeats 8000000 in
theorem bHear (base bd ia : Nat) (lv : Value) (ll : List (Int × List UInt8)) (used : Int) (ins : List (List UInt8)) (i : Nat) (z : UInt8) (s : List UInt8) (w : World) (hB : BoardS w base bd ia lv ll used ins) (hi : ins[i]? = some (z :: s)) :
  Calls Tryz.prog 165 #[.pointer (some ⟨bd,0,none⟩),.int .i64 i] w fun e w' => e = .returned (.tuple #[.int .u8 z.toNat,.int .i64 0]) ∧ BoardS w' base bd ia lv ll used (ins.set i s) ∧ Upd (fun k => k = ia) w w' := by
 have hil := (List.getElem?_eq_some_iff.1 hi).1
 have hB0 := hB
 obtain ⟨⟨cap,J,a,b⟩,hr,r1,r2⟩ := hB
 have p0 : w.cell? ⟨bd,2,none⟩ = some (.slice (some ⟨ia,0,none⟩) ins.length cap) := cell_of a rfl
 have p1 : w.cell? ⟨ia,0 + (i : Int).toNat,none⟩ = some (strV (z :: s)) := by rw [Int.toNat_natCast,Nat.zero_add];exact cell_of b (ins_at hi)
 have hne : bd ≠ ia := blk_ne a b
 have hz : decide ((z :: s) = ([] : List UInt8)) = false := by simp
 have hg : (ins.map strV ++ J)[0 + (i : Int).toNat]? = some (strV (z :: s)) := by rw [Int.toNat_natCast,Nat.zero_add];exact ins_at hi
 have hset : LSet (ins.map strV ++ J) (0 + (i : Int).toNat) (strV s) ((ins.set i s).map strV ++ J) := by
  rw [Int.toNat_natCast,Nat.zero_add,List.map_set]
  exact LSet.left (by rw [List.length_map];exact hil)
 have key : ∀ {wq : World} {e : Ending},e = .returned (.tuple #[.int .u8 z.toNat,.int .i64 0]) → ∀ (Hx : Hp w [⟨ia,(ins.set i s).map strV ++ J,9⟩] wq),e = .returned (.tuple #[.int .u8 z.toNat,.int .i64 0]) ∧ BoardS wq base bd ia lv ll used (ins.set i s) ∧ Upd (fun k => k = ia) w wq := by
  intro wq e he Hx
  have hr' := ownsRow_upd hr (Hp.turned Hx) (S := fun k => k = ia) fun k hk e => (hr.heap hk).elim fun _ hg => (blk_ne hg b) e
  exact ⟨he,⟨⟨cap,J,by rw [List.length_set];exact Hx.upd.heap a fun y => y ⟨hne.symm,trivial⟩,Hx.own.at (.head _)⟩,hr',by rw [List.length_set];exact ⟨r1,r2⟩⟩,(Hp.turned Hx)⟩
 refine enter (args := [_,_]) (Γ := [(0,_),(1,_)]) Tryz.func165 Tryz.ntmps165 rfl (of_decide_eq_true rfl) (.cons rfl (.cons rfl .nil)) ?_
 repeat' first | refine Wl.move rfl rfl ?_ | refine Wl.assign rfl rfl ?_ | apply Wl.nil | apply St.seq | apply St.block | apply St.region | apply Gt.next
 apply Wl.callQ
 exact rfl
 (focus repeat constructor)
 ·intro wq hq
  exact hq.q (bHas base bd ia lv ll used ins i wq (hB0.upd hq.upd (fun y => y trivial) (fun y => y trivial) fun _ _ y => y trivial) hil)
 repeat' first | (apply Wl.loadO;exact rfl;exact rfl;exact zu;exact kj) | (apply Wl.eqlSB (p := z :: s) (q := []);exact rfl;exact rfl;exact rfl) | (apply Wl.indexStr (b := z) (s := s);exact rfl;exact rfl;exact rfl) | refine Wl.move rfl rfl ?_ | refine Wl.assign rfl rfl ?_ | refine Wl.nilCheck rfl rfl ?_ | refine Wl.not rfl rfl ?_ | refine Wl.fieldAddrZ rfl rfl ?_ | (refine Wl.indexAddr1 rfl rfl rfl ?_ ?_;constructor <;> omega) | apply Wl.nil | apply St.seq | apply St.region | (apply St.condF;exact rfl;exact ka) | apply St.skip | apply Gt.next | apply Gt.inNormal
 refine St.cls (fun _ h' => Hp.open h' b trivial) ?_
 refine St.tree (fun w' => w'.heap[bd]? = some (.cells #[lv,.int .i64 used,.slice (some ⟨ia,0,none⟩) ins.length cap] 231 (0,0))) mixed (fun _ h' => ⟨Hp.drew h',(Hp.drew h').upd.heap a fun y => y ⟨hne.symm,trivial⟩⟩) ?_
 refine Mt.pm 0 ?_
 refine Mt.pm 4 ?_
 refine Mt.pm 5 ?_
 refine Mt.pm 9 ?_
 refine Mt.pn 1 ?_
 refine Mt.pn 6 ?_
 refine Mt.pz 2 ?_
 refine Mt.pz 7 ?_
 refine Mt.pu 3 ?_
 repeat' first | (apply Wl.loadF;exact rfl;exact rfl;(intro w' h';exact cell_of h' rfl)) | apply Wl.nilB
 refine Mt.pu 8 ?_
 repeat' first | (apply Wl.loadF;exact rfl;exact rfl;(intro w' h';exact cell_of h' rfl)) | apply Wl.nilB
 refine Mt.pu 10 ?_
 repeat' first | (refine Wl.indexAddr1 rfl rfl rfl ?_ ?_;constructor <;> omega) | apply Wl.nilB
 refine Mt.eff1 (i := 11) kg zd ?_
 apply Wl.loadH
 ·exact rfl
 ·exact rfl
 ·repeat constructor
 ·exact hg
 repeat' first | apply Wl.nil
 refine Mt.backE (fun _ h' => h'.upd.heap a fun y => y ⟨hne.symm,trivial⟩) ?_
 refine Mt.pu 12 ?_
 repeat' first | (apply Wl.sliceStr1 (b := z) (s := s);exact rfl;exact rfl;exact rfl) | apply Wl.nilB
 refine Mt.pu 13 ?_
 repeat' first | (refine Wl.indexAddr1 rfl rfl rfl ?_ ?_;constructor <;> omega) | apply Wl.nilB
 refine Mt.eff1 (i := 14) kg zd ?_
 apply Wl.store
 ·exact rfl
 ·exact rfl
 ·exact rfl
 ·repeat constructor
 ·exact hset
 repeat' first | apply Wl.nil
 refine Mt.backE (fun _ h' => h'.upd.heap a fun y => y ⟨hne.symm,trivial⟩) ?_
 refine Mt.toGt kg ?_
 repeat' first | refine Wl.move rfl rfl ?_ | refine Wl.assign rfl rfl ?_ | apply Wl.nil | apply St.seq | apply St.region | apply St.ret | apply Gt.next | (apply Gt.out2;exact rfl;exact rfl;exact rfl;intro w' hp)
 exact key rfl hp
end Go.Proofs.YtabbklpalbikdaaGreatDoor
end
section
namespace Go.Pt
open Go.RowKit
theorem SmN.tail {P : Program} {N : Nat} {Γ : Env} {C : World → Prop} {Q : Exit → Act → World → Prop} {l : List Oper} (kk : Nat) (h : Wl (l.drop kk) P .seq l.toArray N Γ C Q) : SmN P l.toArray (List.range' kk (l.drop kk).length) N Γ C Q :=
 SmN.of (fun j => by simp) h
theorem run_eql_chan {P : Program} (w : World) {t e : TypeId} {dir : ChanDir} (a b : Option Nat) (ht : P.underlying t = some (.chan dir e)) :
  (binOp .eql t (.chan a) (.chan b)).run P w = .ok (.bool (a == b)) w := by
 have h : ∀ d : Nat,(Op.equalIn (d + 1) t (.chan a) (.chan b)).run P w = .ok (a == b) w := fun d => by
  simp [Op.equalIn,run_underlying ht]
 simp only [binOp]
 simp [Op.equal,Op.maxDepth,h 9999]
section
variable {P : Program} {md : Md} {N : Nat} {ops : Array Oper} {rest : List Oper} {Γ : Env} {C : World → Prop} {Q : Exit → Act → World → Prop} {d : Nat} {ty t u e : TypeId} {pos : String} {af : Array Edge}
theorem Wl.eqlC {x y : Operand} {a b : Option Nat} {r : Bool} {dir : ChanDir} (ht : P.underlying t = some (.chan dir e)) (hd : Nat.blt d N = true) (hx : ev Γ x = some (.chan a)) (hy : ev Γ y = some (.chan b)) (hr : (a == b) = r) (h : Wl rest P md ops N ((d,.bool r) :: Γ) C Q) : Wl (⟨some d,.binOp .eql t x y u,ty,pos,af,none⟩ :: rest) P md ops N Γ C Q :=
 Wl.val hd (fun c w ha _ => by subst hr;simp only [execOp,ha.ev hx,ha.ev hy,eqGuard_at_chan,pure_bind,Sem.run_bind,run_eql_chan w a b ht];rfl) h
end
end Go.Pt
namespace Go.Proofs.YtabbklpalbikdaaGreatDoor
open Go.RowKit Go.Pt
theorem chan_ne {w : World} {c b cap t : Nat} {l : List Value} {cs : Array Value} (h1 : ChanB w c cap l) (h2 : w.heap[b]? = some (.cells cs t (0,0))) : c ≠ b := by
 rintro rfl
 obtain ⟨s,r,h⟩ := h1
 rw [h] at h2
 cases h2
def letV (x : Int × List UInt8) : Value := .agg #[.int .i64 x.1,strV x.2]
def zLet : Value := .agg #[.int .i64 0,.string ⟨#[]⟩]
set_option maxHeartbeats 8000000 in
theorem pSend (pp pa : Nat) (cs : List Nat) (bx : Nat → List Value) (i ch : Nat) (x : Int × List UInt8) (w : World) (hP : PostS w pp pa cs bx) (hi : cs[i]? = some ch) (hx : 1 ≤ x.2.length ∧ x.2.length ≤ 16) :
  Calls Tryz.prog 80 #[.pointer (some ⟨pp,0,none⟩),.int .i64 i,letV x] w fun e w' => ((bx i).length < 4 ∧ e = .returned (.int .i64 0) ∧ PostS w' pp pa cs (fun j => if j = i then bx i ++ [letV x] else bx j) ∧ Upd (fun k => k = ch) w w') ∨ (4 ≤ (bx i).length ∧ e = .returned (.int .i64 16) ∧ Hp w [] w') := by
 have hP0 := hP
 have hs1 := strV_size x.2
 have hlts := hP.lt
 have hlc := (hP.2.1 i ch hi).lt
 have hd0 : decide (((strOf x.2).size : Int) < 1) = false := decide_eq_false ky
 have hd1 : decide (((strOf x.2).size : Int) > 16) = false := decide_eq_false ky
 refine enterN (args := [_,_,_]) (Γ := [(0,_),(1,_),(2,_)]) Tryz.func80 Tryz.ntmps80 rfl (of_decide_eq_true rfl) (.cons rfl (.cons rfl (.cons rfl .nil))) ?_
 refine StN.seq (StN.of ?_)
 repeat' first | refine Wl.assign rfl rfl ?_ | (apply Wl.boxA;exact rfl;exact rfl;intro c hc ho) | apply Wl.nil | apply St.region
 refine GtN.next (StN.seq (StN.of ?_))
 repeat' first | refine Wl.move rfl rfl ?_ | apply St.region
 apply Wl.callQ
 exact rfl
 (focus repeat constructor)
 ·intro wq hq
  exact hq.q (pBox pp pa cs bx i ch wq (hP0.upd hq.upd (fun y => y ⟨by simp only;omega,trivial⟩) (fun y => y ⟨by simp only;omega,trivial⟩) fun z hz y => y ⟨by have := hlts.2.2 z hz;simp only;omega,trivial⟩) hi)
 repeat' first | refine Wl.assign rfl rfl ?_ | apply Wl.nil
 refine GtN.next (StN.seq (StN.of ?_))
 repeat' first | (apply Wl.eqlC (r := false) chTy;exact rfl;exact rfl;exact rfl;exact rfl) | refine Wl.move rfl rfl ?_ | (apply Wl.on;exact rfl;exact rfl;exact ka) | (apply Wl.pickF;exact rfl;exact rfl;exact ka;exact rfl) | refine Wl.fieldAddrZ rfl rfl ?_ | (apply Wl.loadH;exact rfl;exact rfl;exact ke;exact rfl) | refine Wl.lss rfl rfl rfl ?_ | refine Wl.gtr rfl rfl rfl ?_ | refine Wl.lenS rfl rfl ?_ | apply Wl.nil | apply St.seq | apply St.region | (apply St.condF;exact rfl;exact ka) | apply St.skip | apply Gt.next
 refine GtN.next (StN.seq (StN.of ?_))
 repeat' first | refine Wl.move rfl rfl ?_ | (apply Wl.loadAH;exact rfl;exact rfl;exact ke;exact ke) | apply Wl.nil | apply St.seq | apply St.region | apply Gt.next
 refine GtN.next (GtN.base fun wz hz => StN.seq (StN.region ?_))
 have hcz : ChanB wz ch 4 (bx i) := (hP0.2.1 i ch hi).upd hz.upd fun y => y ⟨by simp only;omega,trivial⟩
 refine SmN.selSend (ch := .tmp 25) (x := .tmp 26) (t := 0) (v := letV x) (zv := zLet) (c := ch) (cap := 4) (l := bx i) rfl rfl rfl rfl (fun w' a ha => ?_) hcz ⟨by simp only;omega,trivial⟩ (fun hl w1 hc1 u1 => ?_) (fun hl => ?_)
 ·have e25 : a.eval (.tmp 25) = .chan (some ch) := ha.ev rfl
  have e26 : a.eval (.tmp 26) = letV x := ha.ev rfl
  simp [execOp,e25,e26,Go.Conc.scase,run_zero (P := Tryz.prog) (t := 78),zLet]
 ·refine SmN.tail 1 ?_
  simp only [List.drop_succ_cons,List.drop_zero]
  repeat' first | refine Wl.extract rfl rfl rfl ?_ | (apply Wl.eqlIs;exact rfl;exact rfl;exact rfl;exact kz) | apply Wl.nil
  refine GtN.next (StN.of ?_)
  repeat' first | refine Wl.assign rfl rfl ?_ | apply Wl.nil | apply St.seq | apply St.block | apply St.region | (apply St.condT;exact rfl;exact ka) | apply St.ret | apply Gt.next | apply Gt.inRet | (apply Gt.out1;exact rfl;exact rfl;intro w' hp)
  have of : ∀ k,k < w.heap.size → Off [⟨c,[.int .i64 x.1,strV x.2],78⟩] k := fun k hk => ⟨by simp only;omega,trivial⟩
  have u : Upd (fun k => k = ch) w w' := (hz.upd.comp u1 (T := fun k => k = ch) fun k hk hs => hs.elim (fun y => (y (of k hk)).elim) fun y => y.elim id fun y => (y (of k hk)).elim).comp hp.upd fun k hk hs => hs.elim id fun y => (y (of k hk)).elim
  obtain ⟨⟨cap,J,a,b⟩,hch,hj,r⟩ := hP
  refine .inl ⟨hl,rfl,⟨⟨cap,J,u.heap a fun e => chan_ne (hch i ch hi) a e.symm,u.heap b fun e => chan_ne (hch i ch hi) b e.symm⟩,fun j c' hj' => ?_,hj,r⟩,u⟩
  by_cases e : j = i
  ·subst e
   rw [hi] at hj'
   cases hj'
   show ChanB _ _ _ (ite _ _ _)
   rw [if_pos rfl]
   exact hc1.upd hp.upd fun y => y (of _ hlc)
  ·show ChanB _ _ _ (ite _ _ _)
   rw [if_neg e]
   exact (hch j c' hj').upd u fun e' => e (hj j i ch (e' ▸ hj') hi)
 ·refine SmN.tail 1 ?_
  simp only [List.drop_succ_cons,List.drop_zero]
  repeat' first | refine Wl.extract rfl rfl rfl ?_ | refine Wl.eql rfl rfl rfl ?_ | apply Wl.nil
  refine GtN.next (StN.of ?_)
  repeat' first | refine Wl.assign rfl rfl ?_ | apply Wl.nil | apply St.seq | apply St.block | apply St.region | (apply St.condF;exact rfl;exact ka) | apply St.ret | apply Gt.next | apply Gt.inRet | (apply Gt.out1;exact rfl;exact rfl;intro w' hp)
  exact .inr ⟨hl,rfl,Hp.drop (H := [⟨c,[.int .i64 x.1,strV x.2],78⟩]) ⟨hz.upd.trans hp.upd,hp.own,hp.apart⟩ kb⟩
set_option maxHeartbeats 8000000 in
theorem pTake (pp pa : Nat) (cs : List Nat) (bx : Nat → List Value) (i ch : Nat) (w : World) (hP : PostS w pp pa cs bx) (hi : cs[i]? = some ch) (hb : ∀ v ∈ bx i,∃ x,v = letV x) :
  Calls Tryz.prog 166 #[.pointer (some ⟨pp,0,none⟩),.int .i64 i] w fun e w' => (∃ x r,bx i = letV x :: r ∧ e = .returned (.tuple #[letV x,.int .i64 0]) ∧ PostS w' pp pa cs (fun j => if j = i then r else bx j) ∧ Upd (fun k => k = ch) w w') ∨ (bx i = [] ∧ e = .returned (.tuple #[zLet,.int .i64 17]) ∧ Hp w [] w') := by
 have hP0 := hP
 have hlts := hP.lt
 have hlc := (hP.2.1 i ch hi).lt
 refine enterN (args := [_,_]) (Γ := [(0,_),(1,_)]) Tryz.func166 Tryz.ntmps166 rfl (of_decide_eq_true rfl) (.cons rfl (.cons rfl .nil)) ?_
 refine StN.seq (StN.of ?_)
 repeat' first | refine Wl.assign rfl rfl ?_ | (apply Wl.alloc;exact rfl;intro c hc ho) | apply Wl.nil | apply St.region
 refine GtN.next (StN.seq (StN.of ?_))
 repeat' first | refine Wl.move rfl rfl ?_ | apply St.region
 apply Wl.callQ
 exact rfl
 (focus repeat constructor)
 ·intro wq hq
  exact hq.q (pBox pp pa cs bx i ch wq (hP0.upd hq.upd (fun y => y ⟨by simp only;omega,trivial⟩) (fun y => y ⟨by simp only;omega,trivial⟩) fun z hz y => y ⟨by have := hlts.2.2 z hz;simp only;omega,trivial⟩) hi)
 repeat' first | refine Wl.assign rfl rfl ?_ | apply Wl.nil
 refine GtN.next (StN.seq (StN.of ?_))
 repeat' first | (apply Wl.eqlC (r := false) chTy;exact rfl;exact rfl;exact rfl;exact rfl) | refine Wl.move rfl rfl ?_ | apply Wl.nil | apply St.seq | apply St.region | (apply St.condF;exact rfl;exact ka) | apply St.skip | apply Gt.next
 refine GtN.next (StN.seq (StN.of ?_))
 repeat' first | refine Wl.move rfl rfl ?_ | apply Wl.nil | apply St.region
 generalize c = c1 at *
 have hc1' : w.heap.size ≤ c1 := by assumption
 have of : ∀ k,k < w.heap.size → Off [⟨c1,[.int .i64 0,.string ⟨#[]⟩],78⟩] k := fun k hk => ⟨by simp only;omega,trivial⟩
 refine GtN.next (GtN.base fun wz hz => StN.seq (StN.region ?_))
 have hcz : ChanB wz ch 4 (bx i) := (hP0.2.1 i ch hi).upd hz.upd fun y => y (of _ hlc)
 refine SmN.selRecv (zv := zLet) (c := ch) (cap := 4) (l := bx i) rfl rfl rfl rfl (fun w' a ha => ?_) hcz (of _ hlc) (fun v r hl w1 hc1 u1 => ?_) (fun hl => ?_)
 ·have e25 : a.eval (.tmp 14) = .chan (some ch) := ha.ev rfl
  simp [execOp,e25,Go.Conc.rcase,run_zero (P := Tryz.prog) (t := 78),zLet]
 ·obtain ⟨x,rfl⟩ := hb v (by rw [hl];exact .head _)
  refine SmN.tail 1 ?_
  simp only [List.drop_succ_cons,List.drop_zero]
  repeat' first | refine Wl.extract rfl rfl rfl ?_ | (apply Wl.eqlIs;exact rfl;exact rfl;exact rfl;exact kz) | apply Wl.nil
  refine GtN.next (StN.of ?_)
  repeat' first | (apply Gt.outCT;exact rfl;infer_instance;exact rfl;exact rfl;exact ke;exact ke;intro w' hp) | refine Wl.assign rfl rfl ?_ | refine Wl.extract rfl rfl rfl ?_ | (apply Wl.storeA;exact rfl;exact rfl;exact rfl;exact rfl;exact ke;exact kf) | (apply Wl.loadAH;exact rfl;exact rfl;exact ke;exact ke) | (apply Wl.alloc;exact rfl;intro c hc ho) | apply Wl.nil | apply St.seq | apply St.block | apply St.region | (apply St.condT;exact rfl;exact ka) | apply St.ret | apply Gt.next | apply Gt.inRet
  have z1 := u1.size
  have zz := hz.upd.size
  have of2 : ∀ k,k < w.heap.size → Off [⟨c,[.int .i64 x.1,strV x.2],78⟩,⟨c1,[.int .i64 x.1,strV x.2],78⟩] k := fun k hk => ⟨by simp only;omega,by simp only;omega,trivial⟩
  have u : Upd (fun k => k = ch) w w' := (hz.upd.comp u1 (T := fun k => k = ch) fun k hk hs => hs.elim (fun y => (y (of k hk)).elim) fun y => y.elim id fun y => (y (of k hk)).elim).comp hp.upd fun k hk hs => hs.elim id fun y => (y (of2 k hk)).elim
  obtain ⟨⟨cap,J,a,b⟩,hch,hj,rr⟩ := hP
  refine .inl ⟨x,r,hl,rfl,⟨⟨cap,J,u.heap a fun e => chan_ne (hch i ch hi) a e.symm,u.heap b fun e => chan_ne (hch i ch hi) b e.symm⟩,fun j c' hj' => ?_,hj,rr⟩,u⟩
  by_cases e : j = i
  ·subst e
   rw [hi] at hj'
   cases hj'
   show ChanB _ _ _ (ite _ _ _)
   rw [if_pos rfl]
   exact hc1.upd hp.upd fun y => y (of2 _ hlc)
  ·show ChanB _ _ _ (ite _ _ _)
   rw [if_neg e]
   exact (hch j c' hj').upd u fun e' => e (hj j i ch (e' ▸ hj') hi)
 ·refine SmN.tail 1 ?_
  simp only [List.drop_succ_cons,List.drop_zero]
  repeat' first | refine Wl.extract rfl rfl rfl ?_ | refine Wl.eql rfl rfl rfl ?_ | apply Wl.nil
  refine GtN.next (StN.of ?_)
  repeat' first | (apply Gt.outCT;exact rfl;infer_instance;exact rfl;exact rfl;exact ke;exact ke;intro w' hp) | refine Wl.assign rfl rfl ?_ | (apply Wl.storeA;exact rfl;exact rfl;exact rfl;exact rfl;exact ke;exact kf) | (apply Wl.buildS;exact rfl;exact ki;exact kc) | apply Wl.nil | apply St.seq | apply St.block | apply St.region | (apply St.condF;exact rfl;exact ka) | apply St.ret | apply Gt.next | apply Gt.inRet
  exact .inr ⟨hl,rfl,Hp.drop (H := [⟨c1,[.int .i64 0,.string ⟨#[]⟩],78⟩]) ⟨hz.upd.trans hp.upd,hp.own,hp.apart⟩ kb⟩
end Go.Proofs.YtabbklpalbikdaaGreatDoor
end
section
namespace Go.Proofs.YtabbklpalbikdaaGreatDoor
open Go.RowKit Go.Pt
theorem row_neT {w : World} {b e sz n c t : Nat} {v : Value} {xs : List Value} {cs : Array Value} (h1 : w.ownsRow b e sz v n xs) (h2 : w.heap[c]? = some (.cells cs t (0,0))) (he : t ≠ e) : ∀ k,v.ownBlock = some k → k ≠ c := row_neB h1 h2 he.symm
theorem MonS.off {w : World} {base : Nat} {I : Mi} {M : Mv2} (k : MonS w base I M) {b t : Nat} {cs : Array Value} (hb : w.heap[b]? = some (.cells cs t (0,0))) :
  (t ≠ 130 → I.m ≠ b) ∧ (t ≠ 133 → I.h ≠ b) ∧ (t ≠ 139 → I.d ≠ b) ∧ (t ≠ 210 → I.wd ≠ b) ∧ (t ≠ 44 → I.sa ≠ b) ∧ (t ≠ 255 → I.pp ≠ b) ∧ (t ≠ 232 → I.pa ≠ b) ∧ (t ≠ 231 → I.bd ≠ b) ∧ (t ≠ 9 → I.ia ≠ b) ∧ (t ≠ 156 → I.cM ≠ b) ∧ (∀ c ∈ I.cs,c ≠ b) ∧ (t ≠ 111 → ∀ c,M.lv.ownBlock = some c → c ≠ b) ∧ (t ≠ 70 → ∀ c,M.seen.ownBlock = some c → c ≠ b) := by
 obtain ⟨⟨wc,J1,wa,wb⟩,_⟩ := k.ward
 obtain ⟨⟨pc,J2,pa,pb⟩,hch,_⟩ := k.post
 obtain ⟨⟨bc,J3,ba,bb⟩,hlv,_⟩ := k.board
 refine ⟨fun h => (blk_ne hb k.mm h).symm,fun h => (blk_ne hb k.hart.2 h).symm,fun h => (blk_ne hb k.dd h).symm,fun h => (blk_ne hb wa h).symm,fun h => (blk_ne hb wb h).symm,fun h => (blk_ne hb pa h).symm,fun h => (blk_ne hb pb h).symm,fun h => (blk_ne hb ba h).symm,fun h => (blk_ne hb bb h).symm,fun h => (blk_ne hb k.mem h).symm,?_,fun h => row_neT hlv hb h,fun h => row_neT k.seen hb h⟩
 intro c hc
 obtain ⟨i,hi⟩ := List.mem_iff_getElem?.1 hc
 exact chan_ne (hch i c hi) hb
section
variable {w w' : World} {base : Nat} {I : Mi} {M : Mv2}
theorem MonS.lts (k : MonS w base I M) : I.m < w.heap.size ∧ I.h < w.heap.size ∧ I.d < w.heap.size ∧ I.wd < w.heap.size ∧ I.sa < w.heap.size ∧ I.pp < w.heap.size ∧ I.pa < w.heap.size ∧ I.bd < w.heap.size ∧ I.ia < w.heap.size ∧ I.cM < w.heap.size ∧ (∀ c ∈ I.cs,c < w.heap.size) ∧ (∀ c,M.lv.ownBlock = some c → c < w.heap.size) ∧ (∀ c,M.seen.ownBlock = some c → c < w.heap.size) :=
 ⟨(k.lt _ (.inl rfl)).2,(k.lt _ (.inr (.inl rfl))).2,(k.lt _ (.inr (.inr (.inl rfl)))).2,k.ward.lt.1,k.ward.lt.2,k.post.lt.1,k.post.lt.2.1,k.board.lt.1,k.board.lt.2.1,lt_of_block k.mem,k.post.lt.2.2,fun c h => (k.board.lt.2.2 c h).2,fun c h => (k.seen.ge c h).2⟩
theorem MonS.set {L' : List Sta} {t' : Int} {sa' : Nat} (k : MonS w base I M) (hW : WardS w' I.wd sa' L' t') (hl : L'.length = M.L.length) (hsa : base ≤ sa') (u : Upd (fun b => b = I.wd ∨ w.heap.size ≤ b) w w') : MonS w' base {I with sa := sa'} {M with L := L',t := t'} := by
 obtain ⟨⟨wc,J1,wa,wb⟩,_⟩ := k.ward
 obtain ⟨n1,n2,n3,n4,n5,n6,n7,n8,n9,n10,n11,n12,n13⟩ := k.off wa
 obtain ⟨l1,l2,l3,l4,l5,l6,l7,l8,l9,l10,l11,l12,l13⟩ := k.lts
 obtain ⟨g1,g2,g3,g4,g5,g6,g7,g8,g9,g10,g11⟩ := k.ge
 exact {
  mm := u.heap k.mm fun h => h.elim (n1 ze) fun h => absurd h (Nat.not_le.2 l1)
  dd := u.heap k.dd fun h => h.elim (n3 ze) fun h => absurd h (Nat.not_le.2 l3)
  ward := hW
  post := k.post.upd u (fun h => h.elim (n6 ze) fun h => absurd h (Nat.not_le.2 l6)) (fun h => h.elim (n7 ze) fun h => absurd h (Nat.not_le.2 l7)) fun c hc h => h.elim (n11 c hc) fun h => absurd h (Nat.not_le.2 (l11 c hc))
  board := k.board.upd u (fun h => h.elim (n8 ze) fun h => absurd h (Nat.not_le.2 l8)) (fun h => h.elim (n9 ze) fun h => absurd h (Nat.not_le.2 l9)) fun c hc h => h.elim (n12 ze c hc) fun h => absurd h (Nat.not_le.2 (l12 c hc))
  mem := u.heap k.mem fun h => h.elim (n10 ze) fun h => absurd h (Nat.not_le.2 l10)
  hart := k.hart.upd u fun h => h.elim (n2 ze) fun h => absurd h (Nat.not_le.2 l2)
  seen := ownsRow_upd k.seen u fun c hc h => h.elim (n13 ze c hc) fun h => absurd h (Nat.not_le.2 (l13 c hc))
  rg := k.rg
  len := ⟨k.len.1.trans hl.symm,k.len.2.trans hl.symm⟩
  ge := ⟨g1,g2,g3,g4,hsa,g6,g7,g8,g9,g10,g11⟩ }
theorem MonS.feed {ins' : List (List UInt8)} (k : MonS w base I M) (hB : BoardS w' base I.bd I.ia M.lv M.ll M.used ins') (hl : ins'.length = M.ins.length) (u : Upd (fun b => b = I.ia) w w') : MonS w' base I {M with ins := ins'} := by
 obtain ⟨⟨bc,J3,ba,bb⟩,hlv,_⟩ := k.board
 obtain ⟨n1,n2,n3,n4,n5,n6,n7,n8,n9,n10,n11,n12,n13⟩ := k.off bb
 exact {
  mm := u.heap k.mm (n1 ze)
  dd := u.heap k.dd (n3 ze)
  ward := k.ward.upd u (n4 ze) (n5 ze)
  post := k.post.upd u (n6 ze) (n7 ze) n11
  board := hB
  mem := u.heap k.mem (n10 ze)
  hart := k.hart.upd u (n2 ze)
  seen := ownsRow_upd k.seen u (n13 ze)
  rg := k.rg
  len := ⟨k.len.1,hl.trans k.len.2⟩
  ge := k.ge }
end
end Go.Proofs.YtabbklpalbikdaaGreatDoor
end
section
namespace Go.Pt
open Go.RowKit
theorem run_copy_off {P : Program} (w : World) {dT sT ty elem : TypeId} {c o n cap m cap' bt : Nat} {a : Addr} {cs xs : List Value} (hu : P.underlying dT = some (.slice elem)) (hs : (P.info? elem).map (·.size) = some 1) (hm : xs.length = m) (hmn : m ≤ n) (hnc : o + n ≤ cs.length)
  (hsrc : ∀ j v,xs[j]? = some v → w.cell? (a.add j) = some v) (hb : w.heap[c]? = some (.cells cs.toArray bt (0,0))) (h1 : ∀ v ∈ xs,v.oneCell' = true) :
  (Builtin.copy_ #[dT,sT] ty #[.slice (some ⟨c,o,none⟩) n cap,.slice (some a) m cap']).run P w = .ok (goInt xs.length) (w.setRow c (cs.take o ++ xs ++ cs.drop (o + xs.length)).toArray) := by
 have hl := run_loadCells_list (P := P) w a xs hsrc
 have hst := run_storeCells_at P c o bt xs 0 cs.toArray w hb zy h1
 simp only [Nat.add_zero] at hst
 have hmin : Nat.min m n = xs.length := by rw [hm];exact Nat.min_eq_left hmn
 cases hq : P.info? elem with
 | none => simp [hq] at hs
 | some i =>
  have hi : i.size = 1 := by simpa [hq] using hs
  simp [Builtin.copy_,run_underlying hu,Builtin.lenOf,Builtin.firstCells,sizeOf,typeInfo,hq,hi,hmin,hl]
  simp at hst
  rw [hst]
  simp
section
variable {P : Program} {md : Md} {N : Nat} {ops : Array Oper} {rest : List Oper} {Γ : Env} {C : World → Prop} {Q : Exit → Act → World → Prop} {d : Nat} {ty : TypeId} {pos : String} {af : Array Edge}
theorem Wl.copyO {w0 : World} {H H' : List Blk} {dT sT e by_ c o n cap bt : Nat} {y : Value} {l : List UInt8} {cs cs' : List Value} {p q : Operand} [ht : TyD P dT (.slice e)] [hz : TyS P e 1 by_]
  (hd : Nat.blt d N = true) (hx : ev Γ p = some (.slice (some ⟨c,o,none⟩) n cap)) (hy : ev Γ q = some y) (hs : HSet c cs cs' bt H H') (he : cs.take o ++ byteCells l ++ cs.drop (o + l.length) = cs') (hl : l.length ≤ n) (hn : o + n ≤ cs.length) (hb : ∀ w,Hp w0 H w → Bs w y l)
  (h : Wl rest P .seq ops N ((d,.int .i64 l.length) :: Γ) (Hp w0 H') Q) : Wl (⟨some d,.call { callee := .builtin .copy,args := #[p,q],argTypes := #[dT,sT] },ty,pos,af,none⟩ :: rest) P .seq ops N Γ (Hp w0 H) Q :=
 Wl.eff fun a w ha hw => by
  subst he
  obtain ⟨ad,cap',rfl,h1,h2⟩ := (hb w hw).shape
  have hsz : (P.info? e).map (·.size) = some 1 := by
   have := hz.out
   cases hq : P.info? e with
   | none => simp [hq] at this
   | some i => simp [hq] at this ⊢;exact this.1
  have hcell := hw.own.at hs.mem
  by_cases hne : l = []
  ·subst hne
   have hr := run_copy_none (P := P) w dT sT ty e (some ⟨c,o,none⟩) ad n cap 0 cap' ht.out hsz (Nat.zero_min n)
   refine ⟨.int .i64 0,w,.inl ?_,h.elim _ _ (ha.put hd _) (hw.hset hs (Upd.refl _ _) ?_)⟩
   ·simp only [execOp,resolve,invoke,builtin,ha.ev hx,ha.ev hy]
    simp [ha.ev hx,ha.ev hy] 
    simp [hr,goInt]
   ·simpa [byteCells] using hcell
  ·obtain ⟨g,og,e',hc'⟩ := (hb w hw).cells hne
   cases e'
   have hr := run_copy_off (P := P) w (dT := dT) (sT := sT) (ty := ty) (elem := e) (c := c) (o := o) (n := n) (cap := cap) (m := l.length) (cap' := cap') (bt := bt) (a := ⟨g,og,none⟩) (cs := cs) (xs := byteCells l) ht.out hsz (byteCells_length l) hl hn (fun j v hj => by
    obtain ⟨h1,h2⟩ := List.getElem?_eq_some_iff.1 hj
    rw [byteCells_length] at h1
    rw [addLit,hc' j h1,← h2]
    simp [byteCells]) hcell (fun v hv => by
    simp only [byteCells,List.mem_map] at hv
    obtain ⟨b,_,rfl⟩ := hv
    rfl)
   rw [byteCells_length] at hr
   refine ⟨.int .i64 l.length,w.setRow c (cs.take o ++ byteCells l ++ cs.drop (o + l.length)).toArray,.inl ?_,h.elim _ _ (ha.put hd _) (hw.hset hs ⟨rfl,rfl,rfl,by simp,fun k hk hne => ?_⟩ ?_)⟩
   ·simp only [execOp,resolve,invoke,builtin,ha.ev hx,ha.ev hy]
    simp [ha.ev hx,ha.ev hy]
    simp [hr,goInt]
   ·exact setRow_other w c k _ hne
   ·exact setRow_heap w c _ _ bt _ hcell
theorem Wl.sliceArr3 {t e sz by_ n : TypeId} {x lo hi : Operand} {b o : Nat} {k k' : IntKind} {i j : Int} (l h' : Nat) [ht : TyD P t (.array n e)] [TyS P e sz by_] (hd : Nat.blt d N = true) (hx : ev Γ x = some (.pointer (some ⟨b,o,none⟩))) (hlo : ev Γ lo = some (.int k i)) (hhi : ev Γ hi = some (.int k' j)) (ei : i = (l : Int)) (ej : j = (h' : Int)) (h1 : l ≤ h') (h2 : h' ≤ n) (h3 : l < n)
  (h : Wl rest P md ops N ((d,.slice (some ⟨b,o + l * sz,none⟩) (h' - l) (n - l)) :: Γ) C Q) : Wl (⟨some d,.slice t x (some lo) (some hi) none,ty,pos,af,none⟩ :: rest) P md ops N Γ C Q :=
 Wl.val hd (fun a w ha _ => by
  subst ei ej
  have e1 : ∀ c,(Instr.sliceBound (.int k (l : Int)) h' c).run P w = .ok l w := fun c => by
   simp only [Instr.sliceBound,asIntOf,pure_bind]
   rw [if_pos ky]
   simp
  have e2 : ∀ c,(Instr.sliceBound (.int k' (h' : Int)) n c).run P w = .ok h' w := fun c => by
   simp only [Instr.sliceBound,asIntOf,pure_bind]
   rw [if_pos ky]
   simp
  have hnl : ¬ n = l := Nat.ne_of_gt h3
  simp [execOp,ha.ev hx,ha.ev hlo,ha.ev hhi,Instr.sliceAt,run_underlying ht.out,Instr.sureAddr,Instr.sliceBounds,e1,e2,run_size (P := P) (t := e),Addr.add,hnl]) h
theorem Wl.sliceArr1 {t e sz by_ n : TypeId} {x lo : Operand} {b o : Nat} {k : IntKind} {i : Int} (l : Nat) [ht : TyD P t (.array n e)] [TyS P e sz by_] (hd : Nat.blt d N = true) (hx : ev Γ x = some (.pointer (some ⟨b,o,none⟩))) (hlo : ev Γ lo = some (.int k i)) (ei : i = (l : Int)) (h3 : l < n)
  (h : Wl rest P md ops N ((d,.slice (some ⟨b,o + l * sz,none⟩) (n - l) (n - l)) :: Γ) C Q) : Wl (⟨some d,.slice t x (some lo) none none,ty,pos,af,none⟩ :: rest) P md ops N Γ C Q :=
 Wl.val hd (fun a w ha _ => by
  subst ei
  have e1 : ∀ c,(Instr.sliceBound (.int k (l : Int)) n c).run P w = .ok l w := fun c => by
   simp only [Instr.sliceBound,asIntOf,pure_bind]
   rw [if_pos ky]
   simp
  have hnl : ¬ n = l := Nat.ne_of_gt h3
  simp [execOp,ha.ev hx,ha.ev hlo,Instr.sliceAt,run_underlying ht.out,Instr.sureAddr,Instr.sliceBounds,e1,run_size (P := P) (t := e),Addr.add,hnl]) h
end
end Go.Pt
namespace Go.Proofs.YtabbklpalbikdaaGreatDoor
open Go.RowKit Go.Pt
def FB (f : Nat → Int) : Prop := ∀ j,0 ≤ f j ∧ f j < 256
def memL (f : Nat → Int) (o n : Nat) : List UInt8 := (List.range n).map fun j => UInt8.ofNat (f (o + j)).toNat
theorem memL_len (f : Nat → Int) (o n : Nat) : (memL f o n).length = n := by simp [memL]
theorem memL_cells {f : Nat → Int} (hf : FB f) (o n j : Nat) (hj : j < n) : (byteCells (memL f o n))[j]? = some (.int .u8 (f (o + j))) := by
 have h := hf (o + j)
 simp only [byteCells,memL,List.map_map,List.getElem?_map,List.getElem?_range hj,Option.map_some,Function.comp]
 rw [show ((UInt8.ofNat (f (o + j)).toNat).toNat : Int) = f (o + j) by
  rw [UInt8.toNat_ofNat']
  omega]
def putF (f : Nat → Int) (o : Nat) (l : List UInt8) : Nat → Int := fun j => if o ≤ j then (match l[j - o]? with | some b => (b.toNat : Int) | none => f j) else f j
theorem putF_cells (f : Nat → Int) (o : Nat) (l : List UInt8) (h : o + l.length ≤ 65536) : (memC f).take o ++ byteCells l ++ (memC f).drop (o + l.length) = memC (putF f o l) := by
 apply List.ext_getElem?
 intro j
 by_cases hj : j < 65536
 ·rw [memC_get hj]
  by_cases h1 : j < o
  ·rw [List.append_assoc,List.getElem?_append_left (by rw [List.length_take,memC_len];omega),List.getElem?_take,if_pos h1,memC_get hj,putF,if_neg ky]
  ·by_cases h2 : j < o + l.length
   ·rw [List.getElem?_append_left (by rw [List.length_append,List.length_take,memC_len,byteCells_length];omega),List.getElem?_append_right (by rw [List.length_take,memC_len];omega),List.length_take,memC_len,show min o 65536 = o by omega]
    rw [putF,if_pos ky]
    obtain ⟨b,hb⟩ : ∃ b,l[j - o]? = some b := ⟨_,List.getElem?_eq_getElem ky⟩
    rw [hb]
    simp [byteCells,hb]
   ·rw [List.getElem?_append_right (by rw [List.length_append,List.length_take,memC_len,byteCells_length];omega),List.getElem?_drop,List.length_append,List.length_take,memC_len,byteCells_length,show o + l.length + (j - (min o 65536 + l.length)) = j by omega,memC_get hj,putF,if_pos ky,List.getElem?_eq_none ky]
 ·rw [List.getElem?_eq_none (by simp only [List.length_append,List.length_take,List.length_drop,memC_len,byteCells_length];omega),List.getElem?_eq_none (by rw [memC_len];omega)]
theorem putF_FB {f : Nat → Int} (hf : FB f) (o : Nat) (l : List UInt8) : FB (putF f o l) := fun j => by
 unfold putF
 split
 ·split
  ·rename_i b _
   have := b.toNat_lt
   omega
  ·exact hf j
 ·exact hf j
set_option maxHeartbeats 4000000 in
theorem mgetX (c : Nat) (f : Nat → Int) (at_ n : Int) (w : World) (hc : memH w c f) (hf : FB f) (ha : 0 ≤ at_ ∧ at_ < 4294967296) (hn : 1 ≤ n ∧ n < 4294967296) (hi : inM at_ n) :
  Calls Tryz.prog 24 #[.pointer (some ⟨c,0,none⟩),.int .u32 at_,.int .u32 n] w fun e w' => ∃ v,e = .returned (.tuple #[v,.int .i64 0]) ∧ Bs w' v (memL f (at_ - 2147483648).toNat n.toNat) ∧ (∀ k,v.ownBlock = some k → w.heap.size ≤ k) ∧ Upd (fun k => w.heap.size ≤ k) w w' := by
 unfold memH at hc
 obtain ⟨i1,i2⟩ := id hi
 have hd : decide (2147483648 ≤ at_ ∧ at_ + n ≤ 2147483648 + 65536) = true := decide_eq_true hi
 have hd2 : (!decide (2147483648 ≤ at_ ∧ at_ + n ≤ 2147483648 + 65536)) = false := by rw [hd];rfl
 obtain ⟨o,ho⟩ : ∃ o : Nat,at_ = 2147483648 + o := ⟨(at_ - 2147483648).toNat,by omega⟩
 obtain ⟨m,hm⟩ : ∃ m : Nat,n = m := ⟨n.toNat,by omega⟩
 subst ho hm
 rw [show (2147483648 + (o : Int) - 2147483648).toNat = o by omega,Int.toNat_natCast]
 have e1 : IntKind.u32.wrap (2147483648 + (o : Int) - 2147483648) = (o : Int) := by rw [IntKind.wrap_u32];omega
 have e2 : IntKind.u32.wrap ((o : Int) + (m : Int)) = ((o + m : Nat) : Int) := by rw [IntKind.wrap_u32];omega
 have hl : (byteCells (memL f o m)).length = m * 1 := by rw [byteCells_length,memL_len,Nat.mul_one]
 refine enter (args := [_,_,_]) (Γ := [(0,_),(1,_),(2,_)]) Tryz.func24 Tryz.ntmps24 rfl (of_decide_eq_true rfl) (.cons rfl (.cons rfl (.cons rfl .nil))) ?_
 repeat' first | refine Wl.move rfl rfl ?_ | refine Wl.assign rfl rfl ?_ | apply Wl.nil | apply St.seq | apply St.region | apply Gt.next
 apply Wl.callQ
 exact rfl
 (focus repeat constructor)
 ·intro wq hq
  exact hq.q (has_any c (2147483648 + (o : Int)) m wq ha ky)
 repeat' first | (apply Wl.sliceArr3 o (o + m);exact rfl;exact rfl;exact rfl;exact rfl;exact e1;(first | exact e2 | (rw [e1];exact e2));omega;omega;omega) | refine Wl.move rfl rfl ?_ | refine Wl.nilCheck rfl rfl ?_ | refine Wl.not rfl rfl ?_ | refine Wl.fieldAddr0 rfl rfl ?_ | refine Wl.add rfl rfl rfl ?_ | refine Wl.sub' rfl rfl rfl ?_ | apply Wl.nil | apply St.seq | apply St.region | (apply St.condF;exact rfl;exact ka) | apply St.skip | apply Gt.next
 apply Wl.append (base := w.heap.size) (n := 0) (xs := []) (news := byteCells (memL f o m)) (v := .slice none 0 0)
 ·exact rfl
 ·exact rfl
 ·exact rfl
 ·exact World.ownsRow_nil w _ _ _
 ·rw [byteCells_length,memL_len];omega
 ·intro wq hq j u hj
  have hjm : j < m := by have := (List.getElem?_eq_some_iff.1 hj).1;rw [byteCells_length,memL_len] at this;exact this
  rw [memL_cells hf o m j hjm] at hj
  cases hj
  rw [addLit]
  exact hq.old (cell_of hc (by rw [Nat.zero_add,Nat.mul_one];exact memC_get ky)) trivial
 ·exact fun k hk => by cases hk
 ·rw [List.all_eq_true]
  intro v hv
  simp only [byteCells,List.mem_map] at hv
  obtain ⟨b,_,rfl⟩ := hv
  rfl
 ·exact rfl
 ·decide
 ·unfold maxLen;omega
 ·omega
 ·exact Nat.le_refl _
 intro v1 w1 h1 u1 h3 h4
 have g1 := h1.ge
 have b1 : Bs w1 v1 (memL f o m) := by
  have h := Sv.ofOwn h1
  rw [List.nil_append,Nat.zero_add,show o + m - o = m by omega] at h
  unfold Bs
  rw [memL_len]
  exact h
 repeat' first | refine Wl.assign rfl rfl ?_ | apply Wl.nil | apply St.ret | apply Gt.next | (apply Gt.out2;exact rfl;exact rfl;exact rfl;intro w' hp)
 have hu1 : Upd (fun k => w.heap.size ≤ k) w w1 := u1.mono fun k _ hk => hk.elim (fun e => by cases e) fun y => absurd trivial y
 exact ⟨v1,rfl,b1.upd hp.upd fun k _ _ _ y => y trivial,fun k hk => (g1 k hk).1,hu1.comp hp.upd fun k hk hs => hs.elim id fun y => absurd trivial y⟩
set_option maxHeartbeats 4000000 in
theorem mputX1 (c : Nat) (f : Nat → Int) (at_ : Int) (v : Value) (l : List UInt8) (w : World) (hc : memH w c f) (hv : Bs w v l) (hvc : ∀ k,v.ownBlock = some k → l ≠ [] → k ≠ c) (ha : 0 ≤ at_ ∧ at_ < 4294967296) (hi : inM at_ l.length) (ho1 : at_ < 2147483648 + 65536) :
  Calls Tryz.prog 53 #[.pointer (some ⟨c,0,none⟩),.int .u32 at_,v] w fun e w' => e = .returned (.int .i64 0) ∧ memH w' c (putF f (at_ - 2147483648).toNat l) ∧ Upd (fun k => k = c) w w' := by
 unfold memH at hc
 obtain ⟨i1,i2⟩ := id hi
 obtain ⟨ad,cap,rfl,hs1,hs2⟩ := hv.shape
 have hd : decide (2147483648 ≤ at_ ∧ at_ + (l.length : Int) ≤ 2147483648 + 65536) = true := decide_eq_true hi
 have hd2 : (!decide (2147483648 ≤ at_ ∧ at_ + (l.length : Int) ≤ 2147483648 + 65536)) = false := by rw [hd];rfl
 obtain ⟨o,ho⟩ : ∃ o : Nat,at_ = 2147483648 + o := ⟨(at_ - 2147483648).toNat,by omega⟩
 subst ho
 rw [show (2147483648 + (o : Int) - 2147483648).toNat = o by omega]
 have e0 : IntKind.u64.wrap (l.length : Int) = (l.length : Int) := by rw [IntKind.wrap_u64];omega
 have e3 : IntKind.u32.wrap (l.length : Int) = (l.length : Int) := by rw [IntKind.wrap_u32];omega
 have hd0 : decide ((l.length : Int) > 65536) = false := decide_eq_false ky
 have e1 : IntKind.u32.wrap (2147483648 + (o : Int) - 2147483648) = (o : Int) := by rw [IntKind.wrap_u32];omega
 refine enter (args := [_,_,_]) (Γ := [(0,_),(1,_),(2,_)]) Tryz.func53 Tryz.ntmps53 rfl (of_decide_eq_true rfl) (.cons rfl (.cons rfl (.cons rfl .nil))) ?_
 repeat' first | refine Wl.move rfl rfl ?_ | refine Wl.assign rfl rfl ?_ | (apply Wl.on;exact rfl;exact rfl;exact ka) | refine Wl.gtr rfl rfl rfl ?_ | (refine Wl.convU64 rfl rfl ?_ ?_;constructor <;> omega) | (refine Wl.convU32 rfl rfl ?_ ?_;constructor <;> omega) | refine Wl.len rfl rfl ?_ | apply Wl.nil | apply St.seq | apply St.region | apply Gt.next
 apply Wl.callQ
 exact rfl
 (focus repeat constructor)
 ·intro wq hq
  exact hq.q (has_any c (2147483648 + (o : Int)) l.length wq ha ky)
 repeat' first | (apply Wl.sliceArr1 o;exact rfl;exact rfl;exact rfl;exact e1;omega) | refine Wl.move rfl rfl ?_ | (apply Wl.on;exact rfl;exact rfl;exact ka) | refine Wl.nilCheck rfl rfl ?_ | (apply Wl.pickF;exact rfl;exact rfl;exact ka;exact rfl) | refine Wl.not rfl rfl ?_ | refine Wl.fieldAddr0 rfl rfl ?_ | refine Wl.sub' rfl rfl rfl ?_ | apply Wl.nil | apply St.seq | apply St.region | (apply St.condF;exact rfl;exact ka) | apply St.skip | apply Gt.next
 refine Wl.cls (fun _ h' => Hp.open h' hc trivial) ?_
 apply Wl.copyO (l := l) (cs' := memC (putF f o l))
 ·exact rfl
 ·exact rfl
 ·exact rfl
 ·repeat constructor
 ·rw [show 0 + o * 1 = o by omega];exact putF_cells f o l ky
 ·omega
 ·rw [memC_len];omega
 ·exact fun wq hq => hv.upd hq.upd fun k hk _ hne y => y ⟨fun e => hvc k hk hne e.symm,trivial⟩
 repeat' first | refine Wl.assign rfl rfl ?_ | apply Wl.nil | apply St.seq | apply St.region | apply St.ret | apply Gt.next | (apply Gt.out1;exact rfl;exact rfl;intro w' hp)
 exact ⟨rfl,hp.own.at (.head _),Hp.turned hp⟩
theorem mputX (c : Nat) (f : Nat → Int) (at_ : Int) (v : Value) (l : List UInt8) (w : World) (hc : memH w c f) (hv : Bs w v l) (hvc : ∀ k,v.ownBlock = some k → k ≠ c) (ha : 0 ≤ at_ ∧ at_ < 4294967296) (hi : inM at_ l.length) (ho1 : at_ < 2147483648 + 65536) :
  Calls Tryz.prog 53 #[.pointer (some ⟨c,0,none⟩),.int .u32 at_,v] w fun e w' => e = .returned (.int .i64 0) ∧ memH w' c (putF f (at_ - 2147483648).toNat l) ∧ Upd (fun k => k = c) w w' := mputX1 c f at_ v l w hc hv (fun k hk _ => hvc k hk) ha hi ho1
end Go.Proofs.YtabbklpalbikdaaGreatDoor
end
