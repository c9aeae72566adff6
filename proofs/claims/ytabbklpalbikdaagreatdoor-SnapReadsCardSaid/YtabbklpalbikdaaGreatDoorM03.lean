/-
 11 texts,one behind the other;each says what it proves. Conditions: as each text says.
-/
import Derived.Test.YtabbklpalbikdaaGreatDoorM02
set_option maxHeartbeats 32000000
set_option linter.unusedVariables false
set_option linter.unusedSimpArgs false
section
namespace Go.Proofs.YtabbklpalbikdaaGreatDoor
open Go.RowKit Go.Pt
def getC (c : Cu) (most : Nat) : (List UInt8 × Bool) × Cu :=
 if most < (c.u 2).1 then (([],false),(c.u 2).2) else ((((c.u 2).2.take (c.u 2).1).1,!((c.u 2).2.take (c.u 2).1).2.bad),((c.u 2).2.take (c.u 2).1).2)
theorem getC_len (c : Cu) (most : Nat) : (getC c most).1.1.length ≤ most := by
 unfold getC
 split
 ·exact Nat.zero_le _
 ·have := cTake_len (c.u 2).2.l (c.u 2).2.bad (c.u 2).1
  show (cTake (c.u 2).2.l (c.u 2).2.bad (c.u 2).1).1.length ≤ most
  omega
theorem sGet (c : Nat) (src : Value) (all : List UInt8) (cu : Cu) (most : Nat) (w : World) (h : CurS w c src all cu) :
  Calls Tryz.prog 141 #[.pointer (some ⟨c,0,none⟩),.int .i64 (most : Int)] w fun e w' => e = .returned (.tuple #[strV (getC cu most).1.1,.bool (getC cu most).1.2]) ∧ CurS w' c src all (getC cu most).2 ∧ Upd (fun k => k = c) w w' := by
 refine enter (args := [_,_]) (Γ := [(0,_),(1,_)]) Tryz.func141 Tryz.ntmps141 rfl odq (.cons rfl (.cons rfl .nil)) ?_
 repeat' first | refine Wl.move rfl rfl ?_ | refine Wl.assign rfl rfl ?_ | apply Wl.nil | apply St.seq | apply St.region | apply Gt.next
 apply Wl.callC
 ·exact rfl
 ·exact kd
 intro wq hq
 have hq0 := h.upd hq.upd nt0 (fun _ _ _ _ y => y trivial)
 refine (cuU16 c src all cu wq hq0).mono ?_
 rintro e w1 ⟨rfl,h1,u1⟩
 have v1 : Upd (fun k => k = c) w w1 := (hq.upd.mono fun _ _ y => (y trivial).elim).comp u1 fun k _ h => h.elim id id
 refine ⟨_,_,rfl,Hp.start w1,?_⟩
 by_cases hm : most < (cu.u 2).1
 ·have hd : decide ((((cu.u 2).1 : Nat) : Int) > (most : Int)) = true := decide_eq_true kc
  have e : getC cu most = (([],false),(cu.u 2).2) := if_pos hm
  rw [e]
  repeat' first | refine Wl.move rfl rfl ?_ | refine Wl.assign rfl rfl ?_ | refine Wl.gtr rfl rfl rfl ?_ | apply Wl.nil | apply St.seq | apply St.region | (apply St.condT;exact rfl;exact k5) | apply St.ret | apply Gt.next | apply Gt.thenRet | (apply Gt.out2;exact rfl;exact rfl;exact rfl;intro w' hp)
  exact ⟨rfl,h1.upd hp.upd nt0 (fun _ _ _ _ y => y trivial),v1.comp hp.upd fun k _ h => h.elim id fun y => (y trivial).elim⟩
 ·have hd : decide ((((cu.u 2).1 : Nat) : Int) > (most : Int)) = false := decide_eq_false kc
  have e : getC cu most = ((((cu.u 2).2.take (cu.u 2).1).1,!((cu.u 2).2.take (cu.u 2).1).2.bad),((cu.u 2).2.take (cu.u 2).1).2) := if_neg hm
  rw [e]
  repeat' first | refine Wl.move rfl rfl ?_ | refine Wl.assign rfl rfl ?_ | refine Wl.gtr rfl rfl rfl ?_ | apply Wl.nil | apply St.seq | apply St.region | (apply St.condF;exact rfl;exact k5) | apply St.skip | apply Gt.next
  apply Wl.callC
  ·exact rfl
  ·exact kd
  intro wq2 hq2
  have hq0' := h1.upd hq2.upd nt0 (fun _ _ _ _ y => y trivial)
  refine (cuTake c src all (cu.u 2).2 wq2 ((cu.u 2).1 : Int) hq0').mono ?_
  rintro e w2 ⟨x,rfl,hx,h2,u2⟩
  have v2 : Upd (fun k => k = c) w w2 := (v1.comp hq2.upd (T := fun k => k = c) fun k _ h => h.elim id fun y => (y trivial).elim).comp u2 fun k _ h => h.elim id id
  have hxb := hx w2 h2.s
  refine ⟨_,_,rfl,Hp.start w2,?_⟩
  repeat' first | (apply Wl.convBSo;exact rfl;exact rfl;exact hxb;exact (fun _ _ _ _ => trivial)) | refine Wl.move rfl rfl ?_ | refine Wl.assign rfl rfl ?_ | apply Wl.nil | apply St.seq | apply St.region | apply Gt.next
  apply Wl.callQ
  exact rfl
  (focus repeat constructor)
  ·intro wq hq
   exact hq.q (cuBad c src all _ wq (h2.upd hq.upd nt0 (fun _ _ _ _ y => y trivial)))
  repeat' first | refine Wl.assign rfl rfl ?_ | refine Wl.not rfl rfl ?_ | apply Wl.nil | apply St.ret | apply Gt.next | (apply Gt.out2;exact rfl;exact rfl;exact rfl;intro w' hp)
  exact ⟨rfl,h2.upd hp.upd nt0 (fun _ _ _ _ y => y trivial),v2.comp hp.upd fun k _ h => h.elim id fun y => (y trivial).elim⟩
def unpC : Nat → Nat → (Nat → Int) → Cu → Option ((Nat → Int) × Cu)
 | 0,at_,f,c => if at_ < 65536 then none else some (f,c)
 | m + 1,at_,f,c => if at_ < 65536 then
   (if (c.u 4).1 ≤ 65536 - at_ ∧ ((c.u 4).2.u 4).1 ≤ 65536 - at_ - (c.u 4).1 ∧ ((c.u 4).2.u 4).2.bad = false ∧ (c.u 4).1 + ((c.u 4).2.u 4).1 ≠ 0 then
    (if (((c.u 4).2.u 4).2.take (((c.u 4).2.u 4).1 : Int)).2.bad = false then
     unpC m (at_ + (c.u 4).1 + ((c.u 4).2.u 4).1) (putF f (at_ + (c.u 4).1) (((c.u 4).2.u 4).2.take (((c.u 4).2.u 4).1 : Int)).1) (((c.u 4).2.u 4).2.take (((c.u 4).2.u 4).1 : Int)).2
    else none)
   else none)
  else some (f,c)
section
variable {P : Program} {md : Md} {N : Nat} {ops : Array Oper} {rest : List Oper} {Γ : Env} {C : World → Prop} {Q : Exit → Act → World → Prop} {d : Nat} {ty : TypeId} {pos : String} {af : Array Edge} {t u : TypeId} {x y : Operand} {k : IntKind} {m n z : Int}
theorem Wl.subIs (hz : k.wrap (m - n) = z) (hd : Nat.blt d N = true) (hx : ev Γ x = some (.int k m)) (hy : ev Γ y = some (.int k n)) (h : Wl rest P md ops N ((d,.int k z) :: Γ) C Q) : Wl (⟨some d,.binOp .sub t x y u,ty,pos,af,none⟩ :: rest) P md ops N Γ C Q := by
 subst hz
 exact Wl.sub' hd hx hy h
theorem Wl.addIs (hz : k.wrap (m + n) = z) (hd : Nat.blt d N = true) (hx : ev Γ x = some (.int k m)) (hy : ev Γ y = some (.int k n)) (h : Wl rest P md ops N ((d,.int k z) :: Γ) C Q) : Wl (⟨some d,.binOp .add t x y u,ty,pos,af,none⟩ :: rest) P md ops N Γ C Q := by
 subst hz
 exact Wl.add hd hx hy h
end
theorem Cu.take_len {c : Cu} {k : Nat} (h : (c.take (k : Int)).2.bad = false) : (c.take (k : Int)).1.length = k := by
 unfold Cu.take cTake at h ⊢
 dsimp only at h ⊢
 split at h
 ·cases h
 ·rename_i hn
  rw [if_neg hn]
  simp only [not_or] at hn
  rw [List.length_take]
  omega
theorem bs_in {w : World} {v : Value} {l : List UInt8} (h : Bs w v l) (hne : l ≠ []) : ∀ k,v.ownBlock = some k → k < w.heap.size := by
 obtain ⟨a,cap,rfl,_,_⟩ := h.shape
 obtain ⟨b,off,rfl,hc⟩ := h.cells hne
 intro k hk
 cases hk
 exact World.block_lt_of_cell? w _ (hc 0 (by cases l with | nil => exact (hne rfl).elim | cons x r => simp))
theorem putF_nil (f : Nat → Int) (o : Nat) : putF f o [] = f := by funext j;simp [putF]
theorem sUnpack (c : Nat) (src : Value) (all : List UInt8) (cu : Cu) (w : World) (h : CurS w c src all cu) (hsrc : ∀ k,src.ownBlock = some k → all ≠ [] → k < w.heap.size) :
  Calls Tryz.prog 143 #[.pointer (some ⟨c,0,none⟩)] w fun e w' => Upd (fun k => k = c ∨ w.heap.size ≤ k) w w' ∧
   ((unpC 65536 0 (fun _ => 0) cu = none ∧ e = .returned (.tuple #[.pointer none,.bool false])) ∨ ∃ f cu' d,unpC 65536 0 (fun _ => 0) cu = some (f,cu') ∧ w.heap.size ≤ d ∧ e = .returned (.tuple #[.pointer (some ⟨d,0,none⟩),.bool (!cu'.bad && decide (cu'.l = []))]) ∧ memH w' d f) := by
 have lc := h.lt
 have hs0 := h.s
 generalize hR0 : unpC 65536 0 (fun _ => 0) cu = R
 refine enter (args := [_]) (Γ := [(0,_)]) Tryz.func143 Tryz.ntmps143 rfl odq (.cons rfl .nil) ?_
 repeat' first | refine Wl.assign rfl rfl ?_ | apply Wl.nil | apply St.seq | apply St.region | apply Gt.next
 apply Wl.callC
 ·exact rfl
 ·exact kd
 intro wq hq
 refine (newMem wq).mono ?_
 rintro e w1 ⟨d,rfl,hp1,hd1⟩
 have zq := hq.upd.size
 have u1 : Upd (fun k => k = c ∨ w.heap.size ≤ k) w w1 := (hq.upd.mono fun _ _ y => (y trivial).elim).comp (Hp.turned hp1) fun k _ h => h.elim id fun h => .inr kc
 have hm1 : memH w1 d fun _ => 0 := hp1.own.at (.head _)
 have h1 : CurS w1 c src all cu := (h.upd hq.upd nt0 (fun _ _ _ _ y => y trivial)).new (hp1.on (Upd.refl _ _) q9)
 refine ⟨_,_,rfl,Hp.start w1,?_⟩
 clear hq hp1 h
 repeat' first | refine Wl.assign rfl rfl ?_ | apply Wl.nil | apply St.seq | apply St.block | apply St.region | apply Gt.next
 refine St.loop (σ := Nat × Nat × (Nat → Int) × Cu × World) (fun τ => (τ.2.1 ≤ 65536 ∧ 65536 ≤ τ.1 + τ.2.1) ∧ unpC τ.1 τ.2.1 τ.2.2.1 τ.2.2.2.1 = R ∧ CurS τ.2.2.2.2 c src all τ.2.2.2.1 ∧ memH τ.2.2.2.2 d τ.2.2.1 ∧ Upd (fun k => k = c ∨ w.heap.size ≤ k) w τ.2.2.2.2)
  (fun τ => [(0,.pointer (some ⟨c,0,none⟩)),(4,.pointer (some ⟨d,0,none⟩)),(5,.int .u32 (τ.2.1 : Int))]) (fun τ => Hp τ.2.2.2.2 []) (fun τ => 65536 - τ.2.1) (65536,0,fun _ => 0,cu,w1) ⟨⟨Nat.zero_le _,Nat.le_refl _⟩,hR0,h1,hm1,u1⟩ kq (fun _ h => h) ?_
 clear hR0 h1 hm1 u1
 rintro ⟨m,o,f,cu,w2⟩ ⟨⟨ho,hmo⟩,hR,hC,hm,u2⟩
 simp only at ho hmo hR hC hm u2 ⊢
 have z2 := u2.size
 by_cases hlt : o < 65536
 rotate_left
 ·have hd0 : decide ((o : Int) < 65536) = false := decide_eq_false kc
  have hR' : R = some (f,cu) := by
   rw [← hR]
   cases m <;> (unfold unpC;rw [if_neg hlt])
  repeat' first | refine Wl.move rfl rfl ?_ | refine Wl.lss rfl rfl rfl ?_ | apply Wl.nil | apply St.seq | apply St.region | (apply St.condF;exact rfl;exact k5) | apply St.exit | apply Gt.next | apply Gt.thenExit | apply Gt.inExit
  apply Wl.callQ
  exact rfl
  (focus repeat constructor)
  ·intro wq hq
   exact hq.q (cuEnd c src all cu wq (hC.upd hq.upd nt0 (fun _ _ _ _ y => y trivial)))
  repeat' first | refine Wl.assign rfl rfl ?_ | apply Wl.nil | apply St.ret | apply Gt.next | (apply Gt.out2;exact rfl;exact rfl;exact rfl;intro w' hp)
  exact ⟨u2.comp hp.upd fun k _ h => h.elim id fun y => (y trivial).elim,.inr ⟨f,cu,d,hR',by omega,rfl,hp.upd.heap hm fun y => y trivial⟩⟩
 have hd0 : decide ((o : Int) < 65536) = true := decide_eq_true kc
 obtain ⟨m,rfl⟩ : ∃ m',m = m' + 1 := ⟨m - 1,by omega⟩
 have hn1 := (cu.u 4).2.u_lt 4 kc
 have hn0 := cu.u_lt 4 kc
 unfold unpC at hR
 rw [if_pos hlt] at hR
 repeat' first | refine Wl.move rfl rfl ?_ | refine Wl.lss rfl rfl rfl ?_ | apply Wl.nil | apply St.seq | apply St.block | apply St.region | (apply St.condT;exact rfl;exact k5) | apply St.skip | apply Gt.next
 apply Wl.callC
 ·exact rfl
 ·exact kd
 intro wq hq
 refine (cuU32 c src all cu wq (hC.upd hq.upd nt0 (fun _ _ _ _ y => y trivial))).mono ?_
 rintro e w3 ⟨rfl,h3,u3⟩
 have U3 : Upd (fun k => k = c) w2 w3 := (hq.upd.mono fun _ _ y => (y trivial).elim).comp u3 fun k _ h => h.elim id id
 refine ⟨_,_,rfl,Hp.start w3,?_⟩
 clear hq u3
 repeat' first | refine Wl.move rfl rfl ?_
 apply Wl.callC
 ·exact rfl
 ·exact kd
 intro wq hq
 refine (cuU32 c src all _ wq (h3.upd hq.upd nt0 (fun _ _ _ _ y => y trivial))).mono ?_
 rintro e w4 ⟨rfl,h4,u4⟩
 have U4 : Upd (fun k => k = c) w2 w4 := (U3.comp hq.upd (T := fun k => k = c) fun k _ h => h.elim id fun y => (y trivial).elim).comp u4 fun k _ h => h.elim id id
 refine ⟨_,_,rfl,Hp.start w4,?_⟩
 clear hq u4 U3 h3
 generalize hcu1 : (cu.u 4).2 = cu1 at *
 generalize hn : (cu.u 4).1 = n at *
 generalize hcu2 : (cu1.u 4).2 = cu2 at *
 generalize hk : (cu1.u 4).1 = k at *
 have V4 : Upd (fun k => k = c ∨ w.heap.size ≤ k) w w4 := u2.comp U4 fun k _ h => h.elim id .inl
 have hdc : d ≠ c := by omega
 have hm4 : memH w4 d f := U4.heap hm hdc
 have hs1 : IntKind.u32.wrap (65536 - (o : Int)) = ((65536 - o : Nat) : Int) := by rw [IntKind.wrap_u32];omega
 by_cases c1 : n ≤ 65536 - o
 rotate_left
 ·have dA : decide (((n : Nat) : Int) > ((65536 - o : Nat) : Int)) = true := decide_eq_true kc
  repeat' first | (apply Wl.subIs hs1;exact rfl;exact rfl;exact rfl) | refine Wl.move rfl rfl ?_ | refine Wl.assign rfl rfl ?_ | (apply Wl.off;exact rfl;exact rfl;exact rfl;exact kh) | (apply Wl.pickT;exact rfl;exact rfl;exact k5;exact rfl) | refine Wl.gtr rfl rfl rfl ?_ | apply Wl.nil | apply St.seq | apply St.region | (apply St.condT;exact rfl;exact k5) | apply St.ret | apply Gt.next | apply Gt.thenRet | apply Gt.inRet | (apply Gt.out2;exact rfl;exact rfl;exact rfl;intro w' hp)
  exact ⟨V4.comp hp.upd fun k _ h => h.elim id fun y => (y trivial).elim,.inl ⟨by rw [← hR,if_neg fun h => c1 h.1],rfl⟩⟩
 have dA : decide (((n : Nat) : Int) > ((65536 - o : Nat) : Int)) = false := decide_eq_false kc
 have hs2 : IntKind.u32.wrap (((65536 - o : Nat) : Int) - (n : Int)) = ((65536 - o - n : Nat) : Int) := by rw [IntKind.wrap_u32];omega
 by_cases c2 : k ≤ 65536 - o - n
 rotate_left
 ·have dB : decide (((k : Nat) : Int) > ((65536 - o - n : Nat) : Int)) = true := decide_eq_true kc
  repeat' first | (apply Wl.subIs hs1;exact rfl;exact rfl;exact rfl) | (apply Wl.subIs hs2;exact rfl;exact rfl;exact rfl) | refine Wl.move rfl rfl ?_ | refine Wl.assign rfl rfl ?_ | (apply Wl.on;exact rfl;exact rfl;exact k5) | (apply Wl.off;exact rfl;exact rfl;exact rfl;exact kh) | (apply Wl.pickT;exact rfl;exact rfl;exact k5;exact rfl) | (apply Wl.pickF;exact rfl;exact rfl;exact k5;exact rfl) | refine Wl.gtr rfl rfl rfl ?_ | apply Wl.nil | apply St.seq | apply St.region | (apply St.condT;exact rfl;exact k5) | apply St.ret | apply Gt.next | apply Gt.thenRet | apply Gt.inRet | (apply Gt.out2;exact rfl;exact rfl;exact rfl;intro w' hp)
  exact ⟨V4.comp hp.upd fun k _ h => h.elim id fun y => (y trivial).elim,.inl ⟨by rw [← hR,if_neg fun h => c2 h.2.1],rfl⟩⟩
 have dB : decide (((k : Nat) : Int) > ((65536 - o - n : Nat) : Int)) = false := decide_eq_false kc
 have hs3 : IntKind.u32.wrap ((n : Int) + (k : Int)) = ((n + k : Nat) : Int) := by rw [IntKind.wrap_u32];omega
 repeat' first | (apply Wl.subIs hs1;exact rfl;exact rfl;exact rfl) | (apply Wl.subIs hs2;exact rfl;exact rfl;exact rfl) | refine Wl.move rfl rfl ?_ | refine Wl.assign rfl rfl ?_ | (apply Wl.on;exact rfl;exact rfl;exact k5) | (apply Wl.pickF;exact rfl;exact rfl;exact k5;exact rfl) | refine Wl.gtr rfl rfl rfl ?_ | apply Wl.nil | apply St.seq | apply St.region | apply Gt.next
 apply Wl.callQ
 exact rfl
 (focus repeat constructor)
 ·intro wq hq
  exact hq.q (cuBad c src all cu2 wq (h4.upd hq.upd nt0 (fun _ _ _ _ y => y trivial)))
 by_cases c3 : cu2.bad = false
 rotate_left
 ·have c3' : cu2.bad = true := by simpa using c3
  repeat' first | refine Wl.move rfl rfl ?_ | refine Wl.assign rfl rfl ?_ | (apply Wl.off;exact rfl;exact rfl;exact rfl;exact kh) | (apply Wl.pickT;exact rfl;exact rfl;exact k5;exact rfl) | (apply Wl.pickF;exact rfl;exact rfl;exact k5;exact rfl) | apply Wl.nil | apply St.seq | apply St.region | (apply St.condT;exact rfl;exact k5) | apply St.ret | apply Gt.next | apply Gt.thenRet | apply Gt.inRet | (apply Gt.out2;exact rfl;exact rfl;exact rfl;intro w' hp)
  exact ⟨V4.comp hp.upd fun k _ h => h.elim id fun y => (y trivial).elim,.inl ⟨by rw [← hR,if_neg fun h => c3 h.2.2.1],rfl⟩⟩
 by_cases c4 : n + k = 0
 ·have dC : decide (((n + k : Nat) : Int) = 0) = true := decide_eq_true kc
  repeat' first | (apply Wl.addIs hs3;exact rfl;exact rfl;exact rfl) | refine Wl.move rfl rfl ?_ | refine Wl.assign rfl rfl ?_ | (apply Wl.on;exact rfl;exact rfl;exact k5) | (apply Wl.pickF;exact rfl;exact rfl;exact k5;exact rfl) | refine Wl.eql rfl rfl rfl ?_ | apply Wl.nil | apply St.seq | apply St.region | (apply St.condT;exact rfl;exact k5) | apply St.ret | apply Gt.next | apply Gt.thenRet | apply Gt.inRet | (apply Gt.out2;exact rfl;exact rfl;exact rfl;intro w' hp)
  exact ⟨V4.comp hp.upd fun k _ h => h.elim id fun y => (y trivial).elim,.inl ⟨by rw [← hR,if_neg fun h => h.2.2.2 c4],rfl⟩⟩
 have dC : decide (((n + k : Nat) : Int) = 0) = false := decide_eq_false kc
 rw [if_pos ⟨c1,c2,c3,c4⟩] at hR
 have hs4 : IntKind.i64.wrap (k : Int) = (k : Int) := by rw [IntKind.wrap_i64];omega
 repeat' first | (apply Wl.addIs hs3;exact rfl;exact rfl;exact rfl) | refine Wl.move rfl rfl ?_ | (apply Wl.on;exact rfl;exact rfl;exact k5) | (apply Wl.pickF;exact rfl;exact rfl;exact k5;exact rfl) | refine Wl.eql rfl rfl rfl ?_ | (refine Wl.convI64 rfl rfl ?_ ?_;constructor <;> omega) | apply Wl.nil | apply St.seq | apply St.region | (apply St.condF;exact rfl;exact k5) | apply St.skip | apply Gt.next
 apply Wl.callC
 ·exact rfl
 ·exact kd
 intro wq hq
 refine (cuTake c src all cu2 wq (k : Int) (h4.upd hq.upd nt0 (fun _ _ _ _ y => y trivial))).mono ?_
 rintro e w5 ⟨x,rfl,hx,h5,u5⟩
 have U5 : Upd (fun k => k = c) w4 w5 := (hq.upd.mono fun _ _ y => (y trivial).elim).comp u5 fun k _ h => h.elim id id
 refine ⟨_,_,rfl,Hp.start w5,?_⟩
 clear hq u5
 repeat' first | refine Wl.move rfl rfl ?_ | refine Wl.assign rfl rfl ?_ | apply Wl.nil | apply St.seq | apply St.region | apply Gt.next
 apply Wl.callQ
 exact rfl
 (focus repeat constructor)
 ·intro wq hq
  exact hq.q (cuBad c src all (cu2.take (k : Int)).2 wq (h5.upd hq.upd nt0 (fun _ _ _ _ y => y trivial)))
 have V5 : Upd (fun k => k = c ∨ w.heap.size ≤ k) w w5 := V4.comp U5 fun k _ h => h.elim id .inl
 by_cases c5 : (cu2.take (k : Int)).2.bad = false
 rotate_left
 ·have c5' : (cu2.take (k : Int)).2.bad = true := by simpa using c5
  rw [if_neg c5] at hR
  repeat' first | refine Wl.assign rfl rfl ?_ | apply Wl.nil | apply St.seq | apply St.region | (apply St.condT;exact rfl;exact k5) | apply St.ret | apply Gt.next | apply Gt.thenRet | apply Gt.inRet | (apply Gt.out2;exact rfl;exact rfl;exact rfl;intro w' hp)
  exact ⟨V5.comp hp.upd fun k _ h => h.elim id fun y => (y trivial).elim,.inl ⟨hR.symm,rfl⟩⟩
 rw [if_pos c5] at hR
 have hlk := cu2.take_len c5
 have hm5 := U5.heap hm4 hdc
 have hxi : ∀ j,x.ownBlock = some j → (cu2.take (k : Int)).1 ≠ [] → j < w.heap.size := fun j hj hne => bs_in (hx w hs0) hne j hj
 have hxb := hx w5 h5.s
 generalize hcu3 : (cu2.take (k : Int)).2 = cu3 at *
 generalize hl : (cu2.take (k : Int)).1 = l at *
 have hs5 : IntKind.u32.wrap (2147483648 + (o : Int)) = 2147483648 + (o : Int) := by rw [IntKind.wrap_u32];omega
 have hs6 : IntKind.u32.wrap (2147483648 + (o : Int) + (n : Int)) = 2147483648 + ((o + n : Nat) : Int) := by rw [IntKind.wrap_u32];omega
 have hs7 : IntKind.u32.wrap ((o : Int) + ((n + k : Nat) : Int)) = ((o + n + k : Nat) : Int) := by rw [IntKind.wrap_u32];omega
 have hput : ∀ wq,Hp w5 [] wq → Calls Tryz.prog 53 #[.pointer (some ⟨d,0,none⟩),.int .u32 (2147483648 + ((o + n : Nat) : Int)),x] wq fun e w' => e = .returned (.int .i64 0) ∧ memH w' d (putF f (o + n) l) ∧ Upd (fun k => k = d) wq w' := fun wq hq => by
  have hxq := hxb.upd hq.upd fun _ _ _ _ y => y trivial
  have hmq := hq.upd.heap hm5 fun y => y trivial
  by_cases c6 : o + n < 65536
  ·have := mputX1 d f (2147483648 + ((o + n : Nat) : Int)) x l wq hmq hxq (fun j hj hne => by have := hxi j hj hne;omega) kc ⟨by omega,by omega⟩ kc
   rwa [show (2147483648 + ((o + n : Nat) : Int) - 2147483648).toNat = o + n by omega] at this
  ·have h65 : o + n = 65536 := by omega
   have hl0 : l = [] := List.eq_nil_of_length_eq_zero kc
   rw [hl0] at hxq ⊢
   rw [h65,putF_nil]
   exact mputE d f x wq hmq hxq
 repeat' first | (apply Wl.addIs hs5;exact rfl;exact rfl;exact rfl) | (apply Wl.addIs hs6;exact rfl;exact rfl;exact rfl) | refine Wl.move rfl rfl ?_ | apply Wl.nil | apply St.seq | apply St.region | (apply St.condF;exact rfl;exact k5) | apply St.skip | apply Gt.next
 apply Wl.callC
 ·exact rfl
 ·exact kd
 intro wq hq
 refine (hput wq hq).mono ?_
 rintro e w6 ⟨rfl,hm6,u6⟩
 have h6 := (h5.upd hq.upd nt0 (fun _ _ _ _ y => y trivial)).upd u6 (fun e => hdc e.symm) fun j hj _ hne e => by have := hsrc j hj hne;omega
 have V6 : Upd (fun k => k = c ∨ w.heap.size ≤ k) w w6 := (V5.comp hq.upd (T := fun k => k = c ∨ w.heap.size ≤ k) fun k _ h => h.elim id fun y => (y trivial).elim).comp u6 fun k _ h => h.elim id fun h => .inr kc
 refine ⟨_,_,rfl,Hp.start w6,?_⟩
 clear hq u6
 repeat' first | (apply Wl.addIs hs3;exact rfl;exact rfl;exact rfl) | (apply Wl.addIs hs7;exact rfl;exact rfl;exact rfl) | refine Wl.move rfl rfl ?_ | refine Wl.assign rfl rfl ?_ | apply Wl.nil | apply St.region | apply Gt.next | apply Gt.inNormal
 refine Gt.reb (H' := []) fun w7 h7 => ⟨trivial,trivial,?_⟩
 refine Gt.round (m,o + n + k,putF f (o + n) l,cu3,w7) ⟨⟨by simp only;omega,by simp only;omega⟩,hR,h6.upd h7.upd nt0 (fun _ _ _ _ y => y trivial),h7.upd.heap hm6 fun y => y trivial,V6.comp h7.upd fun k _ h => h.elim id fun y => (y trivial).elim⟩ ky kq (fun _ h => h)
theorem MonS.hp0 {w w0 w' : World} {base : Nat} {I : Mi} {M : Mv2} {H : List Blk} (k : MonS w base I M) (k0 : MonS w0 base I M) (hp : Hp w H w') (hH : ∀ x ∈ H,w0.heap.size ≤ x.b) : MonS w' base I M :=
 k.upd hp.upd fun b hb hs => hs (Off.of fun x hx e => by have := hH x hx;have := (k0.lt b hb).2;omega)
theorem row_ne {w : World} {b b' e e' sz sz' n n' : Nat} {v v' : Value} {xs xs' : List Value} (h1 : w.ownsRow b e sz v n xs) (h2 : w.ownsRow b' e' sz' v' n' xs') (he : e ≠ e') : ∀ k,v.ownBlock = some k → v'.ownBlock = some k → False := by
 intro k hk hk'
 rcases h1.2 with ⟨rfl,_⟩ | ⟨g,cap,cur,rfl,_,hg,_⟩
 ·cases hk
 ·rcases h2.2 with ⟨rfl,_⟩ | ⟨g',cap',cur',rfl,_,hg',_⟩
  ·cases hk'
  ·cases hk
   cases hk'
   rw [hg] at hg'
   cases hg'
   exact he rfl
theorem row_neB {w : World} {b e sz n c t : Nat} {v : Value} {xs : List Value} {cs : Array Value} (h1 : w.ownsRow b e sz v n xs) (h2 : w.heap[c]? = some (.cells cs t (0,0))) (he : e ≠ t) : ∀ k,v.ownBlock = some k → k ≠ c := by
 intro k hk hc
 subst hc
 rcases h1.2 with ⟨rfl,_⟩ | ⟨g,cap,cur,rfl,_,hg,_⟩
 ·cases hk
 ·cases hk
  rw [hg] at h2
  cases h2
  exact he rfl
theorem pAll0 (pp pa : Nat) (cs : List Nat) (bx : Nat → List Value) (i : Nat) (w : World) (hP : PostS w pp pa cs bx) (hi : i < cs.length) (h0 : bx i = []) :
  Calls Tryz.prog 75 #[.pointer (some ⟨pp,0,none⟩),.int .i64 i] w fun e w' => e = .returned (.slice none 0 0) ∧ Hp w [] w' := by
 obtain ⟨c,hc⟩ : ∃ c,cs[i]? = some c := ⟨_,List.getElem?_eq_getElem hi⟩
 have hch := hP.2.1 i c hc
 rw [h0] at hch
 have hd : decide ((0 : Int) < (([] : List Value).length : Int)) = false := by decide
 refine enter (args := [_,_]) (Γ := [(0,_),(1,_)]) Tryz.func75 Tryz.ntmps75 rfl odq (.cons rfl (.cons rfl .nil)) ?_
 repeat' first | refine Wl.move rfl rfl ?_ | refine Wl.assign rfl rfl ?_ | apply Wl.nil | apply St.seq | apply St.region | apply Gt.next
 apply Wl.callQ
 exact rfl
 (focus repeat constructor)
 ·intro wq hq
  exact hq.q (pBox pp pa cs bx i c wq (hP.upd hq.upd nt0 nt0 fun _ _ y => y trivial) hc)
 repeat' first | (apply Wl.lenChan (b := c) (cap := 4) (l := []) chTy;exact rfl;exact rfl;(intro w' h';exact hch.upd h'.upd fun y => y trivial)) | refine Wl.move rfl rfl ?_ | refine Wl.assign rfl rfl ?_ | apply Wl.nil | apply St.seq | apply St.block | apply St.region | apply Gt.next
 refine St.loop (σ := Unit) (fun _ => True) (fun _ => [(6,.slice none 0 0),(12,.int .i64 0),(13,.int .i64 0)]) (fun _ => Hp w []) (fun _ => 0) () trivial kq (fun _ h => h) ?_
 intro _ _
 have hd2 : decide ((0 : Int) < 0) = false := by decide
 repeat' first | refine Wl.move rfl rfl ?_ | refine Wl.assign rfl rfl ?_ | refine Wl.lss rfl rfl rfl ?_ | apply Wl.nil | apply St.seq | apply St.region | (apply St.condF;exact rfl;exact k5) | apply St.ret | apply St.exit | apply Gt.next | apply Gt.thenExit | apply Gt.inExit | (apply Gt.out1;exact rfl;exact rfl;intro w' hp)
 exact ⟨rfl,hp⟩
def turnV (t : Int) : Int := if t < 0 then -1 else t
theorem _root_.Go.World.ownsRow.baseLe {w : World} {base base' e sz n : Nat} {v : Value} {xs : List Value} (h : w.ownsRow base e sz v n xs) (hb : base' ≤ base) : w.ownsRow base' e sz v n xs := by
 refine ⟨h.1,?_⟩
 rcases h.2 with h | ⟨g,cap,cur,rfl,hg,r⟩
 ·exact .inl h
 ·exact .inr ⟨g,cap,cur,rfl,by omega,r⟩
theorem lappE (xs : List Value) : LApp xs [] xs := by
 induction xs with
 | nil => exact .nil
 | cons x xs ih => exact .cons ih
theorem stas_take {L : List Sta} {i : Nat} {x : Sta} (h : L[i]? = some x) : (stas (L.take (i + 1))).flatten = (stas (L.take i)).flatten ++ x.cells := by
 rw [List.take_add_one,h]
 simp [stas]
theorem ins_take {L : List (List UInt8)} {i : Nat} {x : List UInt8} (h : L[i]? = some x) : (L.take (i + 1)).map strV = (L.take i).map strV ++ [strV x] := by
 rw [List.take_add_one,h]
 simp
section
variable {w wc w1 : World} {base : Nat} {I : Mi} {M : Mv2} {i1 i2 i3 : Nat} {sv iv bv lv v : Value} {c2 c3 cC : Nat} {t2 t3 : Nat} {xs2 xs3 : List Value}
theorem offs2 {k : Nat} (h : ¬ Off [⟨c3,xs3,t3⟩,⟨c2,xs2,t2⟩] k) : k = c3 ∨ k = c2 := Classical.byContradiction fun hn => h ⟨fun e => hn (.inl e.symm),fun e => hn (.inr e.symm),trivial⟩
theorem row_keep {x y : Value} {e e' sz n m sz' : Nat} {xs ys : List Value} (hr : wc.ownsRow w.heap.size e sz y n xs) (hx : wc.ownsRow w.heap.size e' sz' x m ys) (he : e ≠ e') (ho : ∀ k,y.ownBlock = some k → k ≠ c3 ∧ k ≠ c2) (u1 : Upd (fun k => x.ownBlock = some k ∨ ¬ Off [⟨c3,xs3,t3⟩,⟨c2,xs2,t2⟩] k) wc w1) : w1.ownsRow w.heap.size e sz y n xs :=
 ownsRow_upd hr u1 fun k hk hs => by
  rcases hs with z | z
  ·exact row_ne hr hx he k hk z
  ·rcases offs2 z with rfl | rfl
   ·exact (ho _ hk).1 rfl
   ·exact (ho _ hk).2 rfl
theorem mem_keep {x : Value} {e' sz' m : Nat} {ys : List Value} {f : Nat → Int} (hm : memH wc cC f) (hx : wc.ownsRow w.heap.size e' sz' x m ys) (he : e' ≠ 156) (h3 : c3 ≠ cC) (h2 : c2 ≠ cC) (u1 : Upd (fun k => x.ownBlock = some k ∨ ¬ Off [⟨c3,xs3,t3⟩,⟨c2,xs2,t2⟩] k) wc w1) : memH w1 cC f :=
 u1.heap hm fun hs => by
  rcases hs with z | z
  ·exact row_neB hx hm he _ z rfl
  ·rcases offs2 z with e | e
   ·exact h3 e.symm
   ·exact h2 e.symm
end
end Go.Proofs.YtabbklpalbikdaaGreatDoor
end
section
namespace Go.Pt
open Go.RowKit
theorem strOf_app (a b : List UInt8) : strOf a ++ strOf b = strOf (a ++ b) := by
 apply ByteArray.ext
 simp [strOf,ByteArray.data_append]
theorem _root_.Go.World.ownsRow.heap {w : World} {base e sz n b : Nat} {v : Value} {xs : List Value} (h : w.ownsRow base e sz v n xs) (hb : v.ownBlock = some b) : ∃ cs,w.heap[b]? = some (.cells cs e (0,0)) := by
 rcases h.2 with ⟨rfl,_⟩ | ⟨g,cap,cur,rfl,_,hg,_⟩
 ·cases hb
 ·cases hb;exact ⟨_,hg⟩
section
variable {P : Program} {md : Md} {N : Nat} {ops : Array Oper} {rest : List Oper} {Γ : Env} {C : World → Prop} {Q : Exit → Act → World → Prop} {d : Nat} {ty t u : TypeId} {pos : String} {af : Array Edge}
theorem Wl.addS {x y : Operand} {a b : List UInt8} (hd : Nat.blt d N = true) (hx : ev Γ x = some (.string (strOf a))) (hy : ev Γ y = some (.string (strOf b))) (hn : a.length + b.length < 1000000) (h : Wl rest P md ops N ((d,.string (strOf (a ++ b))) :: Γ) C Q) :
  Wl (⟨some d,.binOp .add t x y u,ty,pos,af,none⟩ :: rest) P md ops N Γ C Q :=
 Wl.val hd (fun c w ha _ => by
  have e : (strOf a).size + (strOf b).size < 1000000 := by simp [strOf,ByteArray.size];omega
  simp [execOp,ha.ev hx,ha.ev hy,eqGuard_add,binOp,Op.stringOp,strOf_app];omega) h
end
end Go.Pt
namespace Go.Proofs.YtabbklpalbikdaaGreatDoor
open Go.RowKit Go.Pt
theorem bFeed (base bd ia : Nat) (lv : Value) (ll : List (Int × List UInt8)) (used : Int) (ins : List (List UInt8)) (i : Nat) (s z : List UInt8) (w : World) (hB : BoardS w base bd ia lv ll used ins) (hi : ins[i]? = some s) (hz : s.length + z.length ≤ 64) :
  Calls Tryz.prog 78 #[.pointer (some ⟨bd,0,none⟩),.int .i64 i,strV z] w fun e w' => e = .returned (.int .i64 0) ∧ BoardS w' base bd ia lv ll used (ins.set i (s ++ z)) ∧ Upd (fun k => k = ia) w w' := by
 have hil := (List.getElem?_eq_some_iff.1 hi).1
 have hB0 := hB
 obtain ⟨⟨cap,J,a,b⟩,hr,r1,r2⟩ := hB
 have p0 : w.cell? ⟨bd,2,none⟩ = some (.slice (some ⟨ia,0,none⟩) ins.length cap) := cell_of a rfl
 have p1 : w.cell? ⟨ia,0 + (i : Int).toNat,none⟩ = some (strV s) := by rw [Int.toNat_natCast,Nat.zero_add];exact cell_of b (ins_at hi)
 have hne : bd ≠ ia := blk_ne a b
 have hs1 := strV_size s
 have hs2 := strV_size z
 have hd : decide (((strOf s).size : Int) + ((strOf z).size : Int) > 64) = false := decide_eq_false kc
 have hg : (ins.map strV ++ J)[0 + (i : Int).toNat]? = some (strV s) := by rw [Int.toNat_natCast,Nat.zero_add];exact ins_at hi
 have hset : LSet (ins.map strV ++ J) (0 + (i : Int).toNat) (strV (s ++ z)) ((ins.set i (s ++ z)).map strV ++ J) := by
  rw [Int.toNat_natCast,Nat.zero_add,List.map_set]
  exact LSet.left (by rw [List.length_map];exact hil)
 refine enter (args := [_,_,_]) (Γ := [(0,_),(1,_),(2,_)]) Tryz.func78 Tryz.ntmps78 rfl odq (.cons rfl (.cons rfl (.cons rfl .nil))) ?_
 have key : ∀ {wq : World} {e : Ending},e = .returned (.int .i64 0) → ∀ (Hx : Hp w [⟨ia,(ins.set i (s ++ z)).map strV ++ J,9⟩] wq),e = .returned (.int .i64 0) ∧ BoardS wq base bd ia lv ll used (ins.set i (s ++ z)) ∧ Upd (fun k => k = ia) w wq := by
  intro wq e he Hx
  have hr' := ownsRow_upd hr (Hp.turned Hx) (S := fun k => k = ia) fun k hk e => (hr.heap hk).elim fun _ hg => (blk_ne hg b) e
  exact ⟨he,⟨⟨cap,J,by rw [List.length_set];exact Hx.upd.heap a fun y => y ⟨hne.symm,trivial⟩,Hx.own.at (.head _)⟩,hr',by rw [List.length_set];exact ⟨r1,r2⟩⟩,(Hp.turned Hx)⟩
 repeat' first | refine Wl.move rfl rfl ?_ | refine Wl.assign rfl rfl ?_ | apply Wl.nil | apply St.seq | apply St.block | apply St.region | apply Gt.next
 apply Wl.callQ
 exact rfl
 (focus repeat constructor)
 ·intro wq hq
  exact hq.q (bHas base bd ia lv ll used ins i wq (hB0.upd hq.upd nt0 nt0 fun _ _ y => y trivial) hil)
 repeat' first | (apply Wl.loadO;exact rfl;exact rfl;exact zx;exact km) | refine Wl.move rfl rfl ?_ | refine Wl.assign rfl rfl ?_ | refine Wl.nilCheck rfl rfl ?_ | refine Wl.not rfl rfl ?_ | refine Wl.fieldAddrZ rfl rfl ?_ | refine Wl.gtr rfl rfl rfl ?_ | (refine Wl.addI rfl rfl rfl ?_ ?_;constructor <;> omega) | refine Wl.lenS rfl rfl ?_ | (refine Wl.indexAddr1 rfl rfl rfl ?_ ?_;constructor <;> omega) | apply Wl.nil | apply St.seq | apply St.region | (apply St.condF;exact rfl;exact k5) | apply St.skip | apply Gt.next | apply Gt.inNormal
 apply Wl.addS (a := s) (b := z)
 ·exact rfl
 ·exact rfl
 ·exact rfl
 ·omega
 refine Wl.cls (fun _ h' => Hp.open h' b trivial) ?_
 repeat' first | (apply Wl.store;exact rfl;exact rfl;exact rfl;exact kd;exact hset) | refine Wl.assign rfl rfl ?_ | (refine Wl.indexAddr1 rfl rfl rfl ?_ ?_;constructor <;> omega) | apply Wl.nil | apply St.seq | apply St.region | apply St.ret | apply Gt.next | (apply Gt.out1;exact rfl;exact rfl;intro w' hp)
 exact key rfl hp
end Go.Proofs.YtabbklpalbikdaaGreatDoor
end
section
namespace Go.Pt
open Go.RowKit
end Go.Pt
namespace Go.Proofs.YtabbklpalbikdaaGreatDoor
open Go.RowKit Go.Pt
end Go.Proofs.YtabbklpalbikdaaGreatDoor
end
section
namespace Go.Pt
open Go.RowKit
theorem SmN.tail {P : Program} {N : Nat} {Γ : Env} {C : World → Prop} {Q : Exit → Act → World → Prop} {l : List Oper} (kk : Nat) (h : Wl (l.drop kk) P .seq l.toArray N Γ C Q) : SmN P l.toArray (List.range' kk (l.drop kk).length) N Γ C Q :=
 SmN.of (fun j => by simp) h
theorem run_eql_chan {P : Program} (w : World) {t e : TypeId} {dir : ChanDir} (a b : Option Nat) (ht : P.underlying t = some (.chan dir e)) :
  (binOp .eql t (.chan a) (.chan b)).run P w = .ok (.bool (a == b)) w := by
 have h : ∀ d : Nat,(Op.equalIn (d + 1) t (.chan a) (.chan b)).run P w = .ok (a == b) w := fun d => by
  simp [Op.equalIn,run_underlying ht]
 simp only [binOp]
 simp [Op.equal,Op.maxDepth,h 9999]
section
variable {P : Program} {md : Md} {N : Nat} {ops : Array Oper} {rest : List Oper} {Γ : Env} {C : World → Prop} {Q : Exit → Act → World → Prop} {d : Nat} {ty t u e : TypeId} {pos : String} {af : Array Edge}
theorem Wl.eqlC {x y : Operand} {a b : Option Nat} {r : Bool} {dir : ChanDir} (ht : P.underlying t = some (.chan dir e)) (hd : Nat.blt d N = true) (hx : ev Γ x = some (.chan a)) (hy : ev Γ y = some (.chan b)) (hr : (a == b) = r) (h : Wl rest P md ops N ((d,.bool r) :: Γ) C Q) : Wl (⟨some d,.binOp .eql t x y u,ty,pos,af,none⟩ :: rest) P md ops N Γ C Q :=
 Wl.val hd (fun c w ha _ => by subst hr;simp only [execOp,ha.ev hx,ha.ev hy,eqGuard_at_chan,pure_bind,Sem.run_bind,run_eql_chan w a b ht];rfl) h
end
end Go.Pt
namespace Go.Proofs.YtabbklpalbikdaaGreatDoor
open Go.RowKit Go.Pt
theorem chan_ne {w : World} {c b cap t : Nat} {l : List Value} {cs : Array Value} (h1 : ChanB w c cap l) (h2 : w.heap[b]? = some (.cells cs t (0,0))) : c ≠ b := by
 rintro rfl
 obtain ⟨s,r,h⟩ := h1
 rw [h] at h2
 cases h2
def letV (x : Int × List UInt8) : Value := .agg #[.int .i64 x.1,strV x.2]
def zLet : Value := .agg #[.int .i64 0,.string ⟨#[]⟩]
theorem pSend (pp pa : Nat) (cs : List Nat) (bx : Nat → List Value) (i ch : Nat) (x : Int × List UInt8) (w : World) (hP : PostS w pp pa cs bx) (hi : cs[i]? = some ch) (hx : 1 ≤ x.2.length ∧ x.2.length ≤ 16) :
  Calls Tryz.prog 80 #[.pointer (some ⟨pp,0,none⟩),.int .i64 i,letV x] w fun e w' => ((bx i).length < 4 ∧ e = .returned (.int .i64 0) ∧ PostS w' pp pa cs (fun j => if j = i then bx i ++ [letV x] else bx j) ∧ Upd (fun k => k = ch) w w') ∨ (4 ≤ (bx i).length ∧ e = .returned (.int .i64 16) ∧ Hp w [] w') := by
 have hP0 := hP
 have hs1 := strV_size x.2
 have hlts := hP.lt
 have hlc := (hP.2.1 i ch hi).lt
 have hd0 : decide (((strOf x.2).size : Int) < 1) = false := decide_eq_false kc
 have hd1 : decide (((strOf x.2).size : Int) > 16) = false := decide_eq_false kc
 refine enterN (args := [_,_,_]) (Γ := [(0,_),(1,_),(2,_)]) Tryz.func80 Tryz.ntmps80 rfl odq (.cons rfl (.cons rfl (.cons rfl .nil))) ?_
 refine StN.seq (StN.of ?_)
 repeat' first | refine Wl.assign rfl rfl ?_ | (apply Wl.boxA;exact rfl;exact rfl;intro c hc ho) | apply Wl.nil | apply St.region
 refine GtN.next (StN.seq (StN.of ?_))
 repeat' first | refine Wl.move rfl rfl ?_ | apply St.region
 apply Wl.callQ
 exact rfl
 (focus repeat constructor)
 ·intro wq hq
  exact hq.q (pBox pp pa cs bx i ch wq (hP0.upd hq.upd (fun y => y ⟨by simp only;omega,trivial⟩) (fun y => y ⟨by simp only;omega,trivial⟩) fun z hz y => y ⟨by have := hlts.2.2 z hz;simp only;omega,trivial⟩) hi)
 repeat' first | refine Wl.assign rfl rfl ?_ | apply Wl.nil
 refine GtN.next (StN.seq (StN.of ?_))
 repeat' first | (apply Wl.eqlC (r := false) chTy;exact rfl;exact rfl;exact rfl;exact rfl) | refine Wl.move rfl rfl ?_ | (apply Wl.on;exact rfl;exact rfl;exact k5) | (apply Wl.pickF;exact rfl;exact rfl;exact k5;exact rfl) | refine Wl.fieldAddrZ rfl rfl ?_ | (apply Wl.loadH;exact rfl;exact rfl;exact kd;exact rfl) | refine Wl.lss rfl rfl rfl ?_ | refine Wl.gtr rfl rfl rfl ?_ | refine Wl.lenS rfl rfl ?_ | apply Wl.nil | apply St.seq | apply St.region | (apply St.condF;exact rfl;exact k5) | apply St.skip | apply Gt.next
 refine GtN.next (StN.seq (StN.of ?_))
 repeat' first | refine Wl.move rfl rfl ?_ | (apply Wl.loadAH;exact rfl;exact rfl;exact kd;exact kd) | apply Wl.nil | apply St.seq | apply St.region | apply Gt.next
 refine GtN.next (GtN.base fun wz hz => StN.seq (StN.region ?_))
 have hcz : ChanB wz ch 4 (bx i) := (hP0.2.1 i ch hi).upd hz.upd fun y => y ⟨by simp only;omega,trivial⟩
 refine SmN.selSend (ch := .tmp 25) (x := .tmp 26) (t := 0) (v := letV x) (zv := zLet) (c := ch) (cap := 4) (l := bx i) rfl rfl rfl rfl (fun w' a ha => ?_) hcz ⟨by simp only;omega,trivial⟩ (fun hl w1 hc1 u1 => ?_) (fun hl => ?_)
 ·have e25 : a.eval (.tmp 25) = .chan (some ch) := ha.ev rfl
  have e26 : a.eval (.tmp 26) = letV x := ha.ev rfl
  simp [execOp,e25,e26,Go.Conc.scase,run_zero (P := Tryz.prog) (t := 78),zLet]
 ·refine SmN.tail 1 ?_
  simp only [List.drop_succ_cons,List.drop_zero]
  repeat' first | refine Wl.extract rfl rfl rfl ?_ | (apply Wl.eqlIs;exact rfl;exact rfl;exact rfl;exact kx) | apply Wl.nil
  refine GtN.next (StN.of ?_)
  repeat' first | refine Wl.assign rfl rfl ?_ | apply Wl.nil | apply St.seq | apply St.block | apply St.region | (apply St.condT;exact rfl;exact k5) | apply St.ret | apply Gt.next | apply Gt.inRet | (apply Gt.out1;exact rfl;exact rfl;intro w' hp)
  have of : ∀ k,k < w.heap.size → Off [⟨c,[.int .i64 x.1,strV x.2],78⟩] k := fun k hk => ⟨by simp only;omega,trivial⟩
  have u : Upd (fun k => k = ch) w w' := (hz.upd.comp u1 (T := fun k => k = ch) fun k hk hs => hs.elim (fun y => (y (of k hk)).elim) fun y => y.elim id fun y => (y (of k hk)).elim).comp hp.upd fun k hk hs => hs.elim id fun y => (y (of k hk)).elim
  obtain ⟨⟨cap,J,a,b⟩,hch,hj,r⟩ := hP
  refine .inl ⟨hl,rfl,⟨⟨cap,J,u.heap a fun e => chan_ne (hch i ch hi) a e.symm,u.heap b fun e => chan_ne (hch i ch hi) b e.symm⟩,fun j c' hj' => ?_,hj,r⟩,u⟩
  by_cases e : j = i
  ·subst e
   rw [hi] at hj'
   cases hj'
   show ChanB _ _ _ (ite _ _ _)
   rw [if_pos rfl]
   exact hc1.upd hp.upd fun y => y (of _ hlc)
  ·show ChanB _ _ _ (ite _ _ _)
   rw [if_neg e]
   exact (hch j c' hj').upd u fun e' => e (hj j i ch (e' ▸ hj') hi)
 ·refine SmN.tail 1 ?_
  simp only [List.drop_succ_cons,List.drop_zero]
  repeat' first | refine Wl.extract rfl rfl rfl ?_ | refine Wl.eql rfl rfl rfl ?_ | apply Wl.nil
  refine GtN.next (StN.of ?_)
  repeat' first | refine Wl.assign rfl rfl ?_ | apply Wl.nil | apply St.seq | apply St.block | apply St.region | (apply St.condF;exact rfl;exact k5) | apply St.ret | apply Gt.next | apply Gt.inRet | (apply Gt.out1;exact rfl;exact rfl;intro w' hp)
  exact .inr ⟨hl,rfl,Hp.drop (H := [⟨c,[.int .i64 x.1,strV x.2],78⟩]) ⟨hz.upd.trans hp.upd,hp.own,hp.apart⟩ k6⟩
theorem rot {α : Type} (l : List α) (j : Nat) (h : j < l.length) : l.drop j ++ l.take j = l[j] :: (l.drop (j + 1) ++ l.take j) ∧ (l.drop (j + 1) ++ l.take j) ++ [l[j]] = l.drop (j + 1) ++ l.take (j + 1) := by
 refine ⟨by rw [List.drop_eq_getElem_cons h];rfl,?_⟩
 rw [List.append_assoc,List.take_add_one,List.getElem?_eq_getElem h]
 rfl
theorem pAll (pp pa : Nat) (cs : List Nat) (bx : Nat → List Value) (i ch : Nat) (ls : List (Int × List UInt8)) (w : World) (hP : PostS w pp pa cs bx) (hi : cs[i]? = some ch) (hb : bx i = ls.map letV) (h4 : ls.length ≤ 4) :
  Calls Tryz.prog 75 #[.pointer (some ⟨pp,0,none⟩),.int .i64 i] w fun e w' => ∃ v,e = .returned v ∧ w'.ownsRow w.heap.size 78 2 v ls.length (ls.map lineC).flatten ∧ PostS w' pp pa cs bx ∧ Upd (fun k => k = ch ∨ w.heap.size ≤ k) w w' := by
 have hlts := hP.lt
 have hch := hP.2.1 i ch hi
 have hlc := hch.lt
 refine enterN (args := [_,_]) (Γ := [(0,_),(1,_)]) Tryz.func75 Tryz.ntmps75 rfl odq (.cons rfl (.cons rfl .nil)) ?_
 refine StN.seq (StN.of ?_)
 repeat' first | refine Wl.assign rfl rfl ?_ | apply Wl.nil | apply St.region
 refine GtN.next (StN.seq (StN.of ?_))
 repeat' first | refine Wl.move rfl rfl ?_ | apply St.region
 apply Wl.callQ
 exact rfl
 (focus repeat constructor)
 ·intro wq hq
  exact hq.q (pBox pp pa cs bx i ch wq (hP.upd hq.upd nt0 nt0 fun _ _ y => y trivial) hi)
 repeat' first | refine Wl.assign rfl rfl ?_ | apply Wl.nil
 refine GtN.next (StN.seq (StN.of ?_))
 repeat' first | refine Wl.assign rfl rfl ?_ | apply Wl.nil | apply St.region
 refine GtN.next (StN.seq (StN.seq (StN.of ?_)))
 repeat' first | (apply Wl.lenChan (b := ch) (cap := 4) (l := bx i) chTy;exact rfl;exact rfl;(intro w' h';exact hch.upd h'.upd fun y => y trivial)) | refine Wl.move rfl rfl ?_ | apply Wl.nil | apply St.region
 rw [show (bx i).length = ls.length by rw [hb,List.length_map]]
 refine GtN.next (GtN.base fun w0 h0 => StN.block ?_)
 refine StN.loop (σ := Nat × World × Value) (fun τ => τ.1 ≤ ls.length ∧ ChanB τ.2.1 ch 4 ((ls.drop τ.1 ++ ls.take τ.1).map letV) ∧ τ.2.1.ownsRow w.heap.size 78 2 τ.2.2 τ.1 ((ls.take τ.1).map lineC).flatten ∧ Upd (fun k => k = ch ∨ w.heap.size ≤ k) w τ.2.1)
  (fun τ => [(5,.chan (some ch)),(6,τ.2.2),(12,.int .i64 (ls.length : Int)),(13,.int .i64 (τ.1 : Int))]) (fun τ => Hp τ.2.1 []) (fun τ => ls.length - τ.1) (0,w0,.slice none 0 0) ⟨Nat.zero_le _,?_,World.ownsRow_nil _ _ _ _,h0.upd.mono fun _ _ y => (y trivial).elim⟩ kq (fun _ h => h) ?_
 ·simp only [List.drop_zero,List.take_zero,List.append_nil]
  rw [← hb]
  exact hch.upd h0.upd fun y => y trivial
 rintro ⟨j,w1,v⟩ ⟨hj,hc1,hv,hu⟩
 simp only at hj hc1 hv hu ⊢
 have z1 := hu.size
 by_cases hjl : j < ls.length
 ·have hd : decide ((j : Int) < (ls.length : Int)) = true := decide_eq_true kc
  obtain ⟨r1,r2⟩ := rot ls j hjl
  rw [r1,List.map_cons] at hc1
  refine StN.seq (StN.of ?_)
  repeat' first | refine Wl.lss rfl rfl rfl ?_ | apply Wl.nil | apply St.region
  refine GtN.next (StN.seq (StN.of ?_))
  repeat' first | (apply St.condT;exact rfl;exact k5) | apply St.skip
  refine GtN.next (StN.seq (StN.block (StN.seq (StN.region ?_))))
  refine SmN.val (v := .chan (some ch)) rfl rfl rfl rfl (fun a w ha _ => by simp [execOp,ha.ev (x := .tmp 5) rfl]) ?_
  refine SmN.recv (c := ch) (cap := 4) (l := (ls.drop (j + 1) ++ ls.take j).map letV) (v := letV ls[j]) (t := 232) (ch := .tmp 15) (zv := zLet) rfl rfl rfl rfl rfl (fun w' => ?_) rfl hc1 trivial (fun w2 hc2 u2 => ?_)
  ·simp [execOp,Go.Conc.rcase,run_zero (P := Tryz.prog) (t := 78),zLet]
  refine SmN.tail 2 ?_
  simp only [List.drop_succ_cons,List.drop_zero]
  have hv2 : w2.ownsRow w.heap.size 78 2 v j ((ls.take j).map lineC).flatten := ownsRow_upd hv u2 fun k hk hs => hs.elim (fun e => (hv.heap hk).elim fun _ hg => chan_ne hc1 hg e.symm) fun y => y trivial
  have U2 : Upd (fun k => k = ch ∨ w.heap.size ≤ k) w w2 := hu.comp u2 fun k _ hs => hs.elim id fun h => h.elim .inl fun y => (y trivial).elim
  have z2 := U2.size
  repeat' first | (apply Wl.storeA;exact rfl;exact rfl;exact rfl;exact rfl;exact kd;exact kn) | (apply Wl.alloc;exact rfl;intro c hc ho) | apply Wl.nil
  generalize c = c7 at *
  have hc7 : w2.heap.size ≤ c7 := by assumption
  refine GtN.next (StN.seq (StN.of ?_))
  repeat' first | refine Wl.move rfl rfl ?_ | (apply Wl.loadAH;exact rfl;exact rfl;exact kd;exact kd) | (apply Wl.lit;exact rfl;exact kj;exact rfl;exact rfl;exact ke;intro c hc ho) | apply St.region
  apply Wl.appendT (base := w.heap.size) (n := j) (m := 1) (sz := 2) (e := 78) (xs := ((ls.take j).map lineC).flatten)
  ·exact rfl
  ·exact rfl
  ·exact rfl
  ·assumption
  ·exact rfl
  ·exact hv2
  ·exact fun k hk => ⟨fun e => by have := (hv2.ge k hk).2;simp only at e;omega,trivial⟩
  ·exact rfl
  ·exact rfl
  ·decide
  ·unfold maxLen;omega
  ·omega
  ·exact z2
  intro v' w3 ho3 u3 _ hoff3
  repeat' first | refine Wl.assign rfl rfl ?_ | apply Wl.nil
  have nch : ∀ k,v.ownBlock = some k → k ≠ ch := fun k hk e => (hv2.heap hk).elim fun _ hg => chan_ne hc2 hg e.symm
  have hc3 : ChanB w3 ch 4 ((ls.drop (j + 1) ++ ls.take j).map letV) := hc2.upd u3 fun h => h.elim (fun h => nch ch h rfl) fun y => y ⟨by have := hc2.lt;simp only;omega,trivial⟩
  have z3 := u3.size
  refine GtN.next (GtN.base fun w4 h4' => StN.region ?_)
  have hc4 : ChanB w4 ch 4 ((ls.drop (j + 1) ++ ls.take j).map letV) := hc3.upd h4'.upd fun y => y ⟨by have := hc2.lt;simp only;omega,trivial⟩
  refine SmN.val (v := .chan (some ch)) rfl rfl rfl rfl (fun a w ha _ => by simp [execOp,ha.ev (x := .tmp 5) rfl]) ?_
  refine SmN.val (v := letV ls[j]) rfl rfl rfl rfl (fun a w' ha hw => ?_) ?_
  ·have e7 : a.eval (.tmp 7) = .pointer (some ⟨c7,0,none⟩) := ha.ev rfl
   have hcell : ∀ q v,(lineC ls[j])[q]? = some v → w'.cell? (Addr.add ⟨c7,0,none⟩ q) = some v := fun q v hq => by
    rw [addLit,Nat.zero_add]
    exact cell_of (hw.own.at (.head _)) hq
   simp [execOp,e7,Instr.loadAt,Instr.sureAddr,run_loadA (P := Tryz.prog) (t := 78) (xs := lineC ls[j]) rfl hcell]
   rfl
  refine SmN.send (c := ch) (cap := 4) (l := (ls.drop (j + 1) ++ ls.take j).map letV) (v := letV ls[j]) (ch := .tmp 21) (x := .tmp 22) rfl rfl rfl rfl rfl rfl hc4 zi ⟨by have := hc2.lt;simp only;omega,trivial⟩ (fun w5 hc5 u5 => ?_)
  refine SmN.nil ?_
  apply Gt.inNormal
  refine GtN.next (StN.of ?_)
  repeat' first | refine Wl.move rfl rfl ?_ | (refine Wl.addI rfl rfl rfl ?_ ?_;constructor <;> omega) | apply Wl.nil | apply St.region
  refine Gt.reb (H' := []) fun w6 h6 => ⟨trivial,trivial,?_⟩
  have key : ∀ {k},¬ Off [⟨c7,lineC ls[j],78⟩] k → w.heap.size ≤ k := fun {k} hn => Classical.byContradiction fun hlt => hn ⟨fun e => by simp only at e;omega,trivial⟩
  have U3 : Upd (fun k => k = ch ∨ w.heap.size ≤ k) w w3 := U2.comp u3 fun k _ hs => hs.elim id fun h => h.elim (fun h => .inr (hv2.ge k h).1) fun h => .inr (by
   refine Classical.byContradiction fun hlt => h ⟨fun e => ?_,trivial⟩
   simp only at e
   omega)
  have U6 : Upd (fun k => k = ch ∨ w.heap.size ≤ k) w w6 := ((U3.comp h4'.upd (T := fun k => k = ch ∨ w.heap.size ≤ k) fun k _ hs => hs.elim id fun h => .inr (key h)).comp u5 (T := fun k => k = ch ∨ w.heap.size ≤ k) fun k _ hs => hs.elim id fun h => h.elim .inl fun h => .inr (key h)).comp h6.upd fun k _ hs => hs.elim id fun h => .inr (key h)
  have hv6 : ∀ k,v'.ownBlock = some k → k ≠ ch ∧ Off [⟨c7,lineC ls[j],78⟩] k := fun k hk => ⟨fun e => (ho3.heap hk).elim fun _ hg => chan_ne hc3 hg e.symm,(hoff3 k hk).1⟩
  refine Gt.round (j + 1,w6,v') ⟨by simp only;omega,?_,?_,U6⟩ ky kq (fun _ h => h)
  ·have e : (ls.drop (j + 1) ++ ls.take j).map letV ++ [letV ls[j]] = (ls.drop (j + 1) ++ ls.take (j + 1)).map letV := by rw [← r2,List.map_append (l₂ := [ls[j]])];rfl
   rw [e] at hc5
   exact hc5.upd h6.upd fun y => y ⟨by have := hc2.lt;simp only;omega,trivial⟩
  ·have e : ((ls.take (j + 1)).map lineC).flatten = ((ls.take j).map lineC).flatten ++ lineC ls[j] := by
    rw [List.take_add_one,List.getElem?_eq_getElem hjl,List.map_append,List.flatten_append]
    simp only [Option.toList_some,List.map_cons,List.map_nil,List.flatten_cons,List.flatten_nil,List.append_nil]
   simp only
   rw [e]
   exact ownsRow_upd (ownsRow_upd (ownsRow_upd ho3 h4'.upd fun k hk y => y (hv6 k hk).2) u5 fun k hk y => y.elim (hv6 k hk).1 fun y => y (hv6 k hk).2) h6.upd fun k hk y => y (hv6 k hk).2
 ·obtain rfl : j = ls.length := by omega
  have hd : decide ((ls.length : Int) < (ls.length : Int)) = false := decide_eq_false kc
  have eT : ls.take ls.length = ls := List.take_length
  have eD : ls.drop ls.length ++ ls = ls := by rw [List.drop_length];rfl
  rw [eT] at hc1 hv
  rw [eD,← hb] at hc1
  refine StN.seq (StN.of ?_)
  repeat' first | refine Wl.lss rfl rfl rfl ?_ | apply Wl.nil | apply St.region
  refine GtN.next (StN.seq (StN.of ?_))
  repeat' first | (apply St.condF;exact rfl;exact k5) | apply St.exit | apply Gt.thenExit | apply Gt.inExit
  refine GtN.next (StN.of ?_)
  repeat' first | refine Wl.move rfl rfl ?_ | refine Wl.assign rfl rfl ?_ | apply Wl.nil | apply St.seq | apply St.region | apply St.ret | apply Gt.next | (apply Gt.out1;exact rfl;exact rfl;intro w' hp)
  have hw : Upd (fun _ => False) w1 w' := (by assumption : Hp w1 [] w').upd.mono fun _ _ y => (y trivial).elim
  have U := hu.comp hw (T := fun k => k = ch ∨ w.heap.size ≤ k) fun k _ hs => hs.elim id fun y => y.elim
  obtain ⟨⟨cap,J,a,b⟩,hchs,hjj,rr⟩ := hP
  refine ⟨v,rfl,ownsRow_upd hv hw fun k _ y => y.elim,⟨⟨cap,J,U.heap a fun e => e.elim (fun e => chan_ne (hchs i ch hi) a e.symm) kc,U.heap b fun e => e.elim (fun e => chan_ne (hchs i ch hi) b e.symm) kc⟩,fun j' c' hj' => ?_,hjj,rr⟩,U⟩
  by_cases e : j' = i
  ·subst e
   rw [hi] at hj'
   cases hj'
   exact hc1.upd hw fun y => y
  ·exact (hchs j' c' hj').upd U fun e' => e'.elim (fun e' => e (hjj j' i ch (e' ▸ hj') hi)) fun y => by have := (hchs j' c' hj').lt;omega
def StaV (x : Sta) : Prop := (0 ≤ x.s ∧ x.s ≤ 2) ∧ x.xs[0]? = some (.int .u32 0) ∧ (x.s = 0 → x.c = 0)
def anyR (L : List Sta) : Bool := L.any fun x => decide (x.s = 0)
theorem anyR_snoc (L : List Sta) {i : Nat} {x : Sta} (h : L[i]? = some x) : anyR (L.take (i + 1)) = (anyR (L.take i) || decide (x.s = 0)) := by
 unfold anyR
 rw [List.take_add_one,h]
 simp
theorem stas_one {L : List Sta} (h : ∀ x ∈ L,StaOk x) : (stas L).flatten.all Value.oneCell' = true := by
 rw [List.all_eq_true]
 intro v hv
 obtain ⟨l,hl,hv⟩ := List.mem_flatten.1 hv
 obtain ⟨x,hx,rfl⟩ := List.mem_map.1 hl
 exact List.all_eq_true.1 (h x hx).one v hv
theorem wSetOk (wd sa : Nat) (L L' : List Sta) (t t' : Int) (v : Value) (w : World) (hW : WardS w wd sa L t) (hA : Sv w 35 L'.length v (stas L').flatten) (hl' : L'.length = L.length) (hok : ∀ x ∈ L',StaOk x ∧ StaV x) (ht : -1 ≤ t' ∧ t' < L'.length) (hany : anyR L' = decide (0 ≤ t')) (hr : ∀ x,0 ≤ t' → L'[t'.toNat]? = some x → x.s = 0) :
  Calls Tryz.prog 79 #[.pointer (some ⟨wd,0,none⟩),v,.int .i64 t'] w fun e w' => ∃ sa',e = .returned (.int .i64 0) ∧ WardS w' wd sa' L' t' ∧ w.heap.size ≤ sa' ∧ Upd (fun k => k = wd ∨ w.heap.size ≤ k) w w' := by
 have hne := hW.ne
 obtain ⟨⟨cap0,J,a,b⟩,hl,h1,h4⟩ := hW
 obtain ⟨hlen,va,vc,rfl,hc1,hc2,hc3,hcell⟩ := id hA
 have hL1 : 1 ≤ L'.length := by omega
 obtain ⟨vb,vo,rfl,hcs⟩ := hcell (fun e => by rw [e] at hlen;simp at hlen;omega)
 have hat : ∀ (i : Nat) (x : Sta),L'[i]? = some x → ∀ (q : Nat) (u : Value),x.cells[q]? = some u → w.cell? ⟨vb,vo + i * 35 + q,none⟩ = some u := fun i x hx q u hq => by
  have hq35 : q < 35 := by
   have h := (List.getElem?_eq_some_iff.1 hq).1
   rw [(hok x (List.mem_of_getElem? hx)).1.len] at h
   exact h
  have e := flat_get (stas_len fun y hy => (hok y hy).1) (stas_at hx) hq35
  rw [hq] at e
  obtain ⟨hj,e2⟩ := List.getElem?_eq_some_iff.1 e
  rw [Nat.add_assoc,hcs _ hj,e2]
 have hvb : vb < w.heap.size := by
  obtain ⟨x,hx⟩ : ∃ x,L'[0]? = some x := ⟨_,List.getElem?_eq_getElem kc⟩
  exact World.block_lt_of_cell? w _ (hat 0 x hx 0 _ rfl)
 have p0 : w.cell? ⟨wd,0,none⟩ = some (.slice (some ⟨sa,0,none⟩) L.length cap0) := cell_of a rfl
 have hlw := lt_of_block a
 have d1 : decide ((L'.length : Int) ≠ (L.length : Int)) = false := decide_eq_false kc
 have d2 : decide (t' < -1) = false := decide_eq_false kc
 have d3 : decide (t' ≥ (L'.length : Int)) = false := decide_eq_false kc
 refine enter (args := [_,_,_]) (Γ := [(0,_),(1,_),(2,_)]) Tryz.func79 Tryz.ntmps79 rfl odq (.cons rfl (.cons rfl (.cons rfl .nil))) ?_
 repeat' first | (apply Wl.loadO;exact rfl;exact rfl;exact zx;exact km) | refine Wl.move rfl rfl ?_ | refine Wl.assign rfl rfl ?_ | (apply Wl.on;exact rfl;exact rfl;exact k5) | refine Wl.nilCheck rfl rfl ?_ | (apply Wl.pickF;exact rfl;exact rfl;exact k5;exact rfl) | refine Wl.fieldAddr0 rfl rfl ?_ | refine Wl.eqlPN rfl rfl rfl ?_ | refine Wl.neq rfl rfl rfl ?_ | refine Wl.lss rfl rfl rfl ?_ | refine Wl.geq rfl rfl rfl ?_ | refine Wl.len rfl rfl ?_ | apply Wl.nil | apply St.seq | apply St.block | apply St.region | (apply St.condF;exact rfl;exact k5) | apply St.skip | apply Gt.next
 refine St.loop (σ := Nat) (fun i => i ≤ L'.length) (fun i => [(0,.pointer (some ⟨wd,0,none⟩)),(1,.slice (some ⟨vb,vo,none⟩) L'.length vc),(2,.int .i64 t'),(7,.bool (anyR (L'.take i))),(32,.slice (some ⟨vb,vo,none⟩) L'.length vc),(33,.int .i64 L'.length),(34,.int .i64 (i : Int))])
  (fun _ => Hp w []) (fun i => L'.length - i) 0 (Nat.zero_le _) kq (fun _ h => h) ?_
 intro i hi
 by_cases hlt : i < L'.length
 ·have hd : decide ((i : Int) < (L'.length : Int)) = true := decide_eq_true kc
  obtain ⟨x,hx⟩ : ∃ x,L'[i]? = some x := ⟨_,List.getElem?_eq_getElem hlt⟩
  obtain ⟨hxo,⟨⟨s0,s2⟩,hx0,hsc⟩⟩ := hok x (List.mem_of_getElem? hx)
  have hati := hat i x hx
  have hsn := anyR_snoc L' hx
  have e1 : decide (x.s < 0) = false := decide_eq_false kc
  have e2 : decide (x.s > 2) = false := decide_eq_false kc
  have hx3 : x.cells[3 + (0 : Int).toNat * 1]? = some (.int .u32 0) := hx0
  have hati' : ∀ q u,x.cells[q]? = some u → w.cell? (Addr.add ⟨vb,vo + (i : Int).toNat * 35,none⟩ q) = some u := fun q u hq => by rw [addLit,Int.toNat_natCast];exact hati q u hq
  generalize anyR (L'.take i) = an at *
  by_cases hz : x.s = 0
  ·have e3 : decide (x.s = 0) = true := decide_eq_true hz
   have e4 : x.c = 0 := hsc hz
   have hsn' : anyR (L'.take (i + 1)) = true := by rw [hsn,e3,Bool.or_true]
   repeat' first | (apply Wl.storeA (xs := x.cells);exact rfl;exact rfl;exact hxo.len;exact hxo.one;exact kd;exact .z (LOver.whole qj)) | (apply Wl.loadH;exact rfl;exact rfl;exact (.head _);exact qq) | (apply Wl.loadAF (xs := x.cells);exact rfl;exact rfl;exact hxo.len;(intro wq hq q u hq';exact hq.old (hati' q u hq') ze)) | refine Wl.move rfl rfl ?_ | refine Wl.assign rfl rfl ?_ | (apply Wl.on;exact rfl;exact rfl;exact k5) | (apply Wl.off;exact rfl;exact rfl;exact rfl;exact kh) | (apply Wl.pickT;exact rfl;exact rfl;exact k5;exact rfl) | (apply Wl.pickF;exact rfl;exact rfl;exact k5;exact rfl) | refine Wl.fieldAddr0 rfl rfl ?_ | refine Wl.fieldAddrZ rfl rfl ?_ | (apply Wl.eqlIs;exact rfl;exact rfl;exact rfl;exact kx) | (apply Wl.neqIs;exact rfl;exact rfl;exact rfl;exact kx) | refine Wl.lss rfl rfl rfl ?_ | refine Wl.gtr rfl rfl rfl ?_ | (refine Wl.addI rfl rfl rfl ?_ ?_;constructor <;> omega) | (apply Wl.alloc;exact rfl;intro c hc ho) | (refine Wl.indexAddr rfl rfl rfl ?_ ?_;constructor <;> omega) | (refine Wl.indexArr rfl rfl rfl ?_ ?_;constructor <;> omega) | apply Wl.nil | apply St.seq | apply St.block | apply St.region | (apply St.condT;exact rfl;exact k5) | (apply St.condF;exact rfl;exact k5) | apply St.skip | apply Gt.next | apply Gt.inNormal | (apply Wl.splitB;exact rfl;exact rfl;all_goals intros)
   all_goals
    apply Gt.round (i + 1)
    rotate_left
    ·omega
    ·rw [hsn'];exact kd
    ·exact fun _ h => Hp.pop h (by simp only;assumption)
    ·exact hlt
  ·have e3 : decide (x.s = 0) = false := decide_eq_false hz
   have hsn' : anyR (L'.take (i + 1)) = an := by rw [hsn,e3,Bool.or_false]
   cases an
   all_goals
    repeat' first | (apply Wl.storeA (xs := x.cells);exact rfl;exact rfl;exact hxo.len;exact hxo.one;exact kd;exact .z (LOver.whole qj)) | (apply Wl.loadH;exact rfl;exact rfl;exact (.head _);exact qq) | (apply Wl.loadAF (xs := x.cells);exact rfl;exact rfl;exact hxo.len;(intro wq hq q u hq';exact hq.old (hati' q u hq') ze)) | refine Wl.move rfl rfl ?_ | refine Wl.assign rfl rfl ?_ | (apply Wl.on;exact rfl;exact rfl;exact k5) | (apply Wl.off;exact rfl;exact rfl;exact rfl;exact kh) | (apply Wl.pickT;exact rfl;exact rfl;exact k5;exact rfl) | (apply Wl.pickF;exact rfl;exact rfl;exact k5;exact rfl) | refine Wl.fieldAddr0 rfl rfl ?_ | refine Wl.fieldAddrZ rfl rfl ?_ | (apply Wl.neqIs;exact rfl;exact rfl;exact rfl;exact kx) | refine Wl.eql rfl rfl rfl ?_ | refine Wl.lss rfl rfl rfl ?_ | refine Wl.gtr rfl rfl rfl ?_ | (refine Wl.addI rfl rfl rfl ?_ ?_;constructor <;> omega) | (apply Wl.alloc;exact rfl;intro c hc ho) | (refine Wl.indexAddr rfl rfl rfl ?_ ?_;constructor <;> omega) | (refine Wl.indexArr rfl rfl rfl ?_ ?_;constructor <;> omega) | apply Wl.nil | apply St.seq | apply St.block | apply St.region | (apply St.condT;exact rfl;exact k5) | (apply St.condF;exact rfl;exact k5) | apply St.skip | apply Gt.next | apply Gt.inNormal
   all_goals
    apply Gt.round (i + 1)
    rotate_left
    ·omega
    ·rw [hsn];exact kd
    ·exact fun _ h => Hp.pop h (by simp only;assumption)
    ·exact hlt
 ·obtain rfl : i = L'.length := by omega
  have hd : decide ((L'.length : Int) < (L'.length : Int)) = false := decide_eq_false kc
  have hany' : anyR (L'.take L'.length) = decide (t' ≥ 0) := by rw [List.take_length];exact hany
  rw [hany']
  have dn : ∀ b : Bool,(!(b == b)) = false := fun b => by cases b <;> rfl
  have tail : ∀ {Q : Exit → Act → World → Prop} {Γ : Env},True := trivial
  by_cases hpos : 0 ≤ t'
  ·have d5 : decide (t' ≥ 0) = true := decide_eq_true hpos
   have dq : true = decide (0 ≤ t') := (decide_eq_true hpos).symm
   have dq2 : decide (0 ≤ t') = true := decide_eq_true hpos
   obtain ⟨x,hx⟩ : ∃ x,L'[t'.toNat]? = some x := ⟨_,List.getElem?_eq_getElem kc⟩
   have h0 := hr x hpos hx
   have d6 : decide (x.s ≠ 0) = false := decide_eq_false (fun h => h h0)
   have p3 : w.cell? ⟨vb,vo + t'.toNat * 35,none⟩ = some (.int .i64 x.s) := hat _ x hx 0 _ rfl
   rw [d5]
   repeat' first | (apply Wl.loadO;exact rfl;exact rfl;exact zx;exact km) | refine Wl.move rfl rfl ?_ | (apply Wl.on;exact rfl;exact rfl;exact k5) | (apply Wl.pickT;exact rfl;exact rfl;exact k5;exact rfl) | (apply Wl.pickF;exact rfl;exact rfl;exact k5;exact rfl) | refine Wl.fieldAddr0 rfl rfl ?_ | (apply Wl.neqIs;exact rfl;exact rfl;exact rfl;exact kx) | refine Wl.lss rfl rfl rfl ?_ | refine Wl.geq rfl rfl rfl ?_ | (apply Wl.neqBs;exact rfl;exact rfl;exact rfl;exact kx) | (refine Wl.indexAddr rfl rfl rfl ?_ ?_;constructor <;> omega) | apply Wl.nil | apply St.seq | apply St.region | (apply St.condF;exact rfl;exact k5) | apply St.skip | apply St.exit | apply Gt.next | apply Gt.thenExit | apply Gt.inExit
   all_goals
    apply Wl.appendV (base := w.heap.size) (n := 0) (m := L'.length) (sz := 35) (xs := []) (news := (stas L').flatten) (v := .slice none 0 0) (y := .slice (some ⟨vb,vo,none⟩) L'.length vc)
    ·exact rfl
    ·exact rfl
    ·exact rfl
    ·exact hA
    ·exact fun _ _ _ _ => trivial
    ·exact World.ownsRow_nil w _ _ _
    ·exact fun k hk => by cases hk
    ·exact stas_one fun y hy => (hok y hy).1
    ·exact rfl
    ·decide
    ·omega
    ·omega
    ·exact Nat.le_refl _
    intro v' w1 ho1 u1 _ hoff1
    rw [Nat.zero_add,List.nil_append] at ho1
    obtain ⟨g,cp,J',rfl,hg1,hg2⟩ := ho1.blk kc
    have uu : Upd (fun _ => False) w w1 := u1.mono fun k _ hs => hs.elim (fun e => by cases e) fun y => y trivial
    have a1 := uu.heap a id
    have l1 := uu.size
    refine Wl.cls (fun _ h' => Hp.open h' a1 trivial) ?_
    repeat' first | refine Wl.move rfl rfl ?_ | refine Wl.assign rfl rfl ?_ | refine Wl.nilCheck rfl rfl ?_ | refine Wl.fieldAddr0 rfl rfl ?_ | refine Wl.fieldAddrZ rfl rfl ?_ | (apply Wl.store;exact rfl;exact rfl;exact rfl;exact kd;exact ki) | apply Wl.nil | apply St.seq | apply St.region | apply St.ret | apply Gt.next | (apply Gt.out1;exact rfl;exact rfl;intro w' hp)
    refine ⟨g,rfl,⟨⟨cp,J',hp.own.at (.head _),hp.upd.heap hg2 fun y => y ⟨by simp only;omega,trivial⟩⟩,fun y hy => (hok y hy).1,by omega,by omega⟩,hg1,?_⟩
    exact uu.comp (Hp.turned hp) fun k hk hs => hs.elim False.elim fun e => .inl e
  ·have d5 : decide (t' ≥ 0) = false := decide_eq_false hpos
   have dq : false = decide (0 ≤ t') := (decide_eq_false hpos).symm
   have dq2 : decide (0 ≤ t') = false := decide_eq_false hpos
   rw [d5]
   repeat' first | refine Wl.move rfl rfl ?_ | (apply Wl.on;exact rfl;exact rfl;exact k5) | (apply Wl.off;exact rfl;exact rfl;exact rfl;exact kh) | (apply Wl.pickF;exact rfl;exact rfl;exact k5;exact rfl) | refine Wl.lss rfl rfl rfl ?_ | refine Wl.geq rfl rfl rfl ?_ | (apply Wl.neqBs;exact rfl;exact rfl;exact rfl;exact kx) | apply Wl.nil | apply St.seq | apply St.region | (apply St.condF;exact rfl;exact k5) | apply St.skip | apply St.exit | apply Gt.next | apply Gt.thenExit | apply Gt.inExit
   all_goals
    apply Wl.appendV (base := w.heap.size) (n := 0) (m := L'.length) (sz := 35) (xs := []) (news := (stas L').flatten) (v := .slice none 0 0) (y := .slice (some ⟨vb,vo,none⟩) L'.length vc)
    ·exact rfl
    ·exact rfl
    ·exact rfl
    ·exact hA
    ·exact fun _ _ _ _ => trivial
    ·exact World.ownsRow_nil w _ _ _
    ·exact fun k hk => by cases hk
    ·exact stas_one fun y hy => (hok y hy).1
    ·exact rfl
    ·decide
    ·omega
    ·omega
    ·exact Nat.le_refl _
    intro v' w1 ho1 u1 _ hoff1
    rw [Nat.zero_add,List.nil_append] at ho1
    obtain ⟨g,cp,J',rfl,hg1,hg2⟩ := ho1.blk kc
    have uu : Upd (fun _ => False) w w1 := u1.mono fun k _ hs => hs.elim (fun e => by cases e) fun y => y trivial
    have a1 := uu.heap a id
    have l1 := uu.size
    refine Wl.cls (fun _ h' => Hp.open h' a1 trivial) ?_
    repeat' first | refine Wl.move rfl rfl ?_ | refine Wl.assign rfl rfl ?_ | refine Wl.nilCheck rfl rfl ?_ | refine Wl.fieldAddr0 rfl rfl ?_ | refine Wl.fieldAddrZ rfl rfl ?_ | (apply Wl.store;exact rfl;exact rfl;exact rfl;exact kd;exact ki) | apply Wl.nil | apply St.seq | apply St.region | apply St.ret | apply Gt.next | (apply Gt.out1;exact rfl;exact rfl;intro w' hp)
    refine ⟨g,rfl,⟨⟨cp,J',hp.own.at (.head _),hp.upd.heap hg2 fun y => y ⟨by simp only;omega,trivial⟩⟩,fun y hy => (hok y hy).1,by omega,by omega⟩,hg1,?_⟩
    exact uu.comp (Hp.turned hp) fun k hk hs => hs.elim False.elim fun e => .inl e
theorem row_neT {w : World} {b e sz n c t : Nat} {v : Value} {xs : List Value} {cs : Array Value} (h1 : w.ownsRow b e sz v n xs) (h2 : w.heap[c]? = some (.cells cs t (0,0))) (he : t ≠ e) : ∀ k,v.ownBlock = some k → k ≠ c := row_neB h1 h2 he.symm
theorem MonS.off {w : World} {base : Nat} {I : Mi} {M : Mv2} (k : MonS w base I M) {b t : Nat} {cs : Array Value} (hb : w.heap[b]? = some (.cells cs t (0,0))) :
  (t ≠ 130 → I.m ≠ b) ∧ (t ≠ 133 → I.h ≠ b) ∧ (t ≠ 139 → I.d ≠ b) ∧ (t ≠ 210 → I.wd ≠ b) ∧ (t ≠ 44 → I.sa ≠ b) ∧ (t ≠ 255 → I.pp ≠ b) ∧ (t ≠ 232 → I.pa ≠ b) ∧ (t ≠ 231 → I.bd ≠ b) ∧ (t ≠ 9 → I.ia ≠ b) ∧ (t ≠ 156 → I.cM ≠ b) ∧ (∀ c ∈ I.cs,c ≠ b) ∧ (t ≠ 111 → ∀ c,M.lv.ownBlock = some c → c ≠ b) ∧ (t ≠ 70 → ∀ c,M.seen.ownBlock = some c → c ≠ b) := by
 obtain ⟨⟨wc,J1,wa,wb⟩,_⟩ := k.ward
 obtain ⟨⟨pc,J2,pa,pb⟩,hch,_⟩ := k.post
 obtain ⟨⟨bc,J3,ba,bb⟩,hlv,_⟩ := k.board
 refine ⟨fun h => (blk_ne hb k.mm h).symm,fun h => (blk_ne hb k.hart.2 h).symm,fun h => (blk_ne hb k.dd h).symm,fun h => (blk_ne hb wa h).symm,fun h => (blk_ne hb wb h).symm,fun h => (blk_ne hb pa h).symm,fun h => (blk_ne hb pb h).symm,fun h => (blk_ne hb ba h).symm,fun h => (blk_ne hb bb h).symm,fun h => (blk_ne hb k.mem h).symm,?_,fun h => row_neT hlv hb h,fun h => row_neT k.seen hb h⟩
 intro c hc
 obtain ⟨i,hi⟩ := List.mem_iff_getElem?.1 hc
 exact chan_ne (hch i c hi) hb
section
variable {w w' : World} {base : Nat} {I : Mi} {M : Mv2}
theorem MonS.lts (k : MonS w base I M) : I.m < w.heap.size ∧ I.h < w.heap.size ∧ I.d < w.heap.size ∧ I.wd < w.heap.size ∧ I.sa < w.heap.size ∧ I.pp < w.heap.size ∧ I.pa < w.heap.size ∧ I.bd < w.heap.size ∧ I.ia < w.heap.size ∧ I.cM < w.heap.size ∧ (∀ c ∈ I.cs,c < w.heap.size) ∧ (∀ c,M.lv.ownBlock = some c → c < w.heap.size) ∧ (∀ c,M.seen.ownBlock = some c → c < w.heap.size) :=
 ⟨(k.lt _ (.inl rfl)).2,(k.lt _ (.inr (.inl rfl))).2,(k.lt _ (.inr (.inr (.inl rfl)))).2,k.ward.lt.1,k.ward.lt.2,k.post.lt.1,k.post.lt.2.1,k.board.lt.1,k.board.lt.2.1,lt_of_block k.mem,k.post.lt.2.2,fun c h => (k.board.lt.2.2 c h).2,fun c h => (k.seen.ge c h).2⟩
theorem MonS.set {L' : List Sta} {t' : Int} {sa' : Nat} (k : MonS w base I M) (hW : WardS w' I.wd sa' L' t') (hl : L'.length = M.L.length) (hsa : base ≤ sa') (u : Upd (fun b => b = I.wd ∨ w.heap.size ≤ b) w w') : MonS w' base {I with sa := sa'} {M with L := L',t := t'} := by
 obtain ⟨⟨wc,J1,wa,wb⟩,_⟩ := k.ward
 obtain ⟨n1,n2,n3,n4,n5,n6,n7,n8,n9,n10,n11,n12,n13⟩ := k.off wa
 obtain ⟨l1,l2,l3,l4,l5,l6,l7,l8,l9,l10,l11,l12,l13⟩ := k.lts
 obtain ⟨g1,g2,g3,g4,g5,g6,g7,g8,g9,g10,g11⟩ := k.ge
 exact {
  mm := u.heap k.mm fun h => h.elim (n1 ku) fun h => absurd h (Nat.not_le.2 l1)
  dd := u.heap k.dd fun h => h.elim (n3 ku) fun h => absurd h (Nat.not_le.2 l3)
  ward := hW
  post := k.post.upd u (fun h => h.elim (n6 ku) fun h => absurd h (Nat.not_le.2 l6)) (fun h => h.elim (n7 ku) fun h => absurd h (Nat.not_le.2 l7)) fun c hc h => h.elim (n11 c hc) fun h => absurd h (Nat.not_le.2 (l11 c hc))
  board := k.board.upd u (fun h => h.elim (n8 ku) fun h => absurd h (Nat.not_le.2 l8)) (fun h => h.elim (n9 ku) fun h => absurd h (Nat.not_le.2 l9)) fun c hc h => h.elim (n12 ku c hc) fun h => absurd h (Nat.not_le.2 (l12 c hc))
  mem := u.heap k.mem fun h => h.elim (n10 ku) fun h => absurd h (Nat.not_le.2 l10)
  hart := k.hart.upd u fun h => h.elim (n2 ku) fun h => absurd h (Nat.not_le.2 l2)
  seen := ownsRow_upd k.seen u fun c hc h => h.elim (n13 ku c hc) fun h => absurd h (Nat.not_le.2 (l13 c hc))
  rg := k.rg
  len := ⟨k.len.1.trans hl.symm,k.len.2.trans hl.symm⟩
  ge := ⟨g1,g2,g3,g4,hsa,g6,g7,g8,g9,g10,g11⟩ }
theorem MonS.feed {ins' : List (List UInt8)} (k : MonS w base I M) (hB : BoardS w' base I.bd I.ia M.lv M.ll M.used ins') (hl : ins'.length = M.ins.length) (u : Upd (fun b => b = I.ia) w w') : MonS w' base I {M with ins := ins'} := by
 obtain ⟨⟨bc,J3,ba,bb⟩,hlv,_⟩ := k.board
 obtain ⟨n1,n2,n3,n4,n5,n6,n7,n8,n9,n10,n11,n12,n13⟩ := k.off bb
 exact {
  mm := u.heap k.mm (n1 ku)
  dd := u.heap k.dd (n3 ku)
  ward := k.ward.upd u (n4 ku) (n5 ku)
  post := k.post.upd u (n6 ku) (n7 ku) n11
  board := hB
  mem := u.heap k.mem (n10 ku)
  hart := k.hart.upd u (n2 ku)
  seen := ownsRow_upd k.seen u (n13 ku)
  rg := k.rg
  len := ⟨k.len.1,hl.trans k.len.2⟩
  ge := k.ge }
end
end Go.Proofs.YtabbklpalbikdaaGreatDoor
end
section
namespace Go.Pt
theorem Mt.eff3 {P : Program} {ops : Array Oper} {N n : Nat} {Γ : Env} {C D : World → Prop} {Q : Act → World → Prop} {listed : Array Bool} {i j k : Nat} {o o' o'' : Oper} (hr : Region.ready .any ops listed = [i,j,k]) (hi : ops[i]? = some o) (hj : ops[j]? = some o') (hk : ops[k]? = some o'')
  (h : Wl [o] P .seq ops N Γ D (MtE P ops C Q n (listed.setIfInBounds i true))) (h' : Wl [o'] P .seq ops N Γ D (MtE P ops C Q n (listed.setIfInBounds j true))) (h'' : Wl [o''] P .seq ops N Γ D (MtE P ops C Q n (listed.setIfInBounds k true))) : Mt P ops N (n + 1) listed Γ D C Q := fun a w ha hD hC => by
 refine ⟨hC,fun e => qy,fun x hx => ?_⟩
 rw [hr] at hx
 simp only [List.mem_cons,List.not_mem_nil,or_false] at hx
 rcases hx with rfl | rfl | rfl
 ·exact Mt.op hi h a w ha hD
 ·exact Mt.op hj h' a w ha hD
 ·exact Mt.op hk h'' a w ha hD
end Go.Pt
namespace Go.Proofs.YtabbklpalbikdaaGreatDoor
open Go.RowKit Go.Pt
section
variable (base bd ia : Nat) (lv : Value) (ll : List (Int × List UInt8)) (used : Int) (ins : List (List UInt8)) (who : Nat) (s : List UInt8) (w : World)
theorem bSay (hB : BoardS w base bd ia lv ll used ins) (hwho : who < ins.length) (hs0 : s ≠ []) (hs : s.length ≤ 64) (hu : 0 ≤ used ∧ used ≤ 256) (hf : used + s.length ≤ 256) (hll : ll.length ≤ 1000) (hb : base ≤ w.heap.size) :
  Calls Tryz.prog 81 #[.pointer (some ⟨bd,0,none⟩),.int .i64 who,strV s] w fun e w' => ∃ lv',e = .returned (.int .i64 0) ∧ BoardS w' base bd ia lv' (ll ++ [((who : Int),s)]) (used + s.length) ins ∧ Upd (fun k => k = bd ∨ lv.ownBlock = some k ∨ w.heap.size ≤ k) w w' ∧ (∀ k,lv'.ownBlock = some k → lv.ownBlock = some k ∨ w.heap.size ≤ k) := by
 have hB0 := hB
 have hwl : who < ins.length := hwho
 obtain ⟨⟨cap,J,a,b⟩,hr,r1,r2⟩ := hB
 have p1 : w.cell? ⟨bd,1,none⟩ = some (.int .i64 used) := cell_of a rfl
 have hs1 := strV_size s
 have hd0 : decide (((strOf s).size : Int) > 64) = false := decide_eq_false kc
 have hd1 : decide (used + ((strOf s).size : Int) > 256) = false := decide_eq_false kc
 have hd2 : decide (s ≠ []) = true := decide_eq_true hs0
 have hne : bd ≠ ia := blk_ne a b
 have hlb : bd < w.heap.size := lt_of_block a
 have hla : ia < w.heap.size := lt_of_block b
 have hlo : ∀ k,lv.ownBlock = some k → k ≠ bd ∧ k ≠ ia := fun k hk => (hr.heap hk).elim fun _ hg => ⟨blk_ne hg a,blk_ne hg b⟩
 refine enter (args := [_,_,_]) (Γ := [(0,_),(1,_),(2,_)]) Tryz.func81 Tryz.ntmps81 rfl odq (.cons rfl (.cons rfl (.cons rfl .nil))) ?_
 repeat' first | refine Wl.move rfl rfl ?_ | refine Wl.assign rfl rfl ?_ | apply Wl.nil | apply St.seq | apply St.block | apply St.region | apply Gt.next
 apply Wl.callQ
 exact rfl
 (focus repeat constructor)
 ·intro wq hq
  exact hq.q (bHas base bd ia lv ll used ins who wq (hB0.upd hq.upd nt0 nt0 fun _ _ y => y trivial) hwl)
 repeat' first | (apply Wl.loadO;exact rfl;exact rfl;exact zx;exact km) | (apply Wl.neqSB (p := s) (q := []);exact rfl;exact rfl;exact rfl) | refine Wl.move rfl rfl ?_ | refine Wl.assign rfl rfl ?_ | (apply Wl.on;exact rfl;exact rfl;exact k5) | refine Wl.nilCheck rfl rfl ?_ | (apply Wl.pickF;exact rfl;exact rfl;exact k5;exact rfl) | refine Wl.not rfl rfl ?_ | refine Wl.fieldAddrZ rfl rfl ?_ | refine Wl.gtr rfl rfl rfl ?_ | (refine Wl.addI rfl rfl rfl ?_ ?_;constructor <;> omega) | refine Wl.lenS rfl rfl ?_ | apply Wl.nil | apply St.seq | apply St.region | (apply St.condT;exact rfl;exact k5) | (apply St.condF;exact rfl;exact k5) | apply Gt.next
 refine St.cls (fun _ h' => Hp.open h' a trivial) ?_
 refine St.tree (fun _ => True) mixed (fun _ h' => ⟨Hp.drew h',trivial⟩) ?_
 refine Mt.pm 0 ?_
 refine Mt.pm 1 ?_
 refine Mt.pm 2 ?_
 refine Mt.pm 6 ?_
 refine Mt.pm 7 ?_
 refine Mt.pm 11 ?_
 refine Mt.pm 15 ?_
 refine Mt.pn 3 ?_
 refine Mt.pu 8 ?_
 apply Wl.buildS;exact rfl;exact kj;exact ka;apply Wl.nilB
 refine Mt.pn 12 ?_
 refine Mt.pu 16 ?_
 refine Wl.lenS rfl rfl (Wl.nilB ?_)
 refine Mt.pf 4 ?_
 refine Mt.pz 13 ?_
 refine Mt.eff3 (i := 5) (j := 9) (k := 14) kb kf kf kf ?_ ?_ ?_
 ·repeat' first | (apply Wl.loadH;exact rfl;exact rfl;exact kd;exact rfl) | apply Wl.nil
  refine Mt.backE (fun _ _ => trivial) ?_
  refine Mt.eff2 (i := 9) (j := 14) kb kf kf ?_ ?_
  ·repeat' first | (apply Wl.lit;exact rfl;exact kj;exact rfl;exact rfl;exact ke;intro c hc ho) | apply Wl.nil
   refine Mt.backE (fun _ _ => trivial) ?_
   refine Mt.eff2 (i := 10) (j := 14) kb kf kf ?_ ?_
   ·apply Wl.appendT (base := base) (n := ll.length) (m := 1) (sz := 2) (e := 111) (xs := (ll.map lineC).flatten)
    ·exact rfl
    ·exact rfl
    ·exact rfl
    ·assumption
    ·exact rfl
    ·exact hr
    ·exact fun k hk => ⟨fun e => (hlo k hk).1 e.symm,trivial⟩
    ·exact rfl
    ·exact rfl
    ·decide
    ·unfold maxLen;omega
    ·omega
    ·omega
    intro v' w5 ho5 u5 _ hoff5
    have hov := ho5.one
    have s5 := u5.size
    apply Wl.nil
    refine Mt.backE (fun _ _ => trivial) ?_
    refine Mt.e1 14 ?_
    repeat' first | (apply Wl.loadH;exact rfl;exact rfl;exact kd;exact rfl) | apply Wl.nil
    refine Mt.backE (fun _ _ => trivial) ?_
    refine Mt.pu 17 ?_
    refine Wl.addI rfl rfl rfl ?_ ?_;constructor <;> omega;apply Wl.nilB
    refine Mt.pn 18 ?_
    refine Mt.pf 19 ?_
    refine Mt.e1 20 ?_
    apply Wl.store
    ·exact rfl
    ·exact rfl
    ·first | exact hov | exact rfl
    ·exact kd
    ·exact ki
    apply Wl.nil
    refine Mt.backE (fun _ _ => trivial) ?_
    refine Mt.pn 21 ?_
    refine Mt.pz 22 ?_
    refine Mt.e1 23 ?_
    apply Wl.store
    ·exact rfl
    ·exact rfl
    ·first | exact hov | exact rfl
    ·exact kd
    ·exact ki
    apply Wl.nil
    refine Mt.backE (fun _ _ => trivial) ?_
    refine Mt.toGt kb ?_
    repeat' first | refine Wl.assign rfl rfl ?_ | apply Wl.nil | apply St.seq | apply St.region | apply St.ret | apply Gt.next | apply Gt.inNormal | (apply Gt.out1;exact rfl;exact rfl;intro w' hp)
    have b5 := u5.heap b fun h => by rcases h with h | h;exact (hlo _ h).2 rfl;exact h ⟨hne,trivial⟩
    refine ⟨v',rfl,⟨⟨cap,J,by rw [← hs1];exact hp.own.at (.head _),hp.upd.heap b5 fun y => y ⟨hne,trivial⟩⟩,?_,r1,r2⟩,?_,fun k hk => (hoff5 k hk).2⟩
    ·have h := ownsRow_upd ho5 hp.upd fun k hk y => y (hoff5 k hk).1
     rw [List.length_append,List.map_append,List.flatten_append]
     exact h
    ·exact u5.comp hp.upd fun k hk hs => by
      rcases hs with (h | h) | h
      ·exact .inr (.inl h)
      ·exact .inl (Classical.byContradiction fun hn => h ⟨fun e => hn e.symm,trivial⟩)
      ·exact .inl (Classical.byContradiction fun hn => h ⟨fun e => hn e.symm,trivial⟩)
   ·repeat' first | (apply Wl.loadH;exact rfl;exact rfl;exact kd;exact rfl) | apply Wl.nil
    refine Mt.backE (fun _ _ => trivial) ?_
    refine Mt.pu 17 ?_
    refine Wl.addI rfl rfl rfl ?_ ?_;constructor <;> omega;apply Wl.nilB
    refine Mt.e1 10 ?_
    apply Wl.appendT (base := base) (n := ll.length) (m := 1) (sz := 2) (e := 111) (xs := (ll.map lineC).flatten)
    ·exact rfl
    ·exact rfl
    ·exact rfl
    ·assumption
    ·exact rfl
    ·exact hr
    ·exact fun k hk => ⟨fun e => (hlo k hk).1 e.symm,trivial⟩
    ·exact rfl
    ·exact rfl
    ·decide
    ·unfold maxLen;omega
    ·omega
    ·omega
    intro v' w5 ho5 u5 _ hoff5
    have hov := ho5.one
    have s5 := u5.size
    apply Wl.nil
    refine Mt.backE (fun _ _ => trivial) ?_
    refine Mt.pn 18 ?_
    refine Mt.pf 19 ?_
    refine Mt.e1 20 ?_
    apply Wl.store
    ·exact rfl
    ·exact rfl
    ·first | exact hov | exact rfl
    ·exact kd
    ·exact ki
    apply Wl.nil
    refine Mt.backE (fun _ _ => trivial) ?_
    refine Mt.pn 21 ?_
    refine Mt.pz 22 ?_
    refine Mt.e1 23 ?_
    apply Wl.store
    ·exact rfl
    ·exact rfl
    ·first | exact hov | exact rfl
    ·exact kd
    ·exact ki
    apply Wl.nil
    refine Mt.backE (fun _ _ => trivial) ?_
    refine Mt.toGt kb ?_
    repeat' first | refine Wl.assign rfl rfl ?_ | apply Wl.nil | apply St.seq | apply St.region | apply St.ret | apply Gt.next | apply Gt.inNormal | (apply Gt.out1;exact rfl;exact rfl;intro w' hp)
    have b5 := u5.heap b fun h => by rcases h with h | h;exact (hlo _ h).2 rfl;exact h ⟨hne,trivial⟩
    refine ⟨v',rfl,⟨⟨cap,J,by rw [← hs1];exact hp.own.at (.head _),hp.upd.heap b5 fun y => y ⟨hne,trivial⟩⟩,?_,r1,r2⟩,?_,fun k hk => (hoff5 k hk).2⟩
    ·have h := ownsRow_upd ho5 hp.upd fun k hk y => y (hoff5 k hk).1
     rw [List.length_append,List.map_append,List.flatten_append]
     exact h
    ·exact u5.comp hp.upd fun k hk hs => by
      rcases hs with (h | h) | h
      ·exact .inr (.inl h)
      ·exact .inl (Classical.byContradiction fun hn => h ⟨fun e => hn e.symm,trivial⟩)
      ·exact .inl (Classical.byContradiction fun hn => h ⟨fun e => hn e.symm,trivial⟩)
  ·repeat' first | (apply Wl.loadH;exact rfl;exact rfl;exact kd;exact rfl) | apply Wl.nil
   refine Mt.backE (fun _ _ => trivial) ?_
   refine Mt.pu 17 ?_
   refine Wl.addI rfl rfl rfl ?_ ?_;constructor <;> omega;apply Wl.nilB
   refine Mt.e1 9 ?_
   repeat' first | (apply Wl.lit;exact rfl;exact kj;exact rfl;exact rfl;exact ke;intro c hc ho) | apply Wl.nil
   refine Mt.backE (fun _ _ => trivial) ?_
   refine Mt.e1 10 ?_
   apply Wl.appendT (base := base) (n := ll.length) (m := 1) (sz := 2) (e := 111) (xs := (ll.map lineC).flatten)
   ·exact rfl
   ·exact rfl
   ·exact rfl
   ·assumption
   ·exact rfl
   ·exact hr
   ·exact fun k hk => ⟨fun e => (hlo k hk).1 e.symm,trivial⟩
   ·exact rfl
   ·exact rfl
   ·decide
   ·unfold maxLen;omega
   ·omega
   ·omega
   intro v' w5 ho5 u5 _ hoff5
   have hov := ho5.one
   have s5 := u5.size
   apply Wl.nil
   refine Mt.backE (fun _ _ => trivial) ?_
   refine Mt.pn 18 ?_
   refine Mt.pf 19 ?_
   refine Mt.e1 20 ?_
   apply Wl.store
   ·exact rfl
   ·exact rfl
   ·first | exact hov | exact rfl
   ·exact kd
   ·exact ki
   apply Wl.nil
   refine Mt.backE (fun _ _ => trivial) ?_
   refine Mt.pn 21 ?_
   refine Mt.pz 22 ?_
   refine Mt.e1 23 ?_
   apply Wl.store
   ·exact rfl
   ·exact rfl
   ·first | exact hov | exact rfl
   ·exact kd
   ·exact ki
   apply Wl.nil
   refine Mt.backE (fun _ _ => trivial) ?_
   refine Mt.toGt kb ?_
   repeat' first | refine Wl.assign rfl rfl ?_ | apply Wl.nil | apply St.seq | apply St.region | apply St.ret | apply Gt.next | apply Gt.inNormal | (apply Gt.out1;exact rfl;exact rfl;intro w' hp)
   have b5 := u5.heap b fun h => by rcases h with h | h;exact (hlo _ h).2 rfl;exact h ⟨hne,trivial⟩
   refine ⟨v',rfl,⟨⟨cap,J,by rw [← hs1];exact hp.own.at (.head _),hp.upd.heap b5 fun y => y ⟨hne,trivial⟩⟩,?_,r1,r2⟩,?_,fun k hk => (hoff5 k hk).2⟩
   ·have h := ownsRow_upd ho5 hp.upd fun k hk y => y (hoff5 k hk).1
    rw [List.length_append,List.map_append,List.flatten_append]
    exact h
   ·exact u5.comp hp.upd fun k hk hs => by
     rcases hs with (h | h) | h
     ·exact .inr (.inl h)
     ·exact .inl (Classical.byContradiction fun hn => h ⟨fun e => hn e.symm,trivial⟩)
     ·exact .inl (Classical.byContradiction fun hn => h ⟨fun e => hn e.symm,trivial⟩)
 ·repeat' first | (apply Wl.lit;exact rfl;exact kj;exact rfl;exact rfl;exact ke;intro c hc ho) | apply Wl.nil
  refine Mt.backE (fun _ _ => trivial) ?_
  refine Mt.eff2 (i := 5) (j := 14) kb kf kf ?_ ?_
  ·repeat' first | (apply Wl.loadH;exact rfl;exact rfl;exact kd;exact rfl) | apply Wl.nil
   refine Mt.backE (fun _ _ => trivial) ?_
   refine Mt.eff2 (i := 10) (j := 14) kb kf kf ?_ ?_
   ·apply Wl.appendT (base := base) (n := ll.length) (m := 1) (sz := 2) (e := 111) (xs := (ll.map lineC).flatten)
    ·exact rfl
    ·exact rfl
    ·exact rfl
    ·assumption
    ·exact rfl
    ·exact hr
    ·exact fun k hk => ⟨fun e => (hlo k hk).1 e.symm,trivial⟩
    ·exact rfl
    ·exact rfl
    ·decide
    ·unfold maxLen;omega
    ·omega
    ·omega
    intro v' w5 ho5 u5 _ hoff5
    have hov := ho5.one
    have s5 := u5.size
    apply Wl.nil
    refine Mt.backE (fun _ _ => trivial) ?_
    refine Mt.e1 14 ?_
    repeat' first | (apply Wl.loadH;exact rfl;exact rfl;exact kd;exact rfl) | apply Wl.nil
    refine Mt.backE (fun _ _ => trivial) ?_
    refine Mt.pu 17 ?_
    refine Wl.addI rfl rfl rfl ?_ ?_;constructor <;> omega;apply Wl.nilB
    refine Mt.pn 18 ?_
    refine Mt.pf 19 ?_
    refine Mt.e1 20 ?_
    apply Wl.store
    ·exact rfl
    ·exact rfl
    ·first | exact hov | exact rfl
    ·exact kd
    ·exact ki
    apply Wl.nil
    refine Mt.backE (fun _ _ => trivial) ?_
    refine Mt.pn 21 ?_
    refine Mt.pz 22 ?_
    refine Mt.e1 23 ?_
    apply Wl.store
    ·exact rfl
    ·exact rfl
    ·first | exact hov | exact rfl
    ·exact kd
    ·exact ki
    apply Wl.nil
    refine Mt.backE (fun _ _ => trivial) ?_
    refine Mt.toGt kb ?_
    repeat' first | refine Wl.assign rfl rfl ?_ | apply Wl.nil | apply St.seq | apply St.region | apply St.ret | apply Gt.next | apply Gt.inNormal | (apply Gt.out1;exact rfl;exact rfl;intro w' hp)
    have b5 := u5.heap b fun h => by rcases h with h | h;exact (hlo _ h).2 rfl;exact h ⟨hne,trivial⟩
    refine ⟨v',rfl,⟨⟨cap,J,by rw [← hs1];exact hp.own.at (.head _),hp.upd.heap b5 fun y => y ⟨hne,trivial⟩⟩,?_,r1,r2⟩,?_,fun k hk => (hoff5 k hk).2⟩
    ·have h := ownsRow_upd ho5 hp.upd fun k hk y => y (hoff5 k hk).1
     rw [List.length_append,List.map_append,List.flatten_append]
     exact h
    ·exact u5.comp hp.upd fun k hk hs => by
      rcases hs with (h | h) | h
      ·exact .inr (.inl h)
      ·exact .inl (Classical.byContradiction fun hn => h ⟨fun e => hn e.symm,trivial⟩)
      ·exact .inl (Classical.byContradiction fun hn => h ⟨fun e => hn e.symm,trivial⟩)
   ·repeat' first | (apply Wl.loadH;exact rfl;exact rfl;exact kd;exact rfl) | apply Wl.nil
    refine Mt.backE (fun _ _ => trivial) ?_
    refine Mt.pu 17 ?_
    refine Wl.addI rfl rfl rfl ?_ ?_;constructor <;> omega;apply Wl.nilB
    refine Mt.e1 10 ?_
    apply Wl.appendT (base := base) (n := ll.length) (m := 1) (sz := 2) (e := 111) (xs := (ll.map lineC).flatten)
    ·exact rfl
    ·exact rfl
    ·exact rfl
    ·assumption
    ·exact rfl
    ·exact hr
    ·exact fun k hk => ⟨fun e => (hlo k hk).1 e.symm,trivial⟩
    ·exact rfl
    ·exact rfl
    ·decide
    ·unfold maxLen;omega
    ·omega
    ·omega
    intro v' w5 ho5 u5 _ hoff5
    have hov := ho5.one
    have s5 := u5.size
    apply Wl.nil
    refine Mt.backE (fun _ _ => trivial) ?_
    refine Mt.pn 18 ?_
    refine Mt.pf 19 ?_
    refine Mt.e1 20 ?_
    apply Wl.store
    ·exact rfl
    ·exact rfl
    ·first | exact hov | exact rfl
    ·exact kd
    ·exact ki
    apply Wl.nil
    refine Mt.backE (fun _ _ => trivial) ?_
    refine Mt.pn 21 ?_
    refine Mt.pz 22 ?_
    refine Mt.e1 23 ?_
    apply Wl.store
    ·exact rfl
    ·exact rfl
    ·first | exact hov | exact rfl
    ·exact kd
    ·exact ki
    apply Wl.nil
    refine Mt.backE (fun _ _ => trivial) ?_
    refine Mt.toGt kb ?_
    repeat' first | refine Wl.assign rfl rfl ?_ | apply Wl.nil | apply St.seq | apply St.region | apply St.ret | apply Gt.next | apply Gt.inNormal | (apply Gt.out1;exact rfl;exact rfl;intro w' hp)
    have b5 := u5.heap b fun h => by rcases h with h | h;exact (hlo _ h).2 rfl;exact h ⟨hne,trivial⟩
    refine ⟨v',rfl,⟨⟨cap,J,by rw [← hs1];exact hp.own.at (.head _),hp.upd.heap b5 fun y => y ⟨hne,trivial⟩⟩,?_,r1,r2⟩,?_,fun k hk => (hoff5 k hk).2⟩
    ·have h := ownsRow_upd ho5 hp.upd fun k hk y => y (hoff5 k hk).1
     rw [List.length_append,List.map_append,List.flatten_append]
     exact h
    ·exact u5.comp hp.upd fun k hk hs => by
      rcases hs with (h | h) | h
      ·exact .inr (.inl h)
      ·exact .inl (Classical.byContradiction fun hn => h ⟨fun e => hn e.symm,trivial⟩)
      ·exact .inl (Classical.byContradiction fun hn => h ⟨fun e => hn e.symm,trivial⟩)
  ·repeat' first | (apply Wl.loadH;exact rfl;exact rfl;exact kd;exact rfl) | apply Wl.nil
   refine Mt.backE (fun _ _ => trivial) ?_
   refine Mt.pu 17 ?_
   refine Wl.addI rfl rfl rfl ?_ ?_;constructor <;> omega;apply Wl.nilB
   refine Mt.e1 5 ?_
   repeat' first | (apply Wl.loadH;exact rfl;exact rfl;exact kd;exact rfl) | apply Wl.nil
   refine Mt.backE (fun _ _ => trivial) ?_
   refine Mt.e1 10 ?_
   apply Wl.appendT (base := base) (n := ll.length) (m := 1) (sz := 2) (e := 111) (xs := (ll.map lineC).flatten)
   ·exact rfl
   ·exact rfl
   ·exact rfl
   ·assumption
   ·exact rfl
   ·exact hr
   ·exact fun k hk => ⟨fun e => (hlo k hk).1 e.symm,trivial⟩
   ·exact rfl
   ·exact rfl
   ·decide
   ·unfold maxLen;omega
   ·omega
   ·omega
   intro v' w5 ho5 u5 _ hoff5
   have hov := ho5.one
   have s5 := u5.size
   apply Wl.nil
   refine Mt.backE (fun _ _ => trivial) ?_
   refine Mt.pn 18 ?_
   refine Mt.pf 19 ?_
   refine Mt.e1 20 ?_
   apply Wl.store
   ·exact rfl
   ·exact rfl
   ·first | exact hov | exact rfl
   ·exact kd
   ·exact ki
   apply Wl.nil
   refine Mt.backE (fun _ _ => trivial) ?_
   refine Mt.pn 21 ?_
   refine Mt.pz 22 ?_
   refine Mt.e1 23 ?_
   apply Wl.store
   ·exact rfl
   ·exact rfl
   ·first | exact hov | exact rfl
   ·exact kd
   ·exact ki
   apply Wl.nil
   refine Mt.backE (fun _ _ => trivial) ?_
   refine Mt.toGt kb ?_
   repeat' first | refine Wl.assign rfl rfl ?_ | apply Wl.nil | apply St.seq | apply St.region | apply St.ret | apply Gt.next | apply Gt.inNormal | (apply Gt.out1;exact rfl;exact rfl;intro w' hp)
   have b5 := u5.heap b fun h => by rcases h with h | h;exact (hlo _ h).2 rfl;exact h ⟨hne,trivial⟩
   refine ⟨v',rfl,⟨⟨cap,J,by rw [← hs1];exact hp.own.at (.head _),hp.upd.heap b5 fun y => y ⟨hne,trivial⟩⟩,?_,r1,r2⟩,?_,fun k hk => (hoff5 k hk).2⟩
   ·have h := ownsRow_upd ho5 hp.upd fun k hk y => y (hoff5 k hk).1
    rw [List.length_append,List.map_append,List.flatten_append]
    exact h
   ·exact u5.comp hp.upd fun k hk hs => by
     rcases hs with (h | h) | h
     ·exact .inr (.inl h)
     ·exact .inl (Classical.byContradiction fun hn => h ⟨fun e => hn e.symm,trivial⟩)
     ·exact .inl (Classical.byContradiction fun hn => h ⟨fun e => hn e.symm,trivial⟩)
 ·repeat' first | (apply Wl.loadH;exact rfl;exact rfl;exact kd;exact rfl) | apply Wl.nil
  refine Mt.backE (fun _ _ => trivial) ?_
  refine Mt.pu 17 ?_
  refine Wl.addI rfl rfl rfl ?_ ?_;constructor <;> omega;apply Wl.nilB
  refine Mt.eff2 (i := 5) (j := 9) kb kf kf ?_ ?_
  ·repeat' first | (apply Wl.loadH;exact rfl;exact rfl;exact kd;exact rfl) | apply Wl.nil
   refine Mt.backE (fun _ _ => trivial) ?_
   refine Mt.e1 9 ?_
   repeat' first | (apply Wl.lit;exact rfl;exact kj;exact rfl;exact rfl;exact ke;intro c hc ho) | apply Wl.nil
   refine Mt.backE (fun _ _ => trivial) ?_
   refine Mt.e1 10 ?_
   apply Wl.appendT (base := base) (n := ll.length) (m := 1) (sz := 2) (e := 111) (xs := (ll.map lineC).flatten)
   ·exact rfl
   ·exact rfl
   ·exact rfl
   ·assumption
   ·exact rfl
   ·exact hr
   ·exact fun k hk => ⟨fun e => (hlo k hk).1 e.symm,trivial⟩
   ·exact rfl
   ·exact rfl
   ·decide
   ·unfold maxLen;omega
   ·omega
   ·omega
   intro v' w5 ho5 u5 _ hoff5
   have hov := ho5.one
   have s5 := u5.size
   apply Wl.nil
   refine Mt.backE (fun _ _ => trivial) ?_
   refine Mt.pn 18 ?_
   refine Mt.pf 19 ?_
   refine Mt.e1 20 ?_
   apply Wl.store
   ·exact rfl
   ·exact rfl
   ·first | exact hov | exact rfl
   ·exact kd
   ·exact ki
   apply Wl.nil
   refine Mt.backE (fun _ _ => trivial) ?_
   refine Mt.pn 21 ?_
   refine Mt.pz 22 ?_
   refine Mt.e1 23 ?_
   apply Wl.store
   ·exact rfl
   ·exact rfl
   ·first | exact hov | exact rfl
   ·exact kd
   ·exact ki
   apply Wl.nil
   refine Mt.backE (fun _ _ => trivial) ?_
   refine Mt.toGt kb ?_
   repeat' first | refine Wl.assign rfl rfl ?_ | apply Wl.nil | apply St.seq | apply St.region | apply St.ret | apply Gt.next | apply Gt.inNormal | (apply Gt.out1;exact rfl;exact rfl;intro w' hp)
   have b5 := u5.heap b fun h => by rcases h with h | h;exact (hlo _ h).2 rfl;exact h ⟨hne,trivial⟩
   refine ⟨v',rfl,⟨⟨cap,J,by rw [← hs1];exact hp.own.at (.head _),hp.upd.heap b5 fun y => y ⟨hne,trivial⟩⟩,?_,r1,r2⟩,?_,fun k hk => (hoff5 k hk).2⟩
   ·have h := ownsRow_upd ho5 hp.upd fun k hk y => y (hoff5 k hk).1
    rw [List.length_append,List.map_append,List.flatten_append]
    exact h
   ·exact u5.comp hp.upd fun k hk hs => by
     rcases hs with (h | h) | h
     ·exact .inr (.inl h)
     ·exact .inl (Classical.byContradiction fun hn => h ⟨fun e => hn e.symm,trivial⟩)
     ·exact .inl (Classical.byContradiction fun hn => h ⟨fun e => hn e.symm,trivial⟩)
  ·repeat' first | (apply Wl.lit;exact rfl;exact kj;exact rfl;exact rfl;exact ke;intro c hc ho) | apply Wl.nil
   refine Mt.backE (fun _ _ => trivial) ?_
   refine Mt.e1 5 ?_
   repeat' first | (apply Wl.loadH;exact rfl;exact rfl;exact kd;exact rfl) | apply Wl.nil
   refine Mt.backE (fun _ _ => trivial) ?_
   refine Mt.e1 10 ?_
   apply Wl.appendT (base := base) (n := ll.length) (m := 1) (sz := 2) (e := 111) (xs := (ll.map lineC).flatten)
   ·exact rfl
   ·exact rfl
   ·exact rfl
   ·assumption
   ·exact rfl
   ·exact hr
   ·exact fun k hk => ⟨fun e => (hlo k hk).1 e.symm,trivial⟩
   ·exact rfl
   ·exact rfl
   ·decide
   ·unfold maxLen;omega
   ·omega
   ·omega
   intro v' w5 ho5 u5 _ hoff5
   have hov := ho5.one
   have s5 := u5.size
   apply Wl.nil
   refine Mt.backE (fun _ _ => trivial) ?_
   refine Mt.pn 18 ?_
   refine Mt.pf 19 ?_
   refine Mt.e1 20 ?_
   apply Wl.store
   ·exact rfl
   ·exact rfl
   ·first | exact hov | exact rfl
   ·exact kd
   ·exact ki
   apply Wl.nil
   refine Mt.backE (fun _ _ => trivial) ?_
   refine Mt.pn 21 ?_
   refine Mt.pz 22 ?_
   refine Mt.e1 23 ?_
   apply Wl.store
   ·exact rfl
   ·exact rfl
   ·first | exact hov | exact rfl
   ·exact kd
   ·exact ki
   apply Wl.nil
   refine Mt.backE (fun _ _ => trivial) ?_
   refine Mt.toGt kb ?_
   repeat' first | refine Wl.assign rfl rfl ?_ | apply Wl.nil | apply St.seq | apply St.region | apply St.ret | apply Gt.next | apply Gt.inNormal | (apply Gt.out1;exact rfl;exact rfl;intro w' hp)
   have b5 := u5.heap b fun h => by rcases h with h | h;exact (hlo _ h).2 rfl;exact h ⟨hne,trivial⟩
   refine ⟨v',rfl,⟨⟨cap,J,by rw [← hs1];exact hp.own.at (.head _),hp.upd.heap b5 fun y => y ⟨hne,trivial⟩⟩,?_,r1,r2⟩,?_,fun k hk => (hoff5 k hk).2⟩
   ·have h := ownsRow_upd ho5 hp.upd fun k hk y => y (hoff5 k hk).1
    rw [List.length_append,List.map_append,List.flatten_append]
    exact h
   ·exact u5.comp hp.upd fun k hk hs => by
     rcases hs with (h | h) | h
     ·exact .inr (.inl h)
     ·exact .inl (Classical.byContradiction fun hn => h ⟨fun e => hn e.symm,trivial⟩)
     ·exact .inl (Classical.byContradiction fun hn => h ⟨fun e => hn e.symm,trivial⟩)
end
section
variable {w w' : World} {base : Nat} {I : Mi} {M : Mv2}
theorem MonS.snd {bx' : Nat → List Value} {ch : Nat} (k : MonS w base I M) (hc : ch ∈ I.cs) (hP : PostS w' I.pp I.pa I.cs bx') (u : Upd (fun b => b = ch) w w') : MonS w' base I {M with bx := bx'} := by
 obtain ⟨⟨wc,J1,wa,wb⟩,_⟩ := k.ward
 obtain ⟨⟨bc,J3,ba,bb⟩,hlv,_⟩ := k.board
 obtain ⟨i,hi⟩ := List.mem_iff_getElem?.1 hc
 have hch := k.post.2.1 i ch hi
 exact {
  mm := u.heap k.mm fun e => chan_ne hch k.mm e.symm
  dd := u.heap k.dd fun e => chan_ne hch k.dd e.symm
  ward := k.ward.upd u (fun e => chan_ne hch wa e.symm) (fun e => chan_ne hch wb e.symm)
  post := hP
  board := k.board.upd u (fun e => chan_ne hch ba e.symm) (fun e => chan_ne hch bb e.symm) fun b hb e => (hlv.heap hb).elim fun _ hg => chan_ne hch hg e.symm
  mem := u.heap k.mem fun e => chan_ne hch k.mem e.symm
  hart := k.hart.upd u fun e => chan_ne hch k.hart.2 e.symm
  seen := ownsRow_upd k.seen u fun b hb e => (k.seen.heap hb).elim fun _ hg => chan_ne hch hg e.symm
  rg := k.rg
  len := k.len
  ge := k.ge }
theorem MonS.brd {lv' : Value} {ll' : List (Int × List UInt8)} {used' : Int} (k : MonS w base I M) (hB : BoardS w' base I.bd I.ia lv' ll' used' M.ins) (u : Upd (fun b => b = I.bd ∨ M.lv.ownBlock = some b ∨ w.heap.size ≤ b) w w') : MonS w' base I {M with lv := lv',ll := ll',used := used'} := by
 obtain ⟨⟨wc,J1,wa,wb⟩,_⟩ := k.ward
 obtain ⟨⟨pc,J2,pa,pb⟩,hcs,_⟩ := k.post
 obtain ⟨⟨bc,J3,ba,bb⟩,hlv,_⟩ := k.board
 obtain ⟨n1,n2,n3,n4,n5,n6,n7,n8,n9,n10,n11,n12,n13⟩ := k.off ba
 have key : ∀ {b t : Nat} {cs : Array Value},w.heap[b]? = some (.cells cs t (0,0)) → t ≠ 111 → b ≠ I.bd → ¬ (b = I.bd ∨ M.lv.ownBlock = some b ∨ w.heap.size ≤ b) := fun hb ht hne h => by
  rcases h with h | h | h
  ·exact hne h
  ·exact row_neT hlv hb ht _ h rfl
  ·exact absurd (lt_of_block hb) (Nat.not_lt.2 h)
 exact {
  mm := u.heap k.mm (key k.mm ku (n1 ku))
  dd := u.heap k.dd (key k.dd ku (n3 ku))
  ward := k.ward.upd u (key wa ku (n4 ku)) (key wb ku (n5 ku))
  post := k.post.upd u (key pa ku (n6 ku)) (key pb ku (n7 ku)) fun c hc h => by
   obtain ⟨i,hi⟩ := List.mem_iff_getElem?.1 hc
   rcases h with h | h | h
   ·exact n11 c hc h
   ·exact (hlv.heap h).elim fun _ hg => chan_ne (hcs i c hi) hg rfl
   ·exact absurd (hcs i c hi).lt (Nat.not_lt.2 h)
  board := hB
  mem := u.heap k.mem (key k.mem ku (n10 ku))
  hart := k.hart.upd u (key k.hart.2 ku (n2 ku))
  seen := ownsRow_upd k.seen u fun b hb => (k.seen.heap hb).elim fun _ hg => key hg ku (n13 ku b hb)
  rg := k.rg
  len := k.len
  ge := k.ge }
end
end Go.Proofs.YtabbklpalbikdaaGreatDoor
end
