/-
 15 texts,one behind the other;each says what it proves. Conditions: as each text says.
-/
import Derived.Test.YtabbklpalbikdaaGreatDoorM07
import Derived.Test.YtabbklpalbikdaaGreatDoorM05
import Derived.Test.YtabbklpalbikdaaGreatDoorM02
import Derived.Test.YtabbklpalbikdaaGreatDoorM03
import Derived.Test.YtabbklpalbikdaaGreatDoorMOpenL
import Derived.Test.YtabbklpalbikdaaGreatDoorMOpen
import Derived.Test.YtabbklpalbikdaaGreatDoorRows
import Derived.WalkKit
import Derived.ProofKit
import Derived.LaidMore
import Derived.OpenShut
import Derived.ShutString
import Derived.ChangeOld
import Derived.Below
import Derived.MakeChecks
import Derived.Stop.Joined
set_option maxHeartbeats 32000000
set_option linter.unusedVariables false
set_option linter.unusedSimpArgs false
section
namespace Go.Proofs.YtabbklpalbikdaaGreatDoor
open Go.RowKit Go.Pt
theorem usedN_eq : ∀ l : List (Int × List UInt8),usedN l = usedL l
 | [] => rfl
 | y :: l => by
  have h1 : usedN (y :: l) = y.2.length + usedN l := rfl
  have h2 : usedL (y :: l) = y.2.length + usedL l := by simp [usedL]
  rw [h1,h2,usedN_eq l]
structure BackS (M M' : Mv2) (t : Int) (L : List Sta) (ins : List (List UInt8)) (bx : List (List (Int × List UInt8))) (ll : List (Int × List UInt8)) (f : Nat → Int) : Prop where
 L : M'.L = L ∧ M'.t = t ∧ M'.ins = ins ∧ M'.ll = ll
 b : M'.bx = bxK (fun j => bx.getD j []) M.L.length
 f : ∀ j,j < 65536 → M'.f j = f j
 p : M'.pv = M.pv ∧ M'.ev = M.ev
theorem sDecEnc (base : Nat) (I : Mi) (M : Mv2) (a1 a2 : Option Addr) (c1 c2 : Nat) (v : Value) (n' : Nat) (t : Int) (L : List Sta) (ins : List (List UInt8)) (bx : List (List (Int × List UInt8))) (ll : List (Int × List UInt8)) (f : Nat → Int) (w : World) (hM : MonS w base I M) (hb : base ≤ w.heap.size) (hn : M.L.length ≤ 255)
  (hpv : M.pv = .slice a1 M.L.length c1) (hev : M.ev = .slice a2 M.L.length c2) (hv : Bs w v (encE n' t L ins bx ll f)) (hvb : ∀ k,v.ownBlock = some k → k < w.heap.size) (hl : (encE n' t L ins bx ll f).length ≤ 10000000) (hf : SnFit n' t L ins bx ll f) (hset : SetOk L t) (hK : ArrAt w 1 0 .u32 64 Sha.K) :
  Calls Tryz.prog 47 #[v,.pointer (some ⟨I.m,0,none⟩)] w fun e w' => Upd (fun k => w.heap.size ≤ k) w w' ∧
   ((n' ≠ M.L.length ∧ ∃ z : Int,z ≠ 0 ∧ e = .returned (.tuple #[.pointer none,.int .i64 z])) ∨
   (n' = M.L.length ∧ ∃ I' M' b',e = .returned (.tuple #[.pointer (some ⟨I'.m,0,none⟩),.int .i64 0]) ∧ MonS w' b' I' M' ∧ (w.heap.size ≤ b' ∧ b' ≤ w'.heap.size) ∧ BackS M M' t L ins bx ll f)) := by
 obtain ⟨f',hback,hff⟩ := state_back hf
 refine (sDecode (fun ws e w' => ∃ I' M',e = .returned (.tuple #[.pointer (some ⟨I'.m,0,none⟩),.int .i64 0]) ∧ MonS w' ws.heap.size I' M' ∧ BackS M M' t L ins bx ll f) base I M v _ w hM kf hv (fun k hk _ => hvb k hk) hl hK ?_).mono ?_
 ·intro S hS ws sv iv bv lv cM vs hT hcM uS hMs
  rw [dec_enc] at hS
  have hnn : n' = M.L.length := Classical.byContradiction fun h => by
   rw [state_other hf.hn.2 (fun e => h e.symm)] at hS
   cases hS
  rw [← hnn,hback] at hS
  cases hS
  have hLl : L.length = M.L.length := by rw [hf.hn.1,hnn]
  have hil : ins.length = M.L.length := by rw [hf.hi.1,hnn]
  have hbl : bx.length = M.L.length := by rw [hf.hb.1,hnn]
  have hget : ∀ j,j < M.L.length → ∃ l,bx[j]? = some l ∧ bx.getD j [] = l := fun j hj => ⟨_,List.getElem?_eq_getElem kf,by rw [List.getD_eq_getElem?_getD,List.getElem?_eq_getElem kf];rfl⟩
  have hA := Sv.ofOwn hT.s
  have hI := Sv.ofOwn hT.i
  have hB := Sv.ofOwn hT.b
  have hLn := Sv.ofOwn hT.l
  simp only at hA hI hB hLn
  rw [hLl] at hA
  rw [hil] at hI
  rw [hbl] at hB
  refine (mWithL base I M L t a1 a2 c1 c2 cM sv iv bv lv vs ins (fun j => bx.getD j []) ll f' ws hMs (by have := uS.size;omega) hpv hev hA hLl (fun x hx => (hf.hL x hx).1) (.inl hset) hI (fun s hs => by have := hf.hi.2 s hs;omega) hB ?_ ?_ hLn ?_ (by rw [← usedN_eq];exact hf.hl.2.1) hf.hl.2.2 hT.m).mono ?_
  ·intro j hj
   obtain ⟨l,e1,e2⟩ := hget j hj
   obtain ⟨v',e3,e4⟩ := hT.bl.2 j l e1
   exact ⟨v',e3,by rw [e2];exact Sv.ofOwn e4⟩
  ·intro j hj
   obtain ⟨l,e1,e2⟩ := hget j hj
   obtain ⟨h1,h2⟩ := hf.hb.2 l (List.mem_of_getElem? e1)
   rw [e2]
   exact ⟨by omega,fun x hx => by obtain ⟨⟨q1,q2⟩,q3,q4⟩ := h2 x hx;exact ⟨⟨q1,by omega⟩,q4⟩⟩
  ·intro x hx
   obtain ⟨⟨q1,q2⟩,q3,q4⟩ := hf.hl.1 x hx
   exact ⟨⟨q1,by omega⟩,q3,q4⟩
  ·rintro e w' (⟨_,I',M',rfl,hM',hMe,uW,_⟩ | ⟨hno,_⟩)
   ·refine ⟨⟨_,_,rfl⟩,uW,I',M',rfl,hM',?_⟩
    rw [hMe]
    exact ⟨⟨rfl,rfl,rfl,rfl⟩,rfl,hff,rfl,rfl⟩
   ·refine (hno hset (fun i s hi hs => ?_) fun j hj => ?_).elim
    ·exact hf.hi.2 s (List.mem_of_getElem? hs)
    ·obtain ⟨l,e1,e2⟩ := hget j hj
     obtain ⟨h1,h2⟩ := hf.hb.2 l (List.mem_of_getElem? e1)
     try simp only
     rw [e2]
     exact ⟨h1,fun x hx => by obtain ⟨⟨q1,q2⟩,q3,q4⟩ := h2 x hx;exact ⟨by omega,q3⟩⟩
 ·rintro e w' (⟨h0,u,z,hz,rfl⟩ | ⟨S,hS,ws,w1,u1,u2,⟨I',M',rfl,hM',hB'⟩,u3⟩)
  ·refine ⟨u,.inl ⟨fun h => ?_,z,hz,rfl⟩⟩
   rw [dec_enc,← h,hback] at h0
   cases h0
  ·have z1 := u1.size
   have z2 := u2.size
   have z3 := u3.size
   have hnn : n' = M.L.length := Classical.byContradiction fun h => by
    rw [dec_enc,state_other hf.hn.2 (fun e => h e.symm)] at hS
    cases hS
   exact ⟨(u1.comp u2 (T := fun k => w.heap.size ≤ k) fun k _ h => h.elim id fun h => by omega).comp u3 fun k _ h => h.elim id fun h => h.1,.inr ⟨hnn,I',M',ws.heap.size,rfl,hM'.upd u3 (fun b hb' hs => by have := (hM'.lt b hb').1;omega),⟨by omega,by omega⟩,hB'⟩⟩
theorem nDecode (v : Value) (w : World) : Calls Tryz.prog 47 #[v,.pointer none] w fun e w' => e = .returned (.tuple #[.pointer none,.int .i64 1]) ∧ Hp w [] w' := by
 refine enter (args := [_,_]) (Γ := [(0,_),(1,_)]) Tryz.func47 Tryz.ntmps47 rfl odq (.cons rfl (.cons rfl .nil)) ?_
 repeat' first | refine Wl.move rfl rfl ?_ | refine Wl.assign rfl rfl ?_ | refine Wl.eqlNN rfl rfl rfl ?_ | apply Wl.nil | apply St.seq | apply St.region | (apply St.condT;exact rfl;exact k5) | apply St.ret | apply Gt.next | apply Gt.thenRet | (apply Gt.out2;exact rfl;exact rfl;exact rfl;intro w' hp)
 exact ⟨rfl,hp⟩
theorem nEncode (w : World) : Calls Tryz.prog 44 #[.pointer none] w fun e w' => e = .returned (.slice none 0 0) ∧ Hp w [] w' := by
 refine enter (args := [_]) (Γ := [(0,_)]) Tryz.func44 Tryz.ntmps44 rfl odq (.cons rfl .nil) ?_
 repeat' first | refine Wl.move rfl rfl ?_ | refine Wl.assign rfl rfl ?_ | refine Wl.eqlNN rfl rfl rfl ?_ | apply Wl.nil | apply St.seq | apply St.region | (apply St.condT;exact rfl;exact k5) | apply St.ret | apply Gt.next | apply Gt.thenRet | (apply Gt.out1;exact rfl;exact rfl;intro w' hp)
 exact ⟨rfl,hp⟩
theorem klStr {P : Program} {d t : Nat} {s : ByteArray} (ht : P.underlying t = some .string) (hs : s.size ≤ maxLen) : P.keyLits (d + 1) t [.string s] = some [.string s.data.toList] := by
 simp [Program.keyLits,ht,hs]
theorem linFld : (match Tryz.prog.underlying 111 with
  | some (.struct fs) => fs.all fun f => (f.name != "_") && ((Nat.beq f.type 3 && Nat.beq f.offset 0) || (Nat.beq f.type 9 && Nat.beq f.offset 1))
  | _ => false) = true := by kernel_rfl
theorem klLin {x : Int × List UInt8} (hx : IntKind.i64.min ≤ x.1 ∧ x.1 ≤ IntKind.i64.max) (hs : x.2.length ≤ maxLen) : ∃ la,Tryz.prog.keyLits 8 111 (lineC x) = some la := by
 have hF := linFld
 have hci : Tryz.prog.cellsOf 3 = 1 := by kernel_rfl
 have hcs : Tryz.prog.cellsOf 9 = 1 := by kernel_rfl
 have hcp : Tryz.prog.cellsOf 111 = 2 := by kernel_rfl
 have ui : Tryz.prog.underlying 3 = some (.int .i64) := by kernel_rfl
 have us : Tryz.prog.underlying 9 = some .string := by kernel_rfl
 cases hu : Tryz.prog.underlying 111 with
 | none => rw [hu] at hF;cases hF
 | some td =>
  rw [hu] at hF
  cases td <;> try (cases hF;done)
  rename_i fs
  simp only at hF
  show ∃ la,Tryz.prog.keyLits (7 + 1) _ _ = some la
  unfold Program.keyLits
  rw [hu]
  simp only
  have hall := Array.all_eq_true'.1 hF
  have hlen : (lineC x).length = Tryz.prog.cellsOf 111 := by rw [hcp];rfl
  have hnames : (fs.all fun f => f.name != "_") = true := by
   rw [Array.all_eq_true']
   intro f hf
   have := hall f hf
   rw [Bool.and_eq_true] at this
   exact this.1
  rw [if_pos ⟨hlen,hnames⟩]
  obtain ⟨ys,hys⟩ := mapM_exS (g := fun f => Tryz.prog.keyLits 7 f.type (((lineC x).drop f.offset).take (Tryz.prog.cellsOf f.type))) (l := fs.toList) (fun f hf => by
   have := hall f (by simpa using hf)
   rw [Bool.and_eq_true,Bool.or_eq_true,Bool.and_eq_true,Bool.and_eq_true] at this
   obtain ⟨_,ho⟩ := this
   rcases ho with ⟨ht,ho⟩ | ⟨ht,ho⟩
   ·rw [Nat.eq_of_beq_eq_true ht,hci,Nat.eq_of_beq_eq_true ho]
    exact ⟨_,klInt (d := 6) ui hx⟩
   ·rw [Nat.eq_of_beq_eq_true ht,hcs,Nat.eq_of_beq_eq_true ho]
    exact ⟨_,klStr (d := 6) us (by rw [strV_size];exact hs)⟩)
  rw [hys]
  exact ⟨_,rfl⟩
theorem formLin (x : Int × List UInt8) : (Value.agg (lineC x).toArray).formed Tryz.prog 111 = true := by
 have hF := linFld
 have hcp : Tryz.prog.cellsOf 111 = 2 := by kernel_rfl
 unfold Value.formed
 cases hu : Tryz.prog.underlying 111 with
 | none => rw [hu] at hF;cases hF
 | some td =>
  rw [hu] at hF
  cases td <;> try (cases hF;done)
  simp [hcp,lineC]
section
variable {md : Md} {N : Nat} {ops : Array Oper} {rest : List Oper} {Γ : Env} {C : World → Prop} {Q : Exit → Act → World → Prop} {d : Nat} {ty : TypeId} {pos : String} {af : Array Edge} {u : TypeId} {x y : Operand}
theorem Wl.neqLin {a : Int × List UInt8} (ha : IntKind.i64.min ≤ a.1 ∧ a.1 ≤ IntKind.i64.max) (hb : a.2.length ≤ maxLen) (hd : Nat.blt d N = true) (hx : ev Γ x = some (.agg (lineC a).toArray)) (hy : ev Γ y = some (.agg (lineC a).toArray))
  (h : Wl rest Tryz.prog md ops N ((d,.bool false) :: Γ) C Q) : Wl (⟨some d,.binOp .neq 111 x y u,ty,pos,af,none⟩ :: rest) Tryz.prog md ops N Γ C Q :=
 Wl.neqSame hd hx hy kn kn (formLin a) (klLin ha hb) h
end
theorem memL_congr {f g : Nat → Int} (h : ∀ j,j < 65536 → f j = g j) : memL f 0 65536 = memL g 0 65536 := by
 unfold memL
 refine List.map_congr_left fun j hj => ?_
 rw [Nat.zero_add,h j (List.mem_range.1 hj)]
theorem hpMore {wa w w1 : World} {H : List Blk} (hq : Hp wa H w) (u : Upd (fun k => w.heap.size ≤ k) w w1) : Hp w1 H w1 := ⟨Upd.refl _ _,hq.own.upd u (fun x hx h => by have := hq.own.lt hx;omega),hq.apart⟩
theorem zc_no {I : Mi} {k : Nat} : ¬ Zc I (fun _ => []) k := fun ⟨_,_,h⟩ => h rfl
theorem sSame (b1 b2 : Nat) (I1 I2 : Mi) (M1 M2 : Mv2) (w : World) (h1 : MonS w b1 I1 M1) (h2 : MonS w b2 I2 M2) (hb1 : b1 ≤ w.heap.size) (hb2 : b2 ≤ w.heap.size) (hx1 : ∀ i,i < M1.L.length → M1.bx i = []) (hx2 : ∀ i,i < M2.L.length → M2.bx i = []) (hL : M2.L = M1.L) (ht : turnV M2.t = turnV M1.t) (hi : M2.ins = M1.ins) (hll : M2.ll = M1.ll) (hf : ∀ j,j < 65536 → M2.f j = M1.f j) (hF1 : FB M1.f) (hF2 : FB M2.f) (hln : M1.ll.length ≤ 1000) (hn16 : M1.L.length ≤ 16) (hsr : ∀ x ∈ M1.L,0 ≤ x.s ∧ x.s < 256) (hlr : ∀ x ∈ M1.ll,x.2.length ≤ 64 ∧ 0 ≤ x.1 ∧ x.1 < 256) :
  Calls Tryz.prog 48 #[.pointer (some ⟨I1.m,0,none⟩),.pointer (some ⟨I2.m,0,none⟩)] w fun e w' => e = .returned (.bool true) ∧ Upd (fun k => w.heap.size ≤ k) w w' := by
 have hok := h1.ward.2.1
 refine enter (args := [_,_]) (Γ := [(0,_),(1,_)]) Tryz.func48 Tryz.ntmps48 rfl odq (.cons rfl (.cons rfl .nil)) ?_
 repeat' first | refine Wl.move rfl rfl ?_ | refine Wl.assign rfl rfl ?_ | apply Wl.nil | apply St.seq | apply St.region | apply Gt.next
 apply Wl.callC
 ·exact rfl
 ·exact kd
 intro wq hq
 have zq := hq.upd.size
 refine (mStateL b1 I1 M1 (fun _ => []) wq (h1.upd hq.upd fun _ _ y => y trivial) kf (fun i hi => ⟨hx1 i hi,Nat.zero_le _⟩) hln).mono ?_
 rintro e w1 ⟨sv,iv,bv,lv,cM,vs,rfl,hT,hcM,_,u1'⟩
 have u1 : Upd (fun k => w.heap.size ≤ k) w w1 := Upd.comp (S := fun k => w.heap.size ≤ k) (hq.upd.mono fun _ _ y => (y trivial).elim) u1' fun k _ h => h.elim id fun h => h.elim (fun h => (zc_no h).elim) fun h => by omega
 have z1 := u1'.size
 obtain ⟨aS,cs,rfl⟩ := svShape (Sv.ofOwn hT.s)
 obtain ⟨ai,ci,rfl⟩ := svShape (Sv.ofOwn hT.i)
 obtain ⟨ab,cb,rfl⟩ := svShape (Sv.ofOwn hT.b)
 obtain ⟨al,cl,rfl⟩ := svShape (Sv.ofOwn hT.l)
 clear hq
 refine ⟨_,_,rfl,Hp.start w1,?_⟩
 repeat' first | refine Wl.move rfl rfl ?_
 apply Wl.callC
 ·exact rfl
 ·exact kd
 intro wq hq
 have zq2 := hq.upd.size
 refine (mStateL b2 I2 M2 (fun _ => []) wq ((h2.new u1 (Nat.le_refl _)).upd hq.upd fun _ _ y => y trivial) kf (fun i hi => ⟨hx2 i hi,Nat.zero_le _⟩) (by rw [hll];exact hln)).mono ?_
 rintro e w2 ⟨sv,iv,bv,lv,cM2,vs2,rfl,hT2,hcM2,_,u2'⟩
 have u2 : Upd (fun k => w1.heap.size ≤ k) w1 w2 := Upd.comp (S := fun k => w1.heap.size ≤ k) (hq.upd.mono fun _ _ y => (y trivial).elim) u2' fun k _ h => h.elim id fun h => h.elim (fun h => (zc_no h).elim) fun h => by omega
 have z2 := u2'.size
 obtain ⟨aS2,cs2,rfl⟩ := svShape (Sv.ofOwn hT2.s)
 obtain ⟨ai2,ci2,rfl⟩ := svShape (Sv.ofOwn hT2.i)
 obtain ⟨ab2,cb2,rfl⟩ := svShape (Sv.ofOwn hT2.b)
 obtain ⟨al2,cl2,rfl⟩ := svShape (Sv.ofOwn hT2.l)
 have s2 := hT2.s
 have i2 := hT2.i
 have e2 := hT2.b
 have bl2 := hT2.bl
 have l2 := hT2.l
 have m2 := hT2.m
 rw [hL] at s2 i2 e2 bl2
 rw [hi] at i2
 rw [hll] at l2
 clear hq
 refine ⟨_,_,rfl,Hp.start w2,?_⟩
 rw [hL,hll,ht]
 repeat' first | refine Wl.fieldAddrZ rfl rfl ?_ | (apply Wl.loadH;exact rfl;exact rfl;exact kd;exact rfl) | (apply Wl.storeA;exact rfl;exact rfl;exact rfl;exact rfl;exact kd;exact kj) | (apply Wl.alloc;exact rfl;intro c hc ho) | apply Wl.nil | apply St.seq | apply St.region | apply Gt.next
 apply Wl.callC
 ·exact rfl
 ·exact kd
 intro wq hq
 rename_i c5 hc5 ho5
 generalize c = c6 at *
 have hc6 : w2.heap.size ≤ c6 := by assumption
 have k56 : ∀ {x1 t1 x2 t2} (k : Nat),¬ Off [(⟨c6,x1,t1⟩ : Blk),⟨c5,x2,t2⟩] k → k = c6 ∨ k = c5 := fun k y => by
  have := in_off y
  simpa only [List.map_cons,List.map_nil,List.mem_cons,List.not_mem_nil,or_false] using this
 have lq6 : c6 < wq.heap.size := lt_of_block (own_c hq.own (.head _))
 have lq5 : c5 < wq.heap.size := lt_of_block (own_c hq.own (.tail _ (.head _)))
 have uq : Upd (fun k => w2.heap.size ≤ k) w2 wq := hq.upd.mono fun k _ y => by have := k56 k y;omega
 have zw2 := uq.size
 have lcM := lt_of_block hT.m
 have lcM2 := lt_of_block m2
 have mq : memH wq cM M1.f := (uq.heap (u2.heap hT.m fun h => by omega) fun h => by omega)
 refine (mgetX cM M1.f (2147483648) 65536 wq mq hF1 ⟨by omega,by omega⟩ ⟨by omega,by omega⟩ (by unfold inM;omega)).mono ?_
 rintro e w3 ⟨v1,rfl,hB1,hv1,um1⟩
 have hH := hpMore hq um1
 have z3 := um1.size
 have U3 : Upd (fun k => w2.heap.size ≤ k) w2 w3 := uq.comp um1 fun k _ h => h.elim id fun h => by omega
 refine ⟨_,_,rfl,hH,?_⟩
 clear hq hH
 repeat' first | refine Wl.move rfl rfl ?_ | refine Wl.assign rfl rfl ?_ | refine Wl.extract rfl rfl rfl ?_ | refine Wl.fieldAddrZ rfl rfl ?_ | (apply Wl.loadH;exact rfl;exact rfl;exact kd;exact rfl) | apply Wl.nil | apply St.seq | apply St.region | apply Gt.next
 apply Wl.callC
 ·exact rfl
 ·exact kd
 intro wq3 hq
 have uq3 : Upd (fun k => k = c6 ∨ k = c5) w3 wq3 := hq.upd.mono fun k _ y => k56 k y
 have zw3 := uq3.size
 have mq3 : memH wq3 cM2 M2.f := uq3.heap (U3.heap m2 fun h => by omega) fun h => by omega
 refine (mgetX cM2 M2.f (2147483648) 65536 wq3 mq3 hF2 ⟨by omega,by omega⟩ ⟨by omega,by omega⟩ (by unfold inM;omega)).mono ?_
 rintro e w4 ⟨v2,rfl,hB2,hv2,um2⟩
 have em1 : memL M1.f ((2147483648 : Int) - 2147483648).toNat (65536 : Int).toNat = memL M1.f 0 65536 := rfl
 have em2 : memL M2.f ((2147483648 : Int) - 2147483648).toNat (65536 : Int).toNat = memL M1.f 0 65536 := memL_congr hf
 rw [em1] at hB1
 rw [em2] at hB2
 generalize memL M1.f 0 65536 = r0 at *
 have hH := hpMore hq um2
 have z4 := um2.size
 have hB1' : Bs w4 v1 r0 := (hB1.upd uq3 fun k hk _ _ h => by have := hv1 k hk;omega).upd um2 fun k hk hlt _ h => by omega
 have U4 : Upd (fun k => w2.heap.size ≤ k) w2 w4 := (U3.comp uq3 (T := fun k => w2.heap.size ≤ k) fun k _ h => h.elim id fun h => by omega).comp um2 fun k _ h => h.elim id fun h => by omega
 refine ⟨_,_,rfl,hH,?_⟩
 clear hq hH
 have d1 : decide (turnV M1.t ≠ turnV M1.t) = false := by simp
 have d2 : decide ((M1.L.length : Int) ≠ (M1.L.length : Int)) = false := by simp
 have d3 : decide ((M1.ll.length : Int) ≠ (M1.ll.length : Int)) = false := by simp
 have d4 : decide (r0 ≠ r0) = false := by simp
 repeat' first | (apply Wl.convBS (y := v1) (l := r0);exact rfl;exact rfl;(intro w' h';exact hB1'.upd h'.upd fun k hk _ _ y => by have := k56 k y;have := hv1 k hk;omega)) | (apply Wl.convBS (y := v2) (l := r0);exact rfl;exact rfl;(intro w' h';exact hB2.upd h'.upd fun k hk _ _ y => by have := k56 k y;have := hv2 k hk;omega)) | refine Wl.move rfl rfl ?_ | refine Wl.assign rfl rfl ?_ | (apply Wl.on;exact rfl;exact rfl;exact k5) | refine Wl.extract rfl rfl rfl ?_ | (apply Wl.pickF;exact rfl;exact rfl;exact k5;exact rfl) | refine Wl.fieldAddr0 rfl rfl ?_ | refine Wl.fieldAddrZ rfl rfl ?_ | (apply Wl.loadH;exact rfl;exact rfl;exact kd;exact rfl) | (apply Wl.neqIs;exact rfl;exact rfl;exact rfl;exact kw) | refine Wl.neqSB rfl rfl rfl ?_ | refine Wl.len rfl rfl ?_ | apply Wl.nil | apply St.seq | apply St.block | apply St.region | (apply St.condF;exact rfl;exact k5) | apply St.skip | apply Gt.next
 have hLn : M1.L ≠ [] := fun h => by have := h1.ward.2.2;rw [h] at this;simp at this
 have hlen := h1.len
 have nS : (stas M1.L).flatten ≠ [] := fun h => by
  have q1 : ((stas M1.L).flatten).length = 0 := by rw [h];rfl
  obtain ⟨x,r,e⟩ := List.exists_cons_of_ne_nil hLn
  rw [e] at q1
  simp [stas,Sta.cells] at q1
 have nI : M1.ins.map strV ≠ [] := fun h => by
  have q1 : (M1.ins.map strV).length = 0 := by rw [h];rfl
  obtain ⟨x,r,e⟩ := List.exists_cons_of_ne_nil hLn
  have := hlen.2
  rw [e] at this
  simp at q1
  rw [q1] at this
  simp at this
 have nB : ∀ {l : List Value},l.length = M1.L.length → l ≠ [] := fun hl h => by
  obtain ⟨x,r,e⟩ := List.exists_cons_of_ne_nil hLn
  rw [h,e] at hl
  simp at hl
 obtain ⟨gs,os,rfl,hgs,hsta⟩ := svCells (Sv.ofOwn hT.s) nS
 obtain ⟨gi,oi,rfl,hgi,hinp⟩ := svCells (Sv.ofOwn hT.i) nI
 obtain ⟨gb,ob,rfl,hgb,hbox⟩ := svCells (Sv.ofOwn hT.b) (nB hT.bl.1)
 obtain ⟨gs2,os2,rfl,hgs2,hsta2⟩ := svCells (Sv.ofOwn s2) nS
 obtain ⟨gi2,oi2,rfl,hgi2,hinp2⟩ := svCells (Sv.ofOwn i2) nI
 obtain ⟨gb2,ob2,rfl,hgb2,hbox2⟩ := svCells (Sv.ofOwn e2) (nB bl2.1)
 have V4 : Upd (fun k => w1.heap.size ≤ k) w1 w4 := u2.comp U4 fun k _ h => h.elim id fun h => by omega
 refine St.loop (σ := Nat) (fun k => k ≤ M1.L.length) (fun k => [(4,.bool false),(5,.pointer (some ⟨c5,0,none⟩)),(6,.pointer (some ⟨c6,0,none⟩)),(62,.int .i64 (M1.L.length : Int)),(63,.int .i64 (k : Int))]) (fun _ => Hp w4 [⟨c6,[.int .i64 (turnV M1.t),.slice (some ⟨gs2,os2,none⟩) M1.L.length cs2,.slice (some ⟨gi2,oi2,none⟩) M1.L.length ci2,.slice (some ⟨gb2,ob2,none⟩) M1.L.length cb2,.slice al2 M1.ll.length cl2,.pointer (some ⟨cM2,0,none⟩)],54⟩,⟨c5,[.int .i64 (turnV M1.t),.slice (some ⟨gs,os,none⟩) M1.L.length cs,.slice (some ⟨gi,oi,none⟩) M1.L.length ci,.slice (some ⟨gb,ob,none⟩) M1.L.length cb,.slice al M1.ll.length cl,.pointer (some ⟨cM,0,none⟩)],54⟩]) (fun k => M1.L.length - k) 0 (Nat.zero_le _) kq (fun _ h => h) ?_
 rintro k hk
 try simp only at hk ⊢
 by_cases hlt : k < M1.L.length
 ·have hdk : decide ((k : Int) < (M1.L.length : Int)) = true := decide_eq_true kf
  obtain ⟨x,hx⟩ : ∃ x,M1.L[k]? = some x := ⟨_,List.getElem?_eq_getElem hlt⟩
  obtain ⟨s,hs'⟩ : ∃ s,M1.ins[k]? = some s := ⟨_,List.getElem?_eq_getElem (by have := hlen.2;omega)⟩
  have hxo := hok x (List.mem_of_getElem? hx)
  have hxs : IntKind.i64.min ≤ x.s ∧ x.s ≤ IntKind.i64.max := by have := hsr x (List.mem_of_getElem? hx);constructor <;> simp [IntKind.min,IntKind.max,IntKind.bits,IntKind.signed] <;> omega
  obtain ⟨vk,ek,rk⟩ := hT.bl.2 k hlt
  obtain ⟨vk2,ek2,rk2⟩ := bl2.2 k hlt
  obtain ⟨ak,ck,rfl⟩ := svShape (Sv.ofOwn rk)
  obtain ⟨ak2,ck2,rfl⟩ := svShape (Sv.ofOwn rk2)
  have hat : ∀ q u,x.cells[q]? = some u → w4.cell? (Addr.add ⟨gs,os + (k : Int).toNat * 35,none⟩ q) = some u := fun q u hq => by
   have hq35 : q < 35 := by have := (List.getElem?_eq_some_iff.1 hq).1;rw [hxo.len] at this;exact this
   rw [addLit,Int.toNat_natCast,Nat.add_assoc]
   exact V4.cell (hsta (k * 35 + q) u qe) ky
  have hat2 : ∀ q u,x.cells[q]? = some u → w4.cell? (Addr.add ⟨gs2,os2 + (k : Int).toNat * 35,none⟩ q) = some u := fun q u hq => by
   have hq35 : q < 35 := by have := (List.getElem?_eq_some_iff.1 hq).1;rw [hxo.len] at this;exact this
   rw [addLit,Int.toNat_natCast,Nat.add_assoc]
   exact U4.cell (hsta2 (k * 35 + q) u qe) ky
  have hik : w4.cell? ⟨gi,oi + (k : Int).toNat,none⟩ = some (strV s) := V4.cell (by rw [Int.toNat_natCast];exact hinp k _ (by rw [List.getElem?_map,hs'];rfl)) ky
  have hik2 : w4.cell? ⟨gi2,oi2 + (k : Int).toNat,none⟩ = some (strV s) := U4.cell (by rw [Int.toNat_natCast];exact hinp2 k _ (by rw [List.getElem?_map,hs'];rfl)) ky
  have hbk : w4.cell? ⟨gb,ob + (k : Int).toNat,none⟩ = some (.slice ak 0 ck) := V4.cell (by rw [Int.toNat_natCast];exact hbox k _ ek) ky
  have hbk2 : w4.cell? ⟨gb2,ob2 + (k : Int).toNat,none⟩ = some (.slice ak2 0 ck2) := U4.cell (by rw [Int.toNat_natCast];exact hbox2 k _ ek2) ky
  have ds : decide (s ≠ s) = false := by simp
  have d0 : decide (((0 : Nat) : Int) ≠ ((0 : Nat) : Int)) = false := by simp
  repeat' first | (apply Wl.loadAF (xs := x.cells);exact rfl;exact rfl;exact hxo.len;(intro w' h' q u hq';first | exact h'.old (hat q u hq') qf | exact h'.old (hat2 q u hq') qf)) | (apply Wl.neqSta hxo hxs;exact rfl;exact rfl;exact rfl) | (apply Wl.loadO;exact rfl;exact rfl;(first | exact hik | exact hik2 | exact hbk | exact hbk2);exact off_in zf) | refine Wl.move rfl rfl ?_ | refine Wl.assign rfl rfl ?_ | (apply Wl.on;exact rfl;exact rfl;exact k5) | (apply Wl.pickF;exact rfl;exact rfl;exact k5;exact rfl) | refine Wl.fieldAddrZ rfl rfl ?_ | (apply Wl.loadH;exact rfl;exact rfl;exact kd;exact rfl) | (apply Wl.neqIs;exact rfl;exact rfl;exact rfl;exact kw) | refine Wl.lss rfl rfl rfl ?_ | refine Wl.neqSB rfl rfl rfl ?_ | refine Wl.len rfl rfl ?_ | (refine Wl.indexAddr1 rfl rfl rfl ?_ ?_;constructor <;> omega) | (refine Wl.indexAddr rfl rfl rfl ?_ ?_;constructor <;> omega) | apply Wl.nil | apply Wl.nilQ | apply St.seq | apply St.block | apply St.region | (apply St.draw;exact mixed;(kernel_rfl);exact (fun _ h => Hp.drew h)) | (apply St.condT;exact rfl;exact k5) | (apply St.condF;exact rfl;exact k5) | apply St.skip | apply Gt.next
  refine St.loop (σ := Unit) (fun _ => True) (fun _ => [(4,.bool false),(5,.pointer (some ⟨c5,0,none⟩)),(6,.pointer (some ⟨c6,0,none⟩)),(62,.int .i64 (M1.L.length : Int)),(63,.int .i64 (k : Int)),(110,.int .i64 ((0 : Nat) : Int)),(111,.int .i64 0)]) (fun _ => Hp w4 [⟨c6,[.int .i64 (turnV M1.t),.slice (some ⟨gs2,os2,none⟩) M1.L.length cs2,.slice (some ⟨gi2,oi2,none⟩) M1.L.length ci2,.slice (some ⟨gb2,ob2,none⟩) M1.L.length cb2,.slice al2 M1.ll.length cl2,.pointer (some ⟨cM2,0,none⟩)],54⟩,⟨c5,[.int .i64 (turnV M1.t),.slice (some ⟨gs,os,none⟩) M1.L.length cs,.slice (some ⟨gi,oi,none⟩) M1.L.length ci,.slice (some ⟨gb,ob,none⟩) M1.L.length cb,.slice al M1.ll.length cl,.pointer (some ⟨cM,0,none⟩)],54⟩]) (fun _ => 0) () trivial kq (fun _ h => h) ?_
  intro _ _
  try simp only
  have d00 : decide ((0 : Int) < ((0 : Nat) : Int)) = false := by decide
  repeat' first | refine Wl.move rfl rfl ?_ | refine Wl.lss rfl rfl rfl ?_ | (refine Wl.addI rfl rfl rfl ?_ ?_;constructor <;> omega) | apply Wl.nil | apply St.seq | apply St.region | (apply St.condF;exact rfl;exact k5) | apply St.exit | apply Gt.next | apply Gt.thenExit | apply Gt.inNormal | apply Gt.inExit
  exact Gt.round (k + 1) hlt (by (try simp only);omega) kq (fun _ h => h)
 ·have hke : k = M1.L.length := by omega
  subst hke
  have hdk : decide ((M1.L.length : Int) < (M1.L.length : Int)) = false := decide_eq_false kf
  repeat' first | refine Wl.move rfl rfl ?_ | refine Wl.fieldAddrZ rfl rfl ?_ | (apply Wl.loadH;exact rfl;exact rfl;exact kd;exact rfl) | refine Wl.lss rfl rfl rfl ?_ | refine Wl.len rfl rfl ?_ | apply Wl.nil | apply St.seq | apply St.block | apply St.region | (apply St.condF;exact rfl;exact k5) | apply St.exit | apply Gt.next | apply Gt.thenExit | apply Gt.inExit
  refine St.loop (σ := Nat) (fun i => i ≤ M1.ll.length) (fun i => [(4,.bool false),(5,.pointer (some ⟨c5,0,none⟩)),(6,.pointer (some ⟨c6,0,none⟩)),(135,.int .i64 (M1.ll.length : Int)),(136,.int .i64 (i : Int))]) (fun _ => Hp w4 [⟨c6,[.int .i64 (turnV M1.t),.slice (some ⟨gs2,os2,none⟩) M1.L.length cs2,.slice (some ⟨gi2,oi2,none⟩) M1.L.length ci2,.slice (some ⟨gb2,ob2,none⟩) M1.L.length cb2,.slice al2 M1.ll.length cl2,.pointer (some ⟨cM2,0,none⟩)],54⟩,⟨c5,[.int .i64 (turnV M1.t),.slice (some ⟨gs,os,none⟩) M1.L.length cs,.slice (some ⟨gi,oi,none⟩) M1.L.length ci,.slice (some ⟨gb,ob,none⟩) M1.L.length cb,.slice al M1.ll.length cl,.pointer (some ⟨cM,0,none⟩)],54⟩]) (fun i => M1.ll.length - i) 0 (Nat.zero_le _) kq (fun _ h => h) ?_
  rintro i hi'
  try simp only at hi' ⊢
  by_cases hil : i < M1.ll.length
  ·have hdi : decide ((i : Int) < (M1.ll.length : Int)) = true := decide_eq_true kf
   obtain ⟨y,hy⟩ : ∃ y,M1.ll[i]? = some y := ⟨_,List.getElem?_eq_getElem hil⟩
   have hyb := hlr y (List.mem_of_getElem? hy)
   have nL : (M1.ll.map lineC).flatten ≠ [] := fun h => by
    obtain ⟨y0,r0,e0⟩ := List.exists_cons_of_ne_nil (l := M1.ll) (fun e => by rw [e] at hil;simp at hil)
    rw [e0] at h
    simp [lineC] at h
   obtain ⟨gl,ol,rfl,hgl,hlc⟩ := svCells (Sv.ofOwn hT.l) nL
   obtain ⟨gl2,ol2,rfl,hgl2,hlc2⟩ := svCells (Sv.ofOwn l2) nL
   have hay : ∀ q u,(lineC y)[q]? = some u → w4.cell? (Addr.add ⟨gl,ol + (i : Int).toNat * 2,none⟩ q) = some u := fun q u hq => by
    have hq2 : q < 2 := (List.getElem?_eq_some_iff.1 hq).1
    rw [addLit,Int.toNat_natCast,Nat.add_assoc]
    exact V4.cell (hlc (i * 2 + q) u zg) ky
   have hay2 : ∀ q u,(lineC y)[q]? = some u → w4.cell? (Addr.add ⟨gl2,ol2 + (i : Int).toNat * 2,none⟩ q) = some u := fun q u hq => by
    have hq2 : q < 2 := (List.getElem?_eq_some_iff.1 hq).1
    rw [addLit,Int.toNat_natCast,Nat.add_assoc]
    exact U4.cell (hlc2 (i * 2 + q) u zg) ky
   have hyr : IntKind.i64.min ≤ y.1 ∧ y.1 ≤ IntKind.i64.max := by constructor <;> simp [IntKind.min,IntKind.max,IntKind.bits,IntKind.signed] <;> omega
   have hym : y.2.length ≤ maxLen := by unfold maxLen;omega
   repeat' first | (apply Wl.loadAF (xs := lineC y);exact rfl;exact rfl;exact rfl;(intro w' h' q u hq';first | exact h'.old (hay q u hq') qf | exact h'.old (hay2 q u hq') qf)) | (apply Wl.neqLin hyr hym;exact rfl;exact rfl;exact rfl) | refine Wl.move rfl rfl ?_ | refine Wl.assign rfl rfl ?_ | refine Wl.fieldAddrZ rfl rfl ?_ | (apply Wl.loadH;exact rfl;exact rfl;exact kd;exact rfl) | refine Wl.lss rfl rfl rfl ?_ | (refine Wl.addI rfl rfl rfl ?_ ?_;constructor <;> omega) | (refine Wl.indexAddr rfl rfl rfl ?_ ?_;constructor <;> omega) | apply Wl.nil | apply Wl.nilQ | apply St.seq | apply St.block | apply St.region | (apply St.draw;exact mixed;(kernel_rfl);exact (fun _ h => Hp.drew h)) | (apply St.condT;exact rfl;exact k5) | (apply St.condF;exact rfl;exact k5) | apply St.skip | apply Gt.next | apply Gt.inNormal
   exact Gt.round (i + 1) hil (by (try simp only);omega) kq (fun _ h => h)
  ·have hie : i = M1.ll.length := by omega
   subst hie
   have hdi : decide ((M1.ll.length : Int) < (M1.ll.length : Int)) = false := decide_eq_false kf
   repeat' first | refine Wl.assign rfl rfl ?_ | refine Wl.lss rfl rfl rfl ?_ | apply Wl.nil | apply St.seq | apply St.region | (apply St.condF;exact rfl;exact k5) | apply St.ret | apply St.exit | apply Gt.next | apply Gt.thenExit | apply Gt.inExit | (apply Gt.out1;exact rfl;exact rfl;intro w' hp)
   exact ⟨rfl,((u1.comp V4 (T := fun k => w.heap.size ≤ k) fun k _ h => h.elim id fun h => by omega).comp hp.upd fun k _ h => h.elim id fun y => by have := k56 k y;omega)⟩
def PO26 (w : World) (base p n : Nat) : Prop := ∃ la,w.heap[p]? = some (.cells #[.slice (some ⟨la,0,none⟩) n n] 175 (0,0)) ∧ w.heap[la]? = some (.cells (List.replicate n (Value.slice none 0 0)).toArray 172 (0,0)) ∧ base ≤ la ∧ base ≤ p
def BD26 (w : World) (base b n : Nat) : Prop := ∃ ia,w.heap[b]? = some (.cells #[.slice none 0 0,.slice none 0 0,.slice (some ⟨ia,0,none⟩) n n] 164 (0,0)) ∧ w.heap[ia]? = some (.cells (List.replicate n (Value.string ⟨#[]⟩)).toArray 9 (0,0)) ∧ base ≤ ia ∧ base ≤ b
def DK26 (w : World) (base d n : Nat) (a1 : Option Addr) (c1 : Nat) (a2 : Option Addr) (c2 : Nat) (r : Option Addr) : Prop := ∃ p b,w.heap[d]? = some (.cells #[.slice a1 n c1,.slice a2 n c2,.pointer r,.pointer (some ⟨p,0,none⟩),.pointer (some ⟨b,0,none⟩)] 87 (0,0)) ∧ PO26 w base p n ∧ BD26 w base b n ∧ base ≤ d
def RB26 (w : World) (base : Nat) (v : Value) (n : Nat) (a1 : Option Addr) (c1 : Nat) (a2 : Option Addr) (c2 : Nat) (r : Option Addr) : Prop := ∃ m c d,v = .pointer (some ⟨m,0,none⟩) ∧ w.heap[m]? = some (.cells #[.pointer (some ⟨c,0,none⟩),.pointer (some ⟨d,0,none⟩)] 91 (0,0)) ∧ RW w base c n ∧ base ≤ c ∧ base ≤ m ∧ m ≠ c ∧ DK26 w base d n a1 c1 a2 c2 r
section
variable {w w' : World} {base p n c1 c2 : Nat} {a1 a2 r : Option Addr} {v : Value}
theorem PO26.ext (h : PO26 w base p n) (e : Ext w w') : PO26 w' base p n := by obtain ⟨l,h1,h2,h3⟩ := h;exact ⟨l,e.heap h1 (fun y => y),e.heap h2 (fun y => y),h3⟩
theorem BD26.ext (h : BD26 w base p n) (e : Ext w w') : BD26 w' base p n := by obtain ⟨l,h1,h2,h3⟩ := h;exact ⟨l,e.heap h1 (fun y => y),e.heap h2 (fun y => y),h3⟩
theorem DK26.ext (h : DK26 w base p n a1 c1 a2 c2 r) (e : Ext w w') : DK26 w' base p n a1 c1 a2 c2 r := by obtain ⟨l,k,h1,h2,h3,h4⟩ := h;exact ⟨l,k,e.heap h1 (fun y => y),h2.ext e,h3.ext e,h4⟩
theorem RB26.ext (h : RB26 w base v n a1 c1 a2 c2 r) (e : Ext w w') : RB26 w' base v n a1 c1 a2 c2 r := by obtain ⟨m,c,d,h0,h1,h2,h3,h4,h5,h6⟩ := h;exact ⟨m,c,d,h0,e.heap h1 (fun y => y),h2.ext e,h3,h4,h5,h6.ext e⟩
end
theorem made_nil {n : Nat} (hn : 1 ≤ n ∧ n ≤ 4) : (madeCells (Value.slice none 0 0).cells (n * 1)).toList = List.replicate n (Value.slice none 0 0) := by
 rcases (show n = 1 ∨ n = 2 ∨ n = 3 ∨ n = 4 by omega) with h | h | h | h <;> (rw [h];kernel_rfl)
theorem made_str {n : Nat} (hn : 1 ≤ n ∧ n ≤ 4) : (madeCells (Value.string ⟨#[]⟩).cells (n * 1)).toList = List.replicate n (Value.string ⟨#[]⟩) := by
 rcases (show n = 1 ∨ n = 2 ∨ n = 3 ∨ n = 4 by omega) with h | h | h | h <;> (rw [h];kernel_rfl)
theorem r26NewB (a1 a2 a3 r : Option Addr) (n c1 c2 c3 : Nat) (p : Nat → Int) (w : World) (hn : 1 ≤ n ∧ n ≤ 4) (hA : WordF w a3 n p) :
  Calls Tryz.prog 56 #[.slice a1 n c1,.slice a2 n c2,.slice a3 n c3,.pointer r] w fun e w' => ∃ v,e = .returned v ∧ RB26 w' w.heap.size v n a1 c1 a2 c2 r ∧ Upd (fun k => w.heap.size ≤ k) w w' := by
 refine enter (args := [_,_,_,_]) (Γ := [(0,_),(1,_),(2,_),(3,_)]) Tryz.func56 Tryz.ntmps56 rfl odq (.cons rfl (.cons rfl (.cons rfl (.cons rfl .nil)))) ?_
 repeat' first | refine Wl.move rfl rfl ?_ | refine Wl.assign rfl rfl ?_ | refine Wl.len rfl rfl ?_ | apply Wl.nil | apply St.seq | apply St.region | apply Gt.next
 apply St.sub (Γ' := [(0,.slice a1 n c1),(1,.slice a2 n c2),(2,.slice a3 n c3),(3,.pointer r),(9,.int .i64 (n : Int))])
 ·exact kd
 apply St.base
 intro w0 h0
 have hw0 : Ext w w0 := h0.upd.mono fun _ _ y => y trivial
 have hwn : ∀ w1,Ext w0 w1 → w.heap.size ≤ w1.heap.size := fun w1 e => Nat.le_trans hw0.size e.size
 apply St.bag (w0 := w0) Ext Ext.trans (fun w' h => Ext.start _ w' h) [fun v _ => v = .slice a3 n c3,fun v w' => ∃ c,v = .pointer (some ⟨c,0,none⟩) ∧ RW w' w.heap.size c n ∧ w.heap.size ≤ c,fun v _ => v = .slice a1 n c1,fun v _ => v = .slice a2 n c2,fun v _ => v = .pointer r,fun v _ => v = .int .i64 (n : Int),fun v w' => ∃ b,v = .slice (some ⟨b,0,none⟩) n n ∧ w'.heap[b]? = some (.cells (List.replicate n (Value.slice none 0 0)).toArray 172 (0,0)) ∧ w.heap.size ≤ b,fun v w' => ∃ b,v = .agg #[.slice (some ⟨b,0,none⟩) n n] ∧ w'.heap[b]? = some (.cells (List.replicate n (Value.slice none 0 0)).toArray 172 (0,0)) ∧ w.heap.size ≤ b,fun v w' => ∃ b,v = .pointer (some ⟨b,0,none⟩) ∧ PO26 w' w.heap.size b n,fun v _ => v = .int .i64 (n : Int),fun v w' => ∃ b,v = .slice (some ⟨b,0,none⟩) n n ∧ w'.heap[b]? = some (.cells (List.replicate n (Value.string ⟨#[]⟩)).toArray 9 (0,0)) ∧ w.heap.size ≤ b,fun v w' => ∃ b,v = .agg #[.slice none 0 0,.slice none 0 0,.slice (some ⟨b,0,none⟩) n n] ∧ w'.heap[b]? = some (.cells (List.replicate n (Value.string ⟨#[]⟩)).toArray 9 (0,0)) ∧ w.heap.size ≤ b,fun v w' => ∃ b,v = .pointer (some ⟨b,0,none⟩) ∧ BD26 w' w.heap.size b n,fun v w' => ∃ p q,v = .agg #[.slice a1 n c1,.slice a2 n c2,.pointer r,.pointer (some ⟨p,0,none⟩),.pointer (some ⟨q,0,none⟩)] ∧ PO26 w' w.heap.size p n ∧ BD26 w' w.heap.size q n,fun v w' => ∃ b,v = .pointer (some ⟨b,0,none⟩) ∧ DK26 w' w.heap.size b n a1 c1 a2 c2 r,fun v w' => ∃ c d,v = .agg #[.pointer (some ⟨c,0,none⟩),.pointer (some ⟨d,0,none⟩)] ∧ RW w' w.heap.size c n ∧ w.heap.size ≤ c ∧ DK26 w' w.heap.size d n a1 c1 a2 c2 r,fun v w' => RB26 w' w.heap.size v n a1 c1 a2 c2 r,fun v w' => RB26 w' w.heap.size v n a1 c1 a2 c2 r] [17]
 ·exact mixed
 ·kernel_rfl
 ·refine .cons ?_ (.cons ?_ (.cons ?_ (.cons ?_ (.cons ?_ (.cons ?_ (.cons ?_ (.cons ?_ (.cons ?_ (.cons ?_ (.cons ?_ (.cons ?_ (.cons ?_ (.cons ?_ (.cons ?_ (.cons ?_ (.cons ?_ (.cons ?_ .nil)))))))))))))))))
  all_goals intro v w1 w2 e h
  all_goals first | exact h | (obtain ⟨c,h1,h2,h3⟩ := h;exact ⟨c,h1,h2.ext e,h3⟩) | (obtain ⟨c,h1,h2,h3⟩ := h;exact ⟨c,h1,e.heap h2 (fun y => y),h3⟩) | (obtain ⟨c,h1,h2⟩ := h;exact ⟨c,h1,h2.ext e⟩) | (obtain ⟨c,d,h1,h2,h3⟩ := h;exact ⟨c,d,h1,h2.ext e,h3.ext e⟩) | (obtain ⟨c,d,h1,h2,h3,h4⟩ := h;exact ⟨c,d,h1,h2.ext e,h3,h4.ext e⟩) | exact RB26.ext h e
 ·rfl
 ·apply BagOps.cons
  ·intro w1 e1
   change Wl [_] _ _ _ _ _ _ _
   repeat' first | refine Wl.move rfl rfl ?_ | apply Wl.nil
   apply Gt.bagEnd
   ·exact rfl
   ·exact fun w' h' => ⟨h'.upd.mono fun _ _ y => y trivial,rfl⟩
  apply BagOps.cons
  ·intro w1 e1 v0 h0
   change Wl [_] _ _ _ _ _ _ _
   have h0 : v0 = .slice a3 n c3 := h0
   subst h0
   apply Wl.callC
   ·exact rfl
   ·exact kd
   intro wq hq
   have zq := hq.upd.size
   have z1 := hwn w1 e1
   refine (rwNew a3 n c3 p wq kf (fun i hi => by obtain ⟨b,o,e,k1,k2⟩ := hA i hi;exact ⟨b,o,e,hq.upd.cell (e1.cell (hw0.cell k1 (fun y => y)) (fun y => y)) nt0,k2⟩)).mono ?_
   rintro e w2 ⟨c,rfl,hRc,hcg,u2⟩
   refine ⟨_,_,rfl,Hp.start w2,?_⟩
   apply Wl.nil
   apply Gt.bagEnd
   ·exact rfl
   ·refine fun w' h' => ⟨(hq.upd.comp u2 (T := fun _ => False) (fun k hk hs => hs.elim nt0 fun y => by omega)).comp h'.upd fun k hk hs => hs.elim id fun y => y trivial,c,rfl,?_,by omega⟩
    obtain ⟨rv,xs,k1,k2⟩ := hRc.upd h'.upd nt0 (fun _ _ _ y => y trivial)
    exact ⟨rv,xs,k1,k2.baseLe kf⟩
  apply BagOps.cons
  ·intro w1 e1
   change Wl [_] _ _ _ _ _ _ _
   repeat' first | refine Wl.move rfl rfl ?_ | apply Wl.nil
   apply Gt.bagEnd
   ·exact rfl
   ·exact fun w' h' => ⟨h'.upd.mono fun _ _ y => y trivial,rfl⟩
  apply BagOps.cons
  ·intro w1 e1
   change Wl [_] _ _ _ _ _ _ _
   repeat' first | refine Wl.move rfl rfl ?_ | apply Wl.nil
   apply Gt.bagEnd
   ·exact rfl
   ·exact fun w' h' => ⟨h'.upd.mono fun _ _ y => y trivial,rfl⟩
  apply BagOps.cons
  ·intro w1 e1
   change Wl [_] _ _ _ _ _ _ _
   repeat' first | refine Wl.move rfl rfl ?_ | apply Wl.nil
   apply Gt.bagEnd
   ·exact rfl
   ·exact fun w' h' => ⟨h'.upd.mono fun _ _ y => y trivial,rfl⟩
  apply BagOps.cons
  ·intro w1 e1
   change Wl [_] _ _ _ _ _ _ _
   repeat' first | refine Wl.move rfl rfl ?_ | apply Wl.nil
   apply Gt.bagEnd
   ·exact rfl
   ·exact fun w' h' => ⟨h'.upd.mono fun _ _ y => y trivial,rfl⟩
  apply BagOps.cons
  ·intro w1 e1 va ha v5 h5
   change Wl [_] _ _ _ _ _ _ _
   have h5 : v5 = .int .i64 (n : Int) := h5
   subst h5
   have z1 := hwn w1 e1
   apply Wl.makeSlice (n := n)
   ·exact rfl
   ·exact rfl
   ·exact rfl
   ·exact Nat.ble_eq_true_of_le (Nat.le_trans (Nat.mul_le_mul_left _ hn.2) ku)
   ·omega
   intro c hc ho
   rw [made_nil hn]
   apply Wl.nil
   apply Gt.bagEnd
   ·exact rfl
   ·exact fun w' h' => ⟨(h'.drop zf).ext,c,rfl,h'.own.at (.head _),by omega⟩
  apply BagOps.cons
  ·intro w1 e1 v6 h6
   change Wl [_] _ _ _ _ _ _ _
   have h6 : ∃ b,v6 = .slice (some ⟨b,0,none⟩) n n ∧ w1.heap[b]? = some (.cells (List.replicate n (Value.slice none 0 0)).toArray 172 (0,0)) ∧ w.heap.size ≤ b := h6
   obtain ⟨b,rfl,k1,k2⟩ := h6
   repeat' first | (apply Wl.buildS;exact rfl;exact kh;exact kb) | apply Wl.nil
   apply Gt.bagEnd
   ·exact rfl
   ·exact fun w' h' => ⟨h'.upd.mono fun _ _ y => y trivial,b,rfl,h'.upd.heap k1 nt0,k2⟩
  apply BagOps.cons
  ·intro w1 e1 v7 h7
   change Wl [_] _ _ _ _ _ _ _
   have h7 : ∃ b,v7 = .agg #[.slice (some ⟨b,0,none⟩) n n] ∧ w1.heap[b]? = some (.cells (List.replicate n (Value.slice none 0 0)).toArray 172 (0,0)) ∧ w.heap.size ≤ b := h7
   obtain ⟨b,rfl,k1,k2⟩ := h7
   have z1 := hwn w1 e1
   repeat' first | (apply Wl.boxA;exact rfl;exact rfl;intro c hc ho) | apply Wl.nil
   apply Gt.bagEnd
   ·exact rfl
   ·exact fun w' h' => ⟨(h'.drop zf).ext,_,rfl,b,h'.own.at (.head _),(h'.drop zf).ext.heap k1 (fun y => y),k2,by omega⟩
  apply BagOps.cons
  ·intro w1 e1
   change Wl [_] _ _ _ _ _ _ _
   repeat' first | refine Wl.move rfl rfl ?_ | apply Wl.nil
   apply Gt.bagEnd
   ·exact rfl
   ·exact fun w' h' => ⟨h'.upd.mono fun _ _ y => y trivial,rfl⟩
  apply BagOps.cons
  ·intro w1 e1 va ha v9 h9
   change Wl [_] _ _ _ _ _ _ _
   have h9 : v9 = .int .i64 (n : Int) := h9
   subst h9
   have z1 := hwn w1 e1
   apply Wl.makeSlice (n := n)
   ·exact rfl
   ·exact rfl
   ·exact rfl
   ·exact Nat.ble_eq_true_of_le (Nat.le_trans (Nat.mul_le_mul_left _ hn.2) ku)
   ·omega
   intro c hc ho
   rw [made_str hn]
   apply Wl.nil
   apply Gt.bagEnd
   ·exact rfl
   ·exact fun w' h' => ⟨(h'.drop zf).ext,c,rfl,h'.own.at (.head _),by omega⟩
  apply BagOps.cons
  ·intro w1 e1 v10 h10
   change Wl [_] _ _ _ _ _ _ _
   have h10 : ∃ b,v10 = .slice (some ⟨b,0,none⟩) n n ∧ w1.heap[b]? = some (.cells (List.replicate n (Value.string ⟨#[]⟩)).toArray 9 (0,0)) ∧ w.heap.size ≤ b := h10
   obtain ⟨b,rfl,k1,k2⟩ := h10
   repeat' first | (apply Wl.buildS;exact rfl;exact kh;exact kb) | apply Wl.nil
   apply Gt.bagEnd
   ·exact rfl
   ·exact fun w' h' => ⟨h'.upd.mono fun _ _ y => y trivial,b,rfl,h'.upd.heap k1 nt0,k2⟩
  apply BagOps.cons
  ·intro w1 e1 v11 h11
   change Wl [_] _ _ _ _ _ _ _
   have h11 : ∃ b,v11 = .agg #[.slice none 0 0,.slice none 0 0,.slice (some ⟨b,0,none⟩) n n] ∧ w1.heap[b]? = some (.cells (List.replicate n (Value.string ⟨#[]⟩)).toArray 9 (0,0)) ∧ w.heap.size ≤ b := h11
   obtain ⟨b,rfl,k1,k2⟩ := h11
   have z1 := hwn w1 e1
   repeat' first | (apply Wl.boxA;exact rfl;exact rfl;intro c hc ho) | apply Wl.nil
   apply Gt.bagEnd
   ·exact rfl
   ·exact fun w' h' => ⟨(h'.drop zf).ext,_,rfl,b,h'.own.at (.head _),(h'.drop zf).ext.heap k1 (fun y => y),k2,by omega⟩
  apply BagOps.cons
  ·intro w1 e1 v2 h2 v3 h3 v4 h4 v8 h8 v12 h12
   change Wl [_] _ _ _ _ _ _ _
   have h2 : v2 = .slice a1 n c1 := h2
   have h3 : v3 = .slice a2 n c2 := h3
   have h4 : v4 = .pointer r := h4
   have h8 : ∃ b,v8 = .pointer (some ⟨b,0,none⟩) ∧ PO26 w1 w.heap.size b n := h8
   have h12 : ∃ b,v12 = .pointer (some ⟨b,0,none⟩) ∧ BD26 w1 w.heap.size b n := h12
   subst h2 h3 h4
   obtain ⟨p8,rfl,k8⟩ := h8
   obtain ⟨q8,rfl,k12⟩ := h12
   repeat' first | (apply Wl.buildS;exact rfl;exact kh;exact kb) | apply Wl.nil
   apply Gt.bagEnd
   ·exact rfl
   ·exact fun w' h' => ⟨h'.upd.mono fun _ _ y => y trivial,p8,q8,rfl,k8.ext (h'.upd.mono fun _ _ y => y trivial),k12.ext (h'.upd.mono fun _ _ y => y trivial)⟩
  apply BagOps.cons
  ·intro w1 e1 v13 h13
   change Wl [_] _ _ _ _ _ _ _
   have h13 : ∃ p q,v13 = .agg #[.slice a1 n c1,.slice a2 n c2,.pointer r,.pointer (some ⟨p,0,none⟩),.pointer (some ⟨q,0,none⟩)] ∧ PO26 w1 w.heap.size p n ∧ BD26 w1 w.heap.size q n := h13
   obtain ⟨p8,q8,rfl,k8,k12⟩ := h13
   have z1 := hwn w1 e1
   repeat' first | (apply Wl.boxA;exact rfl;exact rfl;intro c hc ho) | apply Wl.nil
   apply Gt.bagEnd
   ·exact rfl
   ·exact fun w' h' => ⟨(h'.drop zf).ext,_,rfl,p8,q8,h'.own.at (.head _),k8.ext (h'.drop zf).ext,k12.ext (h'.drop zf).ext,by omega⟩
  apply BagOps.cons
  ·intro w1 e1 v1 h1 v14 h14
   change Wl [_] _ _ _ _ _ _ _
   have h1 : ∃ c,v1 = .pointer (some ⟨c,0,none⟩) ∧ RW w1 w.heap.size c n ∧ w.heap.size ≤ c := h1
   have h14 : ∃ b,v14 = .pointer (some ⟨b,0,none⟩) ∧ DK26 w1 w.heap.size b n a1 c1 a2 c2 r := h14
   obtain ⟨c,rfl,k1,k2⟩ := h1
   obtain ⟨d,rfl,k3⟩ := h14
   repeat' first | (apply Wl.buildS;exact rfl;exact kh;exact kb) | apply Wl.nil
   apply Gt.bagEnd
   ·exact rfl
   ·exact fun w' h' => ⟨h'.upd.mono fun _ _ y => y trivial,c,d,rfl,k1.ext (h'.upd.mono fun _ _ y => y trivial),k2,k3.ext (h'.upd.mono fun _ _ y => y trivial)⟩
  apply BagOps.cons
  ·intro w1 e1 v15 h15
   change Wl [_] _ _ _ _ _ _ _
   have h15 : ∃ c d,v15 = .agg #[.pointer (some ⟨c,0,none⟩),.pointer (some ⟨d,0,none⟩)] ∧ RW w1 w.heap.size c n ∧ w.heap.size ≤ c ∧ DK26 w1 w.heap.size d n a1 c1 a2 c2 r := h15
   obtain ⟨cw,d,rfl,k1,k2,k4⟩ := h15
   have z1 := hwn w1 e1
   have lc : cw < w1.heap.size := by obtain ⟨rv,xs,k3,_⟩ := k1;exact lt_of_block k3
   repeat' first | (apply Wl.boxA;exact rfl;exact rfl;intro c hc ho) | apply Wl.nil
   apply Gt.bagEnd
   ·exact rfl
   ·exact fun w' h' => ⟨(h'.drop zf).ext,_,cw,d,rfl,h'.own.at (.head _),k1.ext (h'.drop zf).ext,k2,by omega,by omega,k4.ext (h'.drop zf).ext⟩
  apply BagOps.cons
  ·intro w1 e1
   repeat intro _
   rename_i v16 h16
   change Wl [_] _ _ _ _ _ _ _
   have h16 : RB26 w1 w.heap.size v16 n a1 c1 a2 c2 r := h16
   repeat' first | refine Wl.assign rfl rfl ?_ | apply Wl.nil
   apply Gt.bagEnd
   ·exact rfl
   ·exact fun w' h' => ⟨h'.upd.mono fun _ _ y => y trivial,h16.ext (h'.upd.mono fun _ _ y => y trivial)⟩
  exact .nil
 intro w1 e1 v h
 repeat' first | apply St.ret | apply Gt.next | (apply Gt.out1;exact rfl;exact rfl;intro w' hp)
 have h' : RB26 w1 w.heap.size v n a1 c1 a2 c2 r := h
 exact ⟨v,rfl,h'.ext (hp.upd.mono fun _ _ y => y trivial),((hw0.comp e1 (T := fun k => w.heap.size ≤ k) fun k _ hs => hs.elim (fun y => y.elim) fun y => y.elim).comp hp.upd fun k _ hs => hs.elim id fun y => (y trivial).elim)⟩
theorem rFeed0 (bd ia n cap : Nat) (xs : List Value) (w : World) (h1 : w.cell? ⟨bd,2,none⟩ = some (.slice (some ⟨ia,0,none⟩) n cap)) (h2 : w.heap[ia]? = some (.cells (Value.string ⟨#[]⟩ :: xs).toArray 9 (0,0))) (hn : 1 ≤ n) (hb : bd ≠ ia) :
  Calls Tryz.prog 33 #[.pointer (some ⟨bd,0,none⟩),.int .i64 0,.string ⟨#[]⟩] w fun e w' => (∃ z,e = .returned z) ∧ Upd (fun k => k = ia) w w' := by
 have d1 : decide ((0 : Int) < 0) = false := by decide
 have d2 : decide ((0 : Int) ≥ (n : Int)) = false := decide_eq_false kf
 have h3 : w.cell? ⟨ia,0 + (0 : Int).toNat,none⟩ = some (.string ⟨#[]⟩) := cell_of h2 rfl
 have h0 : (0 : Int) ≤ 0 ∧ (0 : Int) < n := ⟨by omega,by omega⟩
 refine enter (args := [_,_,_]) (Γ := [(0,_),(1,_),(2,_)]) Tryz.func33 Tryz.ntmps33 rfl odq (.cons rfl (.cons rfl (.cons rfl .nil))) ?_
 repeat' first | (apply Wl.loadO;exact rfl;exact rfl;(first | exact h1 | exact h3);trivial) | refine Wl.move rfl rfl ?_ | refine Wl.assign rfl rfl ?_ | (apply Wl.on;exact rfl;exact rfl;exact k5) | refine Wl.nilCheck rfl rfl ?_ | (apply Wl.pickF;exact rfl;exact rfl;exact k5;exact rfl) | refine Wl.fieldAddrZ rfl rfl ?_ | refine Wl.lss rfl rfl rfl ?_ | refine Wl.gtr rfl rfl rfl ?_ | refine Wl.geq rfl rfl rfl ?_ | refine Wl.add rfl rfl rfl ?_ | refine Wl.len rfl rfl ?_ | refine Wl.lenS rfl rfl ?_ | (refine Wl.indexAddr1 rfl rfl rfl ?_ ?_;constructor <;> omega) | apply Wl.nil | apply St.seq | apply St.region | (apply St.condF;exact rfl;exact k5) | apply St.skip | apply Gt.next
 refine Wl.cls (fun _ h' => Hp.open h' h2 trivial) ?_
 apply Wl.addS (a := []) (b := [])
 ·exact rfl
 ·exact rfl
 ·exact rfl
 ·decide
 repeat' first | (apply Wl.store;exact rfl;exact rfl;exact rfl;exact kd;exact .z) | refine Wl.assign rfl rfl ?_ | (refine Wl.indexAddr1 rfl rfl rfl ?_ ?_;constructor <;> omega) | apply Wl.nil | apply St.seq | apply St.region | apply St.ret | apply Gt.next | (apply Gt.out1;exact rfl;exact rfl;intro w' hp)
 exact ⟨⟨_,rfl⟩,Hp.turned hp⟩
theorem FB0 : FB (fun _ => 0) := fun _ => ⟨by show (0 : Int) ≤ 0;decide,by show (0 : Int) < 256;decide⟩
theorem codeF_FB {f : Nat → Int} (h : FB f) (o : Nat) (l : List Int) : ∀ k,FB (codeF f o l k)
 | 0 => h
 | k + 1 => storeX_FB (codeF_FB h o l k) _ _ _
theorem loadF_FB (l : List LoadD) : ∀ i,FB (loadF l i)
 | 0 => FB0
 | i + 1 => putF_FB (codeF_FB (loadF_FB l i) _ _ _) _ _
theorem mFeed (base : Nat) (I : Mi) (M : Mv2) (i : Nat) (s z : List UInt8) (w : World) (hM : MonS w base I M) (hi : M.ins[i]? = some s) (hz : s.length + z.length ≤ 64) :
  Calls Tryz.prog 28 #[.pointer (some ⟨I.m,0,none⟩),.int .i64 (i : Int),strV z] w fun e w' => e = .returned (.int .i64 0) ∧ MonS w' base I {M with ins := M.ins.set i (s ++ z)} ∧ Upd (fun k => k = I.ia) w w' := by
 have q1 : w.cell? ⟨I.m,1,none⟩ = some (.pointer (some ⟨I.d,0,none⟩)) := cell_of hM.mm rfl
 have q2 : w.cell? ⟨I.d,4,none⟩ = some (.pointer (some ⟨I.bd,0,none⟩)) := cell_of hM.dd rfl
 refine enter (args := [_,_,_]) (Γ := [(0,_),(1,_),(2,_)]) Tryz.func28 Tryz.ntmps28 rfl odq (.cons rfl (.cons rfl (.cons rfl .nil))) ?_
 repeat' first | (apply Wl.loadO;exact rfl;exact rfl;exact zs;exact km) | refine Wl.move rfl rfl ?_ | refine Wl.assign rfl rfl ?_ | refine Wl.nilCheck rfl rfl ?_ | refine Wl.fieldAddrZ rfl rfl ?_ | refine Wl.eqlPN rfl rfl rfl ?_ | apply Wl.nil | apply St.seq | apply St.region | (apply St.condF;exact rfl;exact k5) | apply St.skip | apply Gt.next
 apply Wl.callC
 ·exact rfl
 ·exact kd
 intro wq hq
 have hq0 := hM.upd hq.upd fun b hb y => y trivial
 refine (bFeed _ _ _ _ _ _ _ i s z wq hq0.board hi hz).mono ?_
 rintro e w1 ⟨rfl,hB,u⟩
 have h1 := hq0.feed hB (List.length_set ..) u
 refine ⟨_,_,rfl,Hp.start w1,?_⟩
 repeat' first | refine Wl.assign rfl rfl ?_ | apply Wl.nil | apply St.ret | apply Gt.next | (apply Gt.out1;exact rfl;exact rfl;intro w' hp)
 exact ⟨rfl,h1.upd hp.upd (fun b hb y => y trivial),((hq.upd.mono fun _ _ y => (y trivial).elim).comp u fun k _ hs => hs.elim id id).comp hp.upd fun k _ hs => hs.elim id fun y => (y trivial).elim⟩
def stC (n i : Nat) : List Value := (List.range n).map fun j => .int .u32 (if j < i then biasI j else 0)
theorem stC_len (n i : Nat) : (stC n i).length = n := by simp [stC]
theorem stC_set {n i : Nat} (h : i < n) : LSet (stC n i) i (.int .u32 (biasI i)) (stC n (i + 1)) := by
 have e : stC n (i + 1) = (stC n i).set i (.int .u32 (biasI i)) := by
  refine List.ext_getElem? fun q => ?_
  rw [List.getElem?_set]
  by_cases hq : i = q
  ·subst hq
   rw [if_pos rfl,if_pos (by rw [stC_len];exact h)]
   simp [stC,h]
  ·rw [if_neg hq]
   by_cases hn : q < n
   ·have h1 : (q < i + 1) = (q < i) := by apply propext;omega
    simp [stC,hn,h1]
   ·rw [List.getElem?_eq_none (by rw [stC_len];omega),List.getElem?_eq_none (by rw [stC_len];omega)]
 rw [e]
 exact LSet.get (by rw [stC_len];exact h)
theorem BegS.payN {w w0 w' : World} {n pb cM rb rm rn z : Nat} {J : List Value} {gs : Nat → Nat} {ca ca' : Nat → Int} {f : Nat → Int} (k : BegS w w0 n 0 pb J gs ca cM rb rm rn f (.slice none 0 0) (.slice none 0 0) (fun _ => 0) (fun _ => 0)) (hz : ∀ b,BegF n 0 pb gs cM rb rm (.slice none 0 0) (.slice none 0 0) (fun _ => 0) b → b < z) (hw : w.heap.size ≤ z)
  (hp : w'.heap[pb]? = some (.cells ((payRs gs ca' n).flatten ++ J).toArray 116 (0,0))) (u : Upd (fun b => b = pb ∨ z ≤ b) w0 w') : BegS w w' n 0 pb J gs ca' cM rb rm rn f (.slice none 0 0) (.slice none 0 0) (fun _ => 0) (fun _ => 0) := by
 have key : ∀ {x t : Nat} {cs : Array Value},w0.heap[x]? = some (.cells cs t (0,0)) → 116 ≠ t → x < z → ¬ (x = pb ∨ z ≤ x) := fun hx hn hl hs => hs.elim (hne hx k.pay hn) fun h => absurd hl (Nat.not_lt.2 h)
 exact {
  pay := hp
  gr := fun j hj => ⟨(k.gr j hj).1,u.heap (k.gr j hj).2 (key (k.gr j hj).2 ku (hz _ (.inr (.inl ⟨j,hj,rfl⟩))))⟩
  mem := u.heap k.mem (key k.mem ku (hz _ (.inr (.inr (.inl rfl)))))
  ram := k.ram.upd u (key k.ram.1 ku (hz _ (.inr (.inr (.inr (.inl rfl)))))) (fun hs => hs.elim (k.rmne k.pay) fun h => absurd (hz rm (.inr (.inr (.inr (.inr (.inl rfl)))))) (Nat.not_lt.2 h))
  ent := World.ownsRow_nil _ _ _ _
  enx := fun j hj => (Nat.not_lt_zero _ hj).elim
  st := World.ownsRow_nil _ _ _ _
  up := k.up.comp u fun b hb hs => hs.elim id fun e => e.elim (fun e => e ▸ k.ge.1) fun h => Nat.le_trans hw h
  ge := k.ge }
theorem two27 (a : Option Addr) (n cl : Nat) (l : List LoadD) (w : World) (hl : l.length = n) (hn : 1 ≤ n ∧ n ≤ 3) (hL : LoadsF w a l) (hT : tabOk w) :
  Calls Tryz.prog 43 #[.slice a n cl,.slice none 0 0,.string ⟨#[]⟩] w fun e w' => ∃ base I M a1 a2 c1 c2 rv,e = .returned (.tuple #[.pointer (some ⟨I.m,0,none⟩),rv]) ∧ MonS w' base I M ∧ (w.heap.size ≤ base ∧ base ≤ w'.heap.size) ∧ Upd (fun k => w.heap.size ≤ k) w w' ∧
   M.pv = .slice a1 n c1 ∧ M.ev = .slice a2 n c2 ∧ M.L = newL biasI n ∧ M.t = 0 ∧ (∀ i,M.bx i = []) ∧ M.ll = [] ∧ M.ins = List.replicate n [] ∧ FB M.f := by
 have hT0 := hT.lt
 refine enter (args := [_,_,_]) (Γ := [(0,_),(1,_),(2,_)]) Tryz.func43 Tryz.ntmps43 rfl odq (.cons rfl (.cons rfl (.cons rfl .nil))) ?_
 repeat' first | refine Wl.move rfl rfl ?_ | refine Wl.assign rfl rfl ?_ | refine Wl.len rfl rfl ?_ | apply Wl.nil | apply St.seq | apply St.region | apply Gt.next
 apply Wl.callC
 ·exact rfl
 ·exact kd
 intro wq hq
 have zq := hq.upd.size
 refine (payloads n kf wq).mono ?_
 rintro e w1 ⟨v,gs,rfl,hrow,hgr,u1⟩
 obtain ⟨pb,pcap,J,rfl,hpb,hblk⟩ := hrow.blk kf
 have U1 : Upd (fun k => w.heap.size ≤ k) w w1 := Upd.comp (S := fun k => w.heap.size ≤ k) (hq.upd.mono fun _ _ y => (y trivial).elim) u1 fun k _ hs => hs.elim id fun h => Nat.le_trans zq h
 have z1 := U1.size
 refine ⟨_,_,rfl,Hp.start w1,?_⟩
 clear hq
 repeat' first | refine Wl.assign rfl rfl ?_ | apply Wl.nil | apply St.seq | apply St.region | apply Gt.next
 apply Wl.callC
 ·exact rfl
 ·exact kd
 intro wr hr
 have zr := hr.upd.size
 refine (newMem wr).mono ?_
 rintro e w2 ⟨cM,rfl,hM2,hcM⟩
 have u2 : Upd (fun k => w1.heap.size ≤ k) w1 w2 := Hp.on1 hM2 (hr.upd.mono fun _ _ y => (y trivial).elim) ky
 have z2 := u2.size
 have m2 : memH w2 cM fun _ => 0 := hM2.own.at (.head _)
 refine ⟨_,_,rfl,Hp.start w2,?_⟩
 clear hr
 apply Wl.callC
 ·exact rfl
 ·exact kd
 intro wr hr
 have zr2 := hr.upd.size
 refine (ramNew wr).mono ?_
 rintro e w3 ⟨rb,rm,rfl,hR3,hrm,hrb,u3'⟩
 have u3 : Upd (fun k => w2.heap.size ≤ k) w2 w3 := Upd.comp (S := fun k => w2.heap.size ≤ k) (hr.upd.mono fun _ _ y => (y trivial).elim) u3' fun k _ hs => hs.elim id fun h => Nat.le_trans zr2 h
 have lm2 := lt_of_block m2
 have lpb := lt_of_block hblk
 have v3 : Upd (fun k => w1.heap.size ≤ k) w1 w3 := u2.comp u3 fun k _ hs => hs.elim id fun h => Nat.le_trans z2 h
 have B3 : BegS w w3 n 0 pb J gs (caF l 0) cM rb rm 0 (loadF l 0) (.slice none 0 0) (.slice none 0 0) (fun _ => 0) (fun _ => 0) := {
  pay := v3.heap hblk kf
  gr := fun j hj => ⟨by have := (hgr j hj).1;omega,v3.heap (hgr j hj).2 (by have := lt_of_block (hgr j hj).2;omega)⟩
  mem := u3.heap m2 kf
  ram := hR3
  ent := World.ownsRow_nil _ _ _ _
  enx := fun j hj => by cases hj
  st := World.ownsRow_nil _ _ _ _
  up := U1.comp v3 fun k _ hs => hs.elim id fun h => Nat.le_trans z1 h
  ge := ⟨by omega,by omega,by omega,by omega⟩ }
 refine ⟨_,_,rfl,Hp.start w3,?_⟩
 clear hr u1 u2 u3 u3' v3 hM2 m2 hR3 hgr hrow hblk U1
 have hBF : ∀ b,BegF n 0 pb gs cM rb rm (.slice none 0 0) (.slice none 0 0) (fun _ => 0) b → b < w3.heap.size := fun b hb => (B3.lt b hb).2
 repeat' first | refine Wl.move rfl rfl ?_ | refine Wl.assign rfl rfl ?_ | refine Wl.len rfl rfl ?_ | apply Wl.nil | apply St.seq | apply St.region | apply Gt.next
 apply Wl.makeSlice
 ·exact rfl
 ·exact rfl
 ·exact rfl
 ·exact Nat.ble_eq_true_of_le kf
 ·omega
 intro c11 hc11 _
 repeat' first | refine Wl.move rfl rfl ?_ | refine Wl.assign rfl rfl ?_ | refine Wl.len rfl rfl ?_ | apply Wl.nil | apply St.seq | apply St.region | apply Gt.next
 apply Wl.makeSlice
 ·exact rfl
 ·exact rfl
 ·exact rfl
 ·exact Nat.ble_eq_true_of_le kf
 ·omega
 intro c12 hc12 ho12
 have hst0 : (madeCells (Value.int .u32 0).cells (n * 1)).toList = stC n 0 := by
  rcases (show n = 1 ∨ n = 2 ∨ n = 3 by omega) with h | h | h <;> (rw [h];kernel_rfl)
 have hys0 : ((madeCells (Value.slice none 0 0).cells (n * 1)).toList).length = n ∧ ((madeCells (Value.slice none 0 0).cells (n * 1)).toList).all Value.oneCell' = true := by
  rcases (show n = 1 ∨ n = 2 ∨ n = 3 by omega) with h | h | h <;> (rw [h];exact ⟨by kernel_rfl,by kernel_rfl⟩)
 rw [hst0]
 generalize (madeCells (Value.slice none 0 0).cells (n * 1)).toList = ys0 at *
 have n12 : c11 ≠ c12 := ho12.1
 repeat' first | refine Wl.assign rfl rfl ?_ | apply Wl.nil | apply Gt.next
 refine St.cut (σ := World × Nat × List Value) (fun τ => τ.2.1 ≤ 20000 * n ∧ BegS w τ.1 n 0 pb J gs (caF l n) cM rb rm τ.2.1 (loadF l n) (.slice none 0 0) (.slice none 0 0) (fun _ => 0) (fun _ => 0) ∧ τ.2.2.length = n ∧ τ.2.2.all Value.oneCell' = true)
  (fun _ => [(0,.slice a n cl),(1,.slice none 0 0),(2,.string ⟨#[]⟩),(6,.pointer none),(7,.pointer none),(8,.slice (some ⟨pb,0,none⟩) n pcap),(9,.pointer (some ⟨cM,0,none⟩)),(10,.pointer (some ⟨rb,0,none⟩)),(11,.slice (some ⟨c11,0,none⟩) n n),(12,.slice (some ⟨c12,0,none⟩) n n)]) (fun τ => Hp τ.1 [⟨c12,τ.2.2,65⟩,⟨c11,stC n n,25⟩]) ?_ ?_
 ·repeat' first | refine Wl.move rfl rfl ?_ | refine Wl.len rfl rfl ?_ | apply Wl.nil | apply St.seq | apply St.block | apply St.region | apply Gt.next
  refine St.loop (σ := Nat × World × Nat × List Value) (fun τ => τ.1 ≤ n ∧ τ.2.2.1 ≤ 20000 * τ.1 ∧ BegS w τ.2.1 n 0 pb J gs (caF l τ.1) cM rb rm τ.2.2.1 (loadF l τ.1) (.slice none 0 0) (.slice none 0 0) (fun _ => 0) (fun _ => 0) ∧ (τ.2.2.2.length = n ∧ τ.2.2.2.all Value.oneCell' = true) ∧ w3.heap.size ≤ τ.2.1.heap.size)
   (fun τ => [(0,.slice a n cl),(1,.slice none 0 0),(2,.string ⟨#[]⟩),(6,.pointer none),(7,.pointer none),(8,.slice (some ⟨pb,0,none⟩) n pcap),(9,.pointer (some ⟨cM,0,none⟩)),(10,.pointer (some ⟨rb,0,none⟩)),(11,.slice (some ⟨c11,0,none⟩) n n),(12,.slice (some ⟨c12,0,none⟩) n n),(34,.slice a n cl),(35,.int .i64 (n : Int)),(36,.int .i64 (τ.1 : Int))]) (fun τ => Hp τ.2.1 [⟨c12,τ.2.2.2,65⟩,⟨c11,stC n τ.1,25⟩]) (fun τ => n - τ.1)
   (0,w3,0,ys0) ⟨Nat.zero_le _,Nat.zero_le _,B3,hys0,Nat.le_refl _⟩ kq (fun _ h => h) ?_
  rintro ⟨i,w0,rn,ys⟩ ⟨hi,hrn,B0,hys,z30⟩
  try simp only at hi hrn B0 hys z30 ⊢
  have s0 := B0.size
  by_cases hlt : i < n
  ·have hd : decide ((i : Int) < (n : Int)) = true := decide_eq_true kf
   obtain ⟨x,hx⟩ : ∃ x,l[i]? = some x := ⟨_,List.getElem?_eq_getElem kf⟩
   have hgx : l.getD i ⟨[],[],0,[]⟩ = x := by rw [List.getD_eq_getElem?_getD,hx];rfl
   obtain ⟨lb,lo,rfl,v0,v1,v3,hcell,hV⟩ := hL i x hx
   have hlb : lb < w.heap.size := cell_old (hcell 0 _ rfl)
   have hcell' : ∀ q v,(loadC v0 v1 v3 x)[q]? = some v → w0.cell? ⟨lb,lo + (i : Int).toNat * 4 + q,none⟩ = some v := fun q v hq => by rw [Int.toNat_natCast];exact B0.up.cell (hcell q v hq) (Nat.not_le.2 hlb)
   obtain ⟨ca,cc,rfl,hcw⟩ := hV.code
   have ho1 : v1.oneCell' = true := by obtain ⟨va,vc,rfl,_⟩ := hV.data.shape;rfl
   have ho3 : v3.oneCell' = true := by obtain ⟨va,vc,rfl,_⟩ := hV.regs;rfl
   have hlo : (loadC (.slice ca x.code.length cc) v1 v3 x).all Value.oneCell' = true := by show (true && (v1.oneCell' && (true && (v3.oneCell' && true)))) = true;rw [ho1,ho3];rfl
   obtain ⟨hxl1,hxl2,hxl3⟩ := hV.len
   have hpbl := hBF pb (.inl rfl)
   have hpx : (payRs gs (caF l i) n)[i]? = some (payX i (gs i) (caF l i i)) := payRs_at gs _ hlt
   have hca : caF l (i + 1) i = bits .and .i64 x.calls 255 := by unfold caF;rw [if_pos (Nat.lt_succ_self i),hgx]
   have hset : LSet ((payRs gs (caF l i) n).flatten ++ J) (0 + (i : Int).toNat * 36 + 35) (.int .i64 (bits .and .i64 x.calls 255)) ((payRs gs (caF l (i + 1)) n).flatten ++ J) := by
    rw [Int.toNat_natCast,Nat.zero_add,← hca,← payRs_set gs (caF l i) (caF l (i + 1)) hlt (fun j hj => by unfold caF;by_cases h : j < i;rw [if_pos h,if_pos kf];rw [if_neg h,if_neg kf])]
    exact LSet.flat (payRs_len _ _ _) hpx ku
   have hst' : LSet (stC n i) (0 + (i : Int).toNat * 1) (.int .u32 (biasI i)) (stC n (i + 1)) := by rw [Int.toNat_natCast,Nat.mul_one,Nat.zero_add];exact stC_set hlt
   have hst'' : LSet (stC n i) (0 + (i : Int).toNat) (.int .u32 (biasI i)) (stC n (i + 1)) := by rw [Int.toNat_natCast,Nat.zero_add];exact stC_set hlt
   have hpl : ((payRs gs (caF l (i + 1)) n).flatten ++ J)[0 + (i : Int).toNat * 36 + 33]? = some (.int .u32 (biasI i)) := by
    have hf := flat_get (payRs_len gs (caF l (i + 1)) n) (payRs_at gs (caF l (i + 1)) hlt) (q := 33) ku
    rw [(payX_at i (gs i) (caF l (i + 1) i)).1] at hf
    rw [Int.toNat_natCast,Nat.zero_add,List.getElem?_append_left (List.getElem?_eq_some_iff.1 hf).1]
    exact hf
   refine St.cls (fun _ h' => Hp.open h' B0.pay ⟨by simp only;omega,by simp only;omega,trivial⟩) ?_
   repeat' first | (apply Wl.store;exact rfl;exact rfl;exact rfl;exact kd;(first | exact hset | exact hst' | exact hst'')) | (apply Wl.loadAB (xs := loadC (.slice ca x.code.length cc) v1 v3 x);exact rfl;exact rfl;(intro j v hj;exact hcell' j v hj);exact km;exact rfl) | (apply Wl.storeA (xs := loadC (.slice ca x.code.length cc) v1 v3 x);exact rfl;exact rfl;exact rfl;exact hlo;exact kd;exact .z (LOver.whole rfl)) | (apply Wl.loadH;exact rfl;exact rfl;exact kd;exact hpl) | refine Wl.move rfl rfl ?_ | refine Wl.assign rfl rfl ?_ | refine Wl.fieldAddrZ rfl rfl ?_ | refine Wl.fieldAddr rfl rfl ?_ | (apply Wl.loadH;exact rfl;exact rfl;exact kd;exact rfl) | refine Wl.lss rfl rfl rfl ?_ | refine Wl.and rfl rfl rfl ?_ | (apply Wl.alloc;exact rfl;intro c hc ho) | (refine Wl.indexAddr1 rfl rfl rfl ?_ ?_;constructor <;> omega) | (refine Wl.indexAddr rfl rfl rfl ?_ ?_;constructor <;> omega) | apply Wl.nil | apply St.seq | apply St.block | apply St.region | (apply St.condT;exact rfl;exact k5) | apply St.skip | apply Gt.next
   generalize c = c9 at *
   have hc9 : w0.heap.size ≤ c9 := by assumption
   refine St.reb (H' := [⟨c9,loadC (.slice ca x.code.length cc) v1 v3 x,30⟩,⟨c12,ys,65⟩,⟨c11,stC n (i + 1),25⟩]) fun w4 h4 => ⟨⟨h4.own.1,h4.own.2.2⟩,⟨h4.apart.1.2,h4.apart.2.2⟩,?_⟩
   have u4 : Upd (fun b => b = pb ∨ w3.heap.size ≤ b) w0 w4 := h4.upd.mono fun k _ y => (by
    have := in_off y
    simp only [List.map_cons,List.map_nil,List.mem_cons,List.not_mem_nil,or_false] at this
    omega)
   have zw3 := B3.up.size
   have B4 := B0.payN hBF zw3 (own_c h4.own (.tail _ (.head _))) u4
   have z4 := u4.size
   have lq9 : c9 < w4.heap.size := lt_of_block (own_c h4.own (.head _))
   have mv4 : ∀ {H : List Blk} {w' : World},Hp w4 H w' → (∀ y ∈ H,w3.heap.size ≤ y.b) → BegS w w' n 0 pb J gs (caF l (i + 1)) cM rb rm rn (loadF l i) (.slice none 0 0) (.slice none 0 0) (fun _ => 0) (fun _ => 0) := fun h' hH => B4.upd h'.upd (fun b hb hs => by
    obtain ⟨y,hy,e⟩ := List.mem_map.1 (in_off hs)
    have := hH y hy
    have := hBF b hb
    omega) (fun b hb hs => by
    obtain ⟨y,hy,e⟩ := List.mem_map.1 (in_off hs)
    have := hH y hy
    omega)
   have hH3 : ∀ y ∈ ([⟨c9,loadC (.slice ca x.code.length cc) v1 v3 x,30⟩,⟨c12,ys,65⟩,⟨c11,stC n (i + 1),25⟩] : List Blk),w3.heap.size ≤ y.b := by
    simp only [List.mem_cons,List.not_mem_nil,or_false,forall_eq_or_imp,forall_eq]
    omega
   refine St.tree (fun w' => w'.cell? ⟨pb,0 + (i : Int).toNat * 36 + 33,none⟩ = some (.int .u32 (biasI i))) mixed (fun _ h' => ⟨Hp.drew h',((mv4 (Hp.drew h') hH3).at hlt).1⟩) ?_
   refine Mt.pm 0 ?_
   refine Mt.pm 1 ?_
   refine Mt.pm 2 ?_
   refine Mt.pm 3 ?_
   refine Mt.pm 10 ?_
   refine Mt.pm 11 ?_
   refine Mt.pu 4 ?_
   refine Wl.indexAddr rfl rfl rfl ?_ ?_;constructor <;> omega;apply Wl.nilB
   refine Mt.pu 12 ?_
   refine Wl.indexAddr rfl rfl rfl ?_ ?_;constructor <;> omega;apply Wl.nilB
   refine Mt.pu 5 ?_
   refine Wl.fieldAddr rfl rfl (Wl.nilB ?_)
   refine Mt.pu 13 ?_
   refine Wl.fieldAddr rfl rfl (Wl.nilB ?_)
   refine Mt.pu 6 ?_
   apply Wl.loadF;exact rfl;exact rfl;(intro w' h';exact h');apply Wl.nilB
   refine Mt.pu 14 ?_
   apply Wl.loadF;exact rfl;exact rfl;(intro w' h';exact h');apply Wl.nilB
   refine Mt.pu 7 ?_
   refine Wl.shr rfl rfl rfl ?_ ?_;omega;apply Wl.nilB
   refine Mt.pu 15 ?_
   refine Wl.addN32 rfl rfl rfl (Wl.nilB ?_)
   refine Mt.pu 8 ?_
   refine Wl.or rfl rfl rfl (Wl.nilB ?_)
   refine Mt.pu 16 ?_
   refine Wl.shr rfl rfl rfl ?_ ?_;omega;apply Wl.nilB
   refine Mt.pu 9 ?_
   apply Wl.buildS;exact rfl;exact kh;exact kb;apply Wl.nilB
   refine Mt.pu 17 ?_
   refine Wl.or rfl rfl rfl (Wl.nilB ?_)
   refine Mt.pu 18 ?_
   apply Wl.buildS;exact rfl;exact kh;exact kb;apply Wl.nilB
   refine Mt.e1 19 ?_
   repeat' first | (apply Wl.lit;exact rfl;exact kh;exact rfl;exact rfl;exact ke;intro c hc ho) | apply Wl.nil
   refine Mt.backE (fun _ h' => ((mv4 h' (by
    simp only [List.mem_cons,List.not_mem_nil,or_false,forall_eq_or_imp,forall_eq]
    omega)).at hlt).1) ?_
   refine Mt.pu 20 ?_
   refine Wl.indexAddr1 rfl rfl rfl ?_ ?_;constructor <;> omega;apply Wl.nilB
   refine Mt.e1 21 ?_
   repeat' first | (apply Wl.store;exact rfl;exact rfl;exact rfl;exact kd;exact LSet.get (by simp only [Int.toNat_natCast];omega)) | apply Wl.nil
   refine Mt.backE (fun _ h' => ((mv4 h' (by
    simp only [List.mem_cons,List.not_mem_nil,or_false,forall_eq_or_imp,forall_eq]
    omega)).at hlt).1) ?_
   refine Mt.toGt ka ?_
   repeat' first | apply Gt.next
   have hys2 : ∀ v : Value,v.oneCell' = true → ∀ q,(ys.set q v).length = n ∧ (ys.set q v).all Value.oneCell' = true := fun v hv q => ⟨by rw [List.length_set];exact hys.1,by
    rw [List.all_eq_true]
    intro u hu
    rcases List.mem_or_eq_of_mem_set hu with h | h
    ·exact List.all_eq_true.1 hys.2 u h
    ·rw [h];exact hv⟩
   have hys3 := hys2 (.slice (some ⟨c,0,none⟩) 2 2) rfl (0 + (i : Int).toNat)
   generalize ys.set (0 + (i : Int).toNat) (.slice (some ⟨c,0,none⟩) 2 2) = ys2 at *
   refine St.reb (H' := [⟨c9,loadC (.slice ca x.code.length cc) v1 v3 x,30⟩,⟨c12,ys2,65⟩,⟨c11,stC n (i + 1),25⟩]) fun w5 h5 => ⟨h5.own.2,h5.apart.2,?_⟩
   have B5 := mv4 h5 (by
    simp only [List.mem_cons,List.not_mem_nil,or_false,forall_eq_or_imp,forall_eq]
    omega)
   have z5 := h5.upd.size
   have hH4 : ∀ y ∈ ([⟨c9,loadC (.slice ca x.code.length cc) v1 v3 x,30⟩,⟨c12,ys2,65⟩,⟨c11,stC n (i + 1),25⟩] : List Blk),w3.heap.size ≤ y.b := by
    simp only [List.mem_cons,List.not_mem_nil,or_false,forall_eq_or_imp,forall_eq]
    omega
   clear mv4 hset hpx h5 u4
   repeat' first | refine Wl.move rfl rfl ?_ | refine Wl.fieldAddr0 rfl rfl ?_ | (apply Wl.loadH;exact rfl;exact rfl;exact kd;exact rfl) | refine Wl.len rfl rfl ?_ | apply Wl.nil | apply St.seq | apply St.block | apply St.region | apply Gt.next
   refine St.loop (σ := Nat × World × Nat) (fun τ => τ.1 ≤ x.code.length ∧ τ.2.2 ≤ rn + 8 * τ.1 ∧ BegS w τ.2.1 n 0 pb J gs (caF l (i + 1)) cM rb rm τ.2.2 (codeF (loadF l i) (4096 + 12288 * i) x.code τ.1) (.slice none 0 0) (.slice none 0 0) (fun _ => 0) (fun _ => 0) ∧ w5.heap.size ≤ τ.2.1.heap.size)
    (fun τ => [(0,.slice (some ⟨lb,lo,none⟩) n cl),(1,.slice none 0 0),(2,.string ⟨#[]⟩),(6,.pointer none),(7,.pointer none),(8,.slice (some ⟨pb,0,none⟩) n pcap),(9,.pointer (some ⟨cM,0,none⟩)),(10,.pointer (some ⟨rb,0,none⟩)),(11,.slice (some ⟨c11,0,none⟩) n n),(12,.slice (some ⟨c12,0,none⟩) n n),(13,.int .i64 (i : Int)),(14,.pointer (some ⟨c9,0,none⟩)),(34,.slice (some ⟨lb,lo,none⟩) n cl),(35,.int .i64 (n : Int)),(36,.int .i64 (i : Int)),(78,.slice ca x.code.length cc),(79,.int .i64 (x.code.length : Int)),(80,.int .i64 (τ.1 : Int))]) (fun τ => Hp τ.2.1 [⟨c9,loadC (.slice ca x.code.length cc) v1 v3 x,30⟩,⟨c12,ys2,65⟩,⟨c11,stC n (i + 1),25⟩]) (fun τ => x.code.length - τ.1) (0,w5,rn) ⟨Nat.zero_le _,Nat.le_refl _,B5,Nat.le_refl _⟩ kq (fun _ h => h) ?_
   clear B5
   rintro ⟨k,w6,rn6⟩ ⟨hk,hrn6,B6,z56⟩
   try simp only at hk hrn6 B6 z56 ⊢
   have mv6 : ∀ {H : List Blk} {w' : World},Hp w6 H w' → (∀ y ∈ H,w3.heap.size ≤ y.b) → BegS w w' n 0 pb J gs (caF l (i + 1)) cM rb rm rn6 (codeF (loadF l i) (4096 + 12288 * i) x.code k) (.slice none 0 0) (.slice none 0 0) (fun _ => 0) (fun _ => 0) := fun h' hH => B6.upd h'.upd (fun b hb hs => by
    obtain ⟨y,hy,e⟩ := List.mem_map.1 (in_off hs)
    have := hH y hy
    have := hBF b hb
    omega) (fun b hb hs => by
    obtain ⟨y,hy,e⟩ := List.mem_map.1 (in_off hs)
    have := hH y hy
    omega)
   have hcMl := hBF cM (.inr (.inr (.inl rfl)))
   have hrml := hBF rm (.inr (.inr (.inr (.inr (.inl rfl)))))
   obtain ⟨pa1,pa2⟩ := B6.at hlt
   have hbi : biasI i = 2147487744 + 12288 * (i : Int) := rfl
   by_cases hkl : k < x.code.length
   ·have hdk : decide ((k : Int) < (x.code.length : Int)) = true := decide_eq_true kf
    obtain ⟨wo,hwo⟩ : ∃ wo,x.code[k]? = some wo := ⟨_,List.getElem?_eq_getElem hkl⟩
    obtain ⟨cb,co,rfl,hc5,hwr⟩ := hcw k wo hwo
    have hcb : cb < w.heap.size := cell_old hc5
    have hcc5 : w6.cell? ⟨cb,co + (k : Int).toNat,none⟩ = some (.int .u32 wo) := by rw [Int.toNat_natCast];exact B6.up.cell hc5 (Nat.not_le.2 hcb)
    have hat : IntKind.u32.wrap (biasI i + 4 * (k : Int)) = biasI i + 4 * k := by rw [IntKind.wrap_u32];unfold biasI;omega
    repeat' first | (apply Wl.loadO;exact rfl;exact rfl;exact zs;exact km) | refine Wl.move rfl rfl ?_ | refine Wl.assign rfl rfl ?_ | refine Wl.fieldAddr rfl rfl ?_ | refine Wl.lss rfl rfl rfl ?_ | (refine Wl.mulI rfl rfl rfl ?_ ?_;constructor <;> omega) | refine Wl.add rfl rfl rfl ?_ | (refine Wl.convU32 rfl rfl ?_ ?_;constructor <;> omega) | (refine Wl.indexAddr1 rfl rfl rfl ?_ ?_;constructor <;> omega) | (refine Wl.indexAddr rfl rfl rfl ?_ ?_;constructor <;> omega) | apply Wl.nil | apply St.seq | apply St.block | apply St.region | (apply St.condT;exact rfl;exact k5) | apply St.skip | apply Gt.next
    apply Wl.callC
    ·exact rfl
    ·exact kd
    intro wq hq
    have zq6 := hq.upd.size
    refine (mstore cM _ 4 wo _ wq (by rw [hat];constructor <;> omega) (.inr (.inr rfl)) (mv6 hq hH4).mem).mono ?_
    rintro e w7 ⟨⟨z,rfl⟩,hp7⟩
    have u7 := Hp.turned hp7
    have m7 := hp7.own.at (.head _)
    rw [hat,if_pos qg,show (biasI i + 4 * (k : Int) - 2147483648).toNat = 4096 + 12288 * i + 4 * k by omega,show Int.toNat 4 = 4 from rfl] at m7
    have B7 : BegS w w7 n 0 pb J gs (caF l (i + 1)) cM rb rm rn6 (codeF (loadF l i) (4096 + 12288 * i) x.code (k + 1)) (.slice none 0 0) (.slice none 0 0) (fun _ => 0) (fun _ => 0) := by
     refine (mv6 hq hH4).mem' ?_ u7
     unfold codeF
     rw [show x.code.getD k 0 = wo by rw [List.getD_eq_getElem?_getD,hwo];rfl]
     exact m7
    have z7 := u7.size
    have hq7 := Hp.restD hq u7 (fun y hy e => by have := hH4 y hy;omega)
    obtain ⟨pb1,pb2⟩ := B7.at hlt
    refine ⟨_,_,rfl,hq7,?_⟩
    clear hq hp7
    repeat' first | (apply Wl.loadO;exact rfl;exact rfl;exact zs;exact km) | refine Wl.move rfl rfl ?_ | refine Wl.fieldAddr rfl rfl ?_ | (refine Wl.addI rfl rfl rfl ?_ ?_;constructor <;> omega) | (refine Wl.mulI rfl rfl rfl ?_ ?_;constructor <;> omega) | (refine Wl.convI64 rfl rfl ?_ ?_;constructor <;> omega) | (refine Wl.indexAddr rfl rfl rfl ?_ ?_;constructor <;> omega) | apply Wl.nil | apply St.region | apply Gt.next
    apply Wl.callC
    ·exact rfl
    ·exact kd
    intro wr hr
    have zr7 := hr.upd.size
    have B7r : BegS w wr n 0 pb J gs (caF l (i + 1)) cM rb rm rn6 (codeF (loadF l i) (4096 + 12288 * i) x.code (k + 1)) (.slice none 0 0) (.slice none 0 0) (fun _ => 0) (fun _ => 0) := B7.upd hr.upd (fun b hb hs => by
     obtain ⟨y,hy,e⟩ := List.mem_map.1 (in_off hs)
     have := hH4 y hy
     have := hBF b hb
     omega) (fun b hb hs => by
     obtain ⟨y,hy,e⟩ := List.mem_map.1 (in_off hs)
     have := hH4 y hy
     omega)
    refine (ramStore rb rm rn6 _ _ wr B7r.ram kf qg).mono ?_
    rintro e w8 ⟨⟨z2,rfl⟩,hR8,u8⟩
    have B8 := B7r.ram' hR8 u8
    have z8 := u8.size
    have hq8 := Hp.restD hr u8 (fun y hy e => by
     have := hH4 y hy
     have := hr.own.lt hy
     omega)
    refine ⟨_,_,rfl,hq8,?_⟩
    clear hr
    repeat' first | refine Wl.move rfl rfl ?_ | (refine Wl.addI rfl rfl rfl ?_ ?_;constructor <;> omega) | apply Wl.nil | apply St.region | apply Gt.next | apply Gt.inNormal
    exact Gt.round (k + 1,w8,rn6 + 8) ⟨hkl,by simp only;omega,B8,by simp only;omega⟩ ky kq (fun _ h => h)
   ·obtain rfl : k = x.code.length := by omega
    have hdk : decide ((x.code.length : Int) < (x.code.length : Int)) = false := decide_eq_false kf
    repeat' first | refine Wl.lss rfl rfl rfl ?_ | apply Wl.nil | apply St.seq | apply St.region | (apply St.condF;exact rfl;exact k5) | apply St.exit | apply Gt.next | apply Gt.thenExit | apply Gt.inExit
    have hat2 : IntKind.u32.wrap (biasI i + 4096) = biasI i + 4096 := by rw [IntKind.wrap_u32];omega
    have hdl : ∀ wz : World,Upd (fun k => w.heap.size ≤ k) w wz → Bs wz v1 x.data := fun wz u => hV.data.upd u fun k _ hk _ h => by omega
    have hcMg := (B6.lt cM (.inr (.inr (.inl rfl)))).1
    have hrmg := (B6.lt rm (.inr (.inr (.inr (.inr (.inl rfl)))))).1
    refine St.tree (fun w' => w'.cell? ⟨pb,0 + (i : Int).toNat * 36 + 33,none⟩ = some (.int .u32 (biasI i)) ∧ w'.heap[c9]? = some (.cells (loadC (.slice ca x.code.length cc) v1 v3 x).toArray 30 (0,0))) mixed (fun _ h' => ⟨Hp.drew h',((mv6 (Hp.drew h') hH4).at hlt).1,own_c (Hp.drew h').own (.head _)⟩) ?_
    refine Mt.pm 0 ?_
    refine Mt.pm 1 ?_
    refine Mt.pm 2 ?_
    refine Mt.pu 3 ?_
    refine Wl.indexAddr rfl rfl rfl ?_ ?_;constructor <;> omega;apply Wl.nilB
    refine Mt.pz 7 ?_
    refine Mt.pu 4 ?_
    refine Wl.fieldAddr rfl rfl (Wl.nilB ?_)
    refine Mt.pu 8 ?_
    apply Wl.loadF;exact rfl;exact rfl;(intro w' h';first | exact h'.1 | exact cell_of h'.2 rfl);apply Wl.nilB
    refine Mt.pu 5 ?_
    apply Wl.loadF;exact rfl;exact rfl;(intro w' h';first | exact h'.1 | exact cell_of h'.2 rfl);apply Wl.nilB
    refine Mt.pu 6 ?_
    refine Wl.add rfl rfl rfl (Wl.nilB ?_)
    refine Mt.e1 9 ?_
    apply Wl.callC
    ·exact rfl
    ·exact kd
    intro wq hq
    have zq6 := hq.upd.size
    rw [hat2]
    refine (mputX1 cM _ (biasI i + 4096) v1 x.data wq (mv6 hq hH4).mem (hdl wq (mv6 hq hH4).up) (fun k hk hne e => by have := hV.dlt k hk hne;omega) qg qg kf).mono ?_
    rintro e w7 ⟨rfl,m7,u7⟩
    rw [at8192] at m7
    have B7 : BegS w w7 n 0 pb J gs (caF l (i + 1)) cM rb rm rn6 (loadF l (i + 1)) (.slice none 0 0) (.slice none 0 0) (fun _ => 0) (fun _ => 0) := by
     refine (mv6 hq hH4).mem' ?_ u7
     unfold loadF
     rw [hgx]
     exact m7
    have z7 := u7.size
    have hq7 := Hp.restD hq u7 (fun y hy e => by have := hH4 y hy;omega)
    have mv7 : ∀ {H : List Blk} {w' : World},Hp w7 H w' → (∀ y ∈ H,w3.heap.size ≤ y.b) → BegS w w' n 0 pb J gs (caF l (i + 1)) cM rb rm rn6 (loadF l (i + 1)) (.slice none 0 0) (.slice none 0 0) (fun _ => 0) (fun _ => 0) := fun h' hH => B7.upd h'.upd (fun b hb hs => by
     obtain ⟨y,hy,e⟩ := List.mem_map.1 (in_off hs)
     have := hH y hy
     have := hBF b hb
     omega) (fun b hb hs => by
     obtain ⟨y,hy,e⟩ := List.mem_map.1 (in_off hs)
     have := hH y hy
     omega)
    refine ⟨_,_,rfl,hq7,?_⟩
    clear hq
    apply Wl.nil
    refine Mt.backE (fun _ h' => ⟨((mv7 h' hH4).at hlt).1,own_c h'.own (.head _)⟩) ?_
    refine Mt.toGt ka ?_
    repeat' first | apply Gt.next
    refine St.tree (fun w' => w'.cell? ⟨pb,0 + (i : Int).toNat * 36 + 33,none⟩ = some (.int .u32 (biasI i)) ∧ w'.heap[c9]? = some (.cells (loadC (.slice ca x.code.length cc) v1 v3 x).toArray 30 (0,0))) mixed (fun _ h' => ⟨Hp.drew h',((mv7 (Hp.drew h') hH4).at hlt).1,own_c (Hp.drew h').own (.head _)⟩) ?_
    refine Mt.pm 0 ?_
    refine Mt.pm 1 ?_
    refine Mt.pm 2 ?_
    refine Mt.pu 3 ?_
    refine Wl.indexAddr rfl rfl rfl ?_ ?_;constructor <;> omega;apply Wl.nilB
    refine Mt.pz 8 ?_
    refine Mt.pu 4 ?_
    refine Wl.fieldAddr rfl rfl (Wl.nilB ?_)
    refine Mt.pu 9 ?_
    apply Wl.loadF;exact rfl;exact rfl;(intro w' h';first | exact h'.1 | exact cell_of h'.2 rfl);apply Wl.nilB
    refine Mt.pu 5 ?_
    apply Wl.loadF;exact rfl;exact rfl;(intro w' h';first | exact h'.1 | exact cell_of h'.2 rfl);apply Wl.nilB
    refine Mt.pu 6 ?_
    refine Wl.convI64 rfl rfl ?_ ?_;constructor <;> omega;apply Wl.nilB
    refine Mt.pu 7 ?_
    refine Wl.addI rfl rfl rfl ?_ ?_;constructor <;> omega;apply Wl.nilB
    refine Mt.e1 10 ?_
    apply Wl.callC
    ·exact rfl
    ·exact kd
    intro wr hr
    have zr7 := hr.upd.size
    refine (ramPutG rb rm rn6 _ v1 x.data wr (mv7 hr hH4).ram kf kf qg (hdl wr (mv7 hr hH4).up) (fun k hk hne e => by have := hV.dlt k hk hne;omega)).mono ?_
    rintro e w8 ⟨⟨z2,rfl⟩,hR8,u8⟩
    have B8 := (mv7 hr hH4).ram' hR8 (u8.mono fun b _ h => .inl h)
    have z8 := u8.size
    have hq8 := Hp.restD hr u8 (fun y hy e => by have := hH4 y hy;omega)
    have mv8 : ∀ {H : List Blk} {w' : World},Hp w8 H w' → (∀ y ∈ H,w3.heap.size ≤ y.b) → BegS w w' n 0 pb J gs (caF l (i + 1)) cM rb rm (rn6 + x.data.length) (loadF l (i + 1)) (.slice none 0 0) (.slice none 0 0) (fun _ => 0) (fun _ => 0) := fun h' hH => B8.upd h'.upd (fun b hb hs => by
     obtain ⟨y,hy,e⟩ := List.mem_map.1 (in_off hs)
     have := hH y hy
     have := hBF b hb
     omega) (fun b hb hs => by
     obtain ⟨y,hy,e⟩ := List.mem_map.1 (in_off hs)
     have := hH y hy
     omega)
    refine ⟨_,_,rfl,hq8,?_⟩
    clear hr
    apply Wl.nil
    refine Mt.backE (fun _ h' => ⟨((mv8 h' hH4).at hlt).1,own_c h'.own (.head _)⟩) ?_
    refine Mt.toGt ka ?_
    repeat' first | refine Wl.move rfl rfl ?_ | (refine Wl.addI rfl rfl rfl ?_ ?_;constructor <;> omega) | apply Wl.nil | apply St.region | apply Gt.next | apply Gt.inNormal
    refine Gt.reb (H' := [⟨c12,ys2,65⟩,⟨c11,stC n (i + 1),25⟩]) fun w9 h9 => ⟨h9.own.2,h9.apart.2,?_⟩
    have B9 := mv8 h9 hH4
    have z9 := h9.upd.size
    exact Gt.round (i + 1,w9,rn6 + x.data.length,ys2) ⟨hlt,by simp only;omega,B9,hys3,by simp only;omega⟩ ky kq (fun _ h => h)
  ·have hin : i = n := by omega
   subst hin
   have hd : decide ((i : Int) < (i : Int)) = false := decide_eq_false kf
   repeat' first | refine Wl.lss rfl rfl rfl ?_ | apply Wl.nil | apply St.seq | apply St.region | (apply St.condF;exact rfl;exact k5) | apply St.exit | apply Gt.next | apply Gt.thenExit | apply Gt.inExit
   exact Gt.meet (w0,rn,ys) ⟨hrn,B0,hys.1,hys.2⟩ kq (fun _ h => h)
 clear B3
 rintro ⟨w0,rn,ys⟩ ⟨hrn,B0,hy1,hy2⟩
 try simp only at hrn B0 hy1 hy2 ⊢
 have zw3 : w.heap.size ≤ w0.heap.size := B0.size
 repeat' first | refine Wl.move rfl rfl ?_ | apply St.seq | apply St.region
 refine Wl.reb (H' := []) fun wX hX => ⟨trivial,trivial,?_⟩
 have hHX : ∀ y ∈ ([⟨c12,ys,65⟩,⟨c11,stC n n,25⟩] : List Blk),w3.heap.size ≤ y.b := by
  simp only [List.mem_cons,List.not_mem_nil,or_false,forall_eq_or_imp,forall_eq]
  omega
 have zp3 := hBF pb (.inl rfl)
 have BX : BegS w wX n 0 pb J gs (caF l n) cM rb rm rn (loadF l n) (.slice none 0 0) (.slice none 0 0) (fun _ => 0) (fun _ => 0) := B0.upd hX.upd (fun b hb hs => by
  obtain ⟨y,hy,e⟩ := List.mem_map.1 (in_off hs)
  have := hHX y hy
  have := hBF b hb
  omega) (fun b hb hs => by
  obtain ⟨y,hy,e⟩ := List.mem_map.1 (in_off hs)
  have := hHX y hy
  have := B0.ge.1
  omega)
 have h11 := own_c hX.own (c := c11) (.tail _ (.head _))
 have hW0 : WordF wX (some ⟨c11,0,none⟩) n biasI := fun q hq => by
  refine ⟨c11,0,rfl,cell_of h11 ?_,?_⟩
  ·rw [Nat.zero_add]
   simp [stC,hq]
  ·unfold biasI;omega
 have zX := BX.up.size
 have hFB : FB (loadF l n) := loadF_FB l n
 apply Wl.callC
 ·exact rfl
 ·exact kd
 intro wq hq
 have zq := hq.upd.size
 refine (monNew (some ⟨pb,0,none⟩) (some ⟨c12,0,none⟩) (some ⟨c11,0,none⟩) n pcap n n cM biasI (loadF l n) wq kf (fun q hq' => by obtain ⟨b,o,e,h1,h2⟩ := hW0 q hq';exact ⟨b,o,e,hq.upd.cell h1 nt0,h2⟩) (hq.upd.heap BX.mem fun y => y trivial) w.heap.size BX.ge.2.1 (Nat.le_trans zX zq)).mono ?_
 rintro e w1 ⟨I,M,rfl,hM1,hIc,hMe,hMn,u1⟩
 have u01 : Upd (fun k => wX.heap.size ≤ k) wX w1 := Upd.comp (S := fun k => wX.heap.size ≤ k) (hq.upd.mono fun _ _ y => (y trivial).elim) u1 fun k _ hs => hs.elim id fun h => Nat.le_trans zq h
 have z1 := u01.size
 refine ⟨_,_,rfl,Hp.start w1,?_⟩
 clear hq u1
 repeat' first | refine Wl.move rfl rfl ?_ | refine Wl.assign rfl rfl ?_ | refine Wl.extract rfl rfl rfl ?_ | apply Wl.nil | apply St.seq | apply St.region | apply Gt.next
 apply Wl.callC
 ·exact rfl
 ·exact kd
 intro wr hr
 have zr := hr.upd.size
 refine (r26NewB (some ⟨pb,0,none⟩) (some ⟨c12,0,none⟩) (some ⟨c11,0,none⟩) (some ⟨rb,0,none⟩) n pcap n n biasI wr kf (fun q hq' => by obtain ⟨b,o,e,h1,h2⟩ := hW0 q hq';exact ⟨b,o,e,hr.upd.cell (u01.cell h1 (by have := cell_old h1;simp only at this ⊢;omega)) nt0,h2⟩)).mono ?_
 rintro e w2 ⟨rv,rfl,⟨rm2,rcw,rd,rfl,hrm2,hrw,hrcw,hrmg,hrmn,rpo,rbd,hrd,hpo,⟨ria,hrb,hria,hriag,hrbg⟩,hrdg⟩,u2⟩
 have u12 : Upd (fun k => w1.heap.size ≤ k) w1 w2 := Upd.comp (S := fun k => w1.heap.size ≤ k) (hr.upd.mono fun _ _ y => (y trivial).elim) u2 fun k _ hs => hs.elim id fun h => Nat.le_trans zr h
 have z2 := u12.size
 have hM2 := hM1.new u12 (Nat.le_refl _)
 refine ⟨_,_,rfl,Hp.start w2,?_⟩
 clear hr u2
 repeat' first | refine Wl.move rfl rfl ?_ | refine Wl.assign rfl rfl ?_ | refine Wl.leq rfl rfl rfl ?_ | refine Wl.lenS rfl rfl ?_ | apply Wl.nil | apply St.seq | apply St.region | (apply St.condT;exact rfl;exact k5) | apply Gt.next
 apply Wl.callC
 ·exact rfl
 ·exact kd
 intro wq hq
 have hins : M.ins = List.replicate n [] := by rw [hMe]
 have hi0 : M.ins[0]? = some [] := by rw [hins,List.getElem?_replicate,if_pos kf]
 have hset0 : M.ins.set 0 ([] ++ []) = M.ins := by
  refine List.ext_getElem? fun q => ?_
  rw [List.getElem?_set]
  split
  ·rename_i h
   subst h
   rw [if_pos (by rw [hins,List.length_replicate];omega),hi0]
   rfl
  ·rfl
 have zq2 := hq.upd.size
 refine (mFeed w.heap.size I M 0 [] [] wq (hM2.upd hq.upd fun _ _ y => y trivial) hi0 za).mono ?_
 rintro e w3' ⟨rfl,hM3,u3⟩
 rw [hset0] at hM3
 have hIa := hMn I.ia (by unfold MonF;simp) (fun e => by
  have h1 := hM1.mem
  obtain ⟨cap,J',_,h3⟩ := hM1.board.1
  exact hne h3 h1 ku (e.trans hIc.symm))
 have lia := (hM1.lt I.ia (by unfold MonF;simp)).2
 have w13 : Upd (fun k => k = I.ia) w2 w3' := (hq.upd.mono fun _ _ y => (y trivial).elim).comp u3 fun k _ hs => hs.elim id fun h => h
 have f1 : w3'.heap[rm2]? = _ := w13.heap hrm2 kf
 have f2 : w3'.heap[rd]? = _ := w13.heap hrd kf
 have f3 : w3'.heap[rbd]? = _ := w13.heap hrb kf
 have f4 : w3'.heap[ria]? = _ := w13.heap hria kf
 obtain ⟨n',hn'⟩ : ∃ n',n = n' + 1 := ⟨n - 1,by omega⟩
 rw [hn',List.replicate_succ] at f4
 have q1 : w3'.cell? ⟨rm2,1,none⟩ = some (.pointer (some ⟨rd,0,none⟩)) := cell_of f1 rfl
 have q2 : w3'.cell? ⟨rd,4,none⟩ = some (.pointer (some ⟨rbd,0,none⟩)) := cell_of f2 rfl
 have q3 : w3'.cell? ⟨rbd,2,none⟩ = some (.slice (some ⟨ria,0,none⟩) n n) := cell_of f3 rfl
 have hbi : rbd ≠ ria := hne f3 f4 ku
 have z3' := w13.size
 refine ⟨_,_,rfl,Hp.start w3',?_⟩
 clear hq
 repeat' first | (apply Wl.loadO;exact rfl;exact rfl;exact zs;exact km) | refine Wl.move rfl rfl ?_ | refine Wl.nilCheck rfl rfl ?_ | refine Wl.fieldAddrZ rfl rfl ?_ | apply Wl.nil | apply St.region | apply Gt.next
 apply Wl.callC
 ·exact rfl
 ·exact kd
 intro wr hr
 refine (rFeed0 rbd ria n n _ wr (hr.upd.cell q3 fun y => y trivial) (hr.upd.heap f4 fun y => y trivial) kf hbi).mono ?_
 rintro e w4 ⟨⟨zz,rfl⟩,u4⟩
 have w34 : Upd (fun k => k = ria) w3' w4 := (hr.upd.mono fun _ _ y => (y trivial).elim).comp u4 fun k _ hs => hs.elim id fun h => h
 have lria := lt_of_block f4
 have hM4 := hM3.upd w34 fun b hb h => by
  have := (hM1.lt b hb).2
  omega
 have zw4 := w34.size
 have U4 : Upd (fun k => w.heap.size ≤ k) w w4 := by
  have U2 := (BX.up.comp u01 (T := fun k => w.heap.size ≤ k) fun k _ hs => hs.elim id fun h => Nat.le_trans zX h).comp u12 (T := fun k => w.heap.size ≤ k) fun k _ hs => hs.elim id fun h => by omega
  exact (U2.comp w13 (T := fun k => w.heap.size ≤ k) fun k _ hs => hs.elim id fun h => by omega).comp w34 fun k _ hs => hs.elim id fun h => by omega
 refine ⟨_,_,rfl,Hp.start w4,?_⟩
 clear hr u4 u3
 have d0 : decide ((0 : Int) < ((0 : Nat) : Int)) = false := by decide
 repeat' first | refine Wl.move rfl rfl ?_ | refine Wl.len rfl rfl ?_ | apply Wl.nil | apply St.seq | apply St.block | apply St.region | apply Gt.next
 refine St.loop (σ := Unit) (fun _ => True) (fun _ => [(163,.int .i64 0),(162,.int .i64 ((0 : Nat) : Int)),(17,.pointer (some ⟨I.m,0,none⟩)),(19,.pointer (some ⟨rm2,0,none⟩))]) (fun _ => Hp w4 []) (fun _ => 0) () trivial kq (fun _ h => h) ?_
 intro _ _
 repeat' first | refine Wl.move rfl rfl ?_ | refine Wl.assign rfl rfl ?_ | refine Wl.lss rfl rfl rfl ?_ | apply Wl.nil | apply St.seq | apply St.region | (apply St.condF;exact rfl;exact k5) | apply St.ret | apply St.exit | apply Gt.next | apply Gt.thenExit | apply Gt.inExit | (apply Gt.out2;exact rfl;exact rfl;exact rfl;intro w' hp)
 have hE : ∀ {x : Mv2},x = {M with ins := M.ins} → x.pv = .slice (some ⟨pb,0,none⟩) n pcap ∧ x.ev = .slice (some ⟨c12,0,none⟩) n n ∧ x.L = newL biasI n ∧ x.t = 0 ∧ (∀ i,x.bx i = []) ∧ x.ll = [] ∧ x.ins = List.replicate n [] ∧ FB x.f := fun h => by
  rw [h,hMe]
  exact ⟨rfl,rfl,rfl,rfl,fun _ => rfl,rfl,rfl,hFB⟩
 obtain ⟨g1,g2,g3⟩ := hE rfl
 exact ⟨w.heap.size,I,_,some ⟨pb,0,none⟩,some ⟨c12,0,none⟩,pcap,n,.pointer (some ⟨rm2,0,none⟩),rfl,hM4.upd hp.upd fun _ _ y => y trivial,⟨Nat.le_refl _,by have := hp.upd.size;omega⟩,U4.comp hp.upd fun k _ hs => hs.elim id fun h => (h trivial).elim,g1,g2,g3⟩
theorem runsE_len : ∀ (m : Nat) (r : List UInt8),(runsE m r).length ≤ 9 * r.length
 | 0,r => by simp [runsE]
 | m + 1,r => by
  by_cases h : r = []
  ·simp [runsE,h]
  ·have h1 := run_pos h
   have h2 : zN r ≤ r.length := tw_le _ r
   have h3 : nN (r.drop (zN r)) ≤ (r.drop (zN r)).length := tw_le _ _
   have h4 := runsE_len m (r.drop (zN r + nN (r.drop (zN r))))
   rw [List.length_drop] at h3 h4
   conv => lhs;unfold runsE
   rw [if_neg h]
   simp only [List.length_append,leB_length,List.length_take,List.length_drop]
   omega
theorem rowE_len {n : Nat} {x : Sta} {s : List UInt8} {l : List (Int × List UInt8)} (hx : x.xs.length = 32) (hs : s.length ≤ 64) (hl : l.length ≤ 4) (hf : LetFit n 16 l) : (rowE x s l).length ≤ 280 := by
 have h := letsE_len (m := 16) (l := l) fun y hy => (hf y hy).2.2
 simp only [rowE,List.length_append,List.length_cons,staE_len hx,txtE_len]
 omega
theorem rowsE_len {n : Nat} : ∀ (L : List Sta) (ins : List (List UInt8)) (bx : List (List (Int × List UInt8))),(∀ x ∈ L,x.xs.length = 32) → (∀ s ∈ ins,s.length ≤ 64) → (∀ l ∈ bx,l.length ≤ 4 ∧ LetFit n 16 l) → (rowsE L ins bx).length ≤ 280 * L.length
 | [],_,_,_,_,_ => by simp [rowsE]
 | _ :: _,[],_,_,_,_ => by simp [rowsE]
 | _ :: _,_ :: _,[],_,_,_ => by simp [rowsE]
 | x :: L,s :: ins,l :: bx,h1,h2,h3 => by
  have a := rowE_len (h1 x (.head _)) (h2 s (.head _)) (h3 l (.head _)).1 (h3 l (.head _)).2
  have b := rowsE_len L ins bx (fun y hy => h1 y (.tail _ hy)) (fun y hy => h2 y (.tail _ hy)) fun y hy => h3 y (.tail _ hy)
  simp only [rowsE,List.length_append,List.length_cons]
  omega
theorem encE_len {n : Nat} {t : Int} {L : List Sta} {ins : List (List UInt8)} {bx : List (List (Int × List UInt8))} {ll : List (Int × List UInt8)} {f : Nat → Int} (h : SnFit n t L ins bx ll f) : (encE n t L ins bx ll f).length ≤ 1000000 := by
 have h1 := rowsE_len L ins bx (fun x hx => (h.hL x hx).1.1.1) h.hi.2 h.hb.2
 have h2 := letsE_len (m := 64) (l := ll) fun y hy => (h.hl.1 y hy).2.2
 have h3 := runsE_len 65536 (memL f 0 65536)
 have h4 : (memL f 0 65536).length = 65536 := by simp [memL]
 have h5 : (magL).length = 8 := rfl
 have h6 := h.hl.2.2
 have h7 := h.hn
 simp only [encE,bodyE,headE,linesE,digE,List.length_append,List.length_cons,List.length_nil,leB_length,List.length_map,List.length_range,h5]
 omega
theorem newL_fit {p : Nat → Int} {n : Nat} (hp : ∀ j,j < n → 0 ≤ p j ∧ p j < 4294967296) : ∀ x ∈ newL p n,(StaOk x ∧ StaV x) ∧ x.s = 0 := by
 intro x hx
 obtain ⟨j,hj,rfl⟩ := List.mem_map.1 hx
 exact ⟨⟨⟨xz_rg,⟨by show (0 : Int) ≤ 0;decide,by show (0 : Int) < _;decide⟩,hp j (List.mem_range.1 hj)⟩,⟨⟨by show (0 : Int) ≤ 0;decide,by show (0 : Int) ≤ 2;decide⟩,rfl,fun _ => rfl⟩⟩,rfl⟩
theorem newL_set {p : Nat → Int} {n : Nat} (hp : ∀ j,j < n → 0 ≤ p j ∧ p j < 4294967296) (hn : 1 ≤ n) : SetOk (newL p n) 0 := by
 refine ⟨fun x hx => (newL_fit hp x hx).1,⟨by decide,by rw [newL_len];omega⟩,?_,fun x _ hx => (newL_fit hp x (List.mem_of_getElem? hx)).2⟩
 have e : anyR (newL p n) = true := by
  unfold anyR
  rw [List.any_eq_true]
  refine ⟨(newL p n)[0]'(by rw [newL_len];omega),List.getElem_mem _,?_⟩
  have := (newL_fit hp _ (List.getElem_mem (l := newL p n) (n := 0) (by rw [newL_len];omega))).2
  simp [this]
 rw [e]
 rfl
theorem biasI_rng {n : Nat} (hn : n ≤ 4) : ∀ j,j < n → 0 ≤ biasI j ∧ biasI j < 4294967296 := fun j hj => by unfold biasI;omega
theorem bxs_nil (n : Nat) : bxs (fun _ => []) n = List.replicate n [] := by
 refine List.ext_getElem? fun q => ?_
 by_cases h : q < n
 ·simp [bxs,h]
 ·simp [bxs,h,Nat.not_lt.1 h]
theorem getD_rep (n j : Nat) : (List.replicate n ([] : List (Int × List UInt8))).getD j [] = [] := by
 rw [List.getD_eq_getElem?_getD,List.getElem?_replicate]
 split <;> rfl
theorem first_fit {n : Nat} (hn : 1 ≤ n ∧ n ≤ 4) {ll : List (Int × List UInt8)} (h1 : LetFit n 64 ll) (h2 : usedN ll ≤ 256) (h3 : ll.length ≤ 1000) {f : Nat → Int} (hf : FB f) : SnFit n 0 (newL biasI n) (List.replicate n []) (bxs (fun _ => []) n) ll f where
 hn := ⟨newL_len _ _,by omega⟩
 ht := .inr ⟨by decide,by decide⟩
 hL := fun x hx => by
  obtain ⟨⟨q1,_⟩,q2⟩ := newL_fit (biasI_rng hn.2) x hx
  exact ⟨q1,by rw [q2];decide,by rw [q2];decide⟩
 hi := ⟨by simp,fun s hs => by rw [List.eq_of_mem_replicate hs];decide⟩
 hb := by
  rw [bxs_nil]
  exact ⟨by simp,fun l hl => by rw [List.eq_of_mem_replicate hl];exact ⟨by decide,fun x hx => by cases hx⟩⟩
 hl := ⟨h1,h2,h3⟩
 hf := hf
theorem MonS.cong {w : World} {base : Nat} {I : Mi} {M : Mv2} (h : MonS w base I M) {g : Nat → Int} (hg : ∀ j,j < 65536 → g j = M.f j) : MonS w base I {M with f := g} := by
 have e : memH w I.cM g := by
  have h1 := h.mem
  unfold memH at h1 ⊢
  rw [memC_congr hg]
  exact h1
 exact { h with mem := e }
def cutF (f : Nat → Int) : Nat → Int := fun j => if j < 65536 then f j else 0
theorem cutF_at (f : Nat → Int) : ∀ j,j < 65536 → cutF f j = f j := fun j h => if_pos h
theorem cutF_FB {f g : Nat → Int} (h : FB f) (e : ∀ j,j < 65536 → g j = f j) : FB (cutF g) := fun j => by
 unfold cutF
 split
 ·rename_i hj
  rw [e j hj]
  exact h j
 ·exact ⟨by decide,by decide⟩
end Go.Proofs.YtabbklpalbikdaaGreatDoor
end
section
namespace Go.Pt
open Go.RowKit
end Go.Pt
namespace Go.Proofs.YtabbklpalbikdaaGreatDoor
open Go.RowKit Go.Pt
theorem small26 (a : Option Addr) (cl : Nat) (l : List LoadD) (w : World) (hn : l.length ≤ 140737488355328) (hL : LoadsO w a l) :
  Calls Tryz.prog 19 #[.slice a l.length cl] w fun e w' => (∃ z : Bool,e = .returned (.bool z) ∧ (z = true → (1 ≤ l.length ∧ l.length ≤ 3) ∧ SmallD l)) ∧ Upd (fun k => w.heap.size ≤ k) w w' := by
 refine enter (args := [_]) (Γ := [(0,_)]) Tryz.func19 Tryz.ntmps19 rfl odq (.cons rfl .nil) ?_
 repeat' first | refine Wl.move rfl rfl ?_ | refine Wl.assign rfl rfl ?_ | refine Wl.len rfl rfl ?_ | apply Wl.nil | apply St.seq | apply St.block | apply St.region | apply Gt.next
 refine St.loop (σ := Nat × Int × World) (fun τ => τ.1 ≤ l.length ∧ (0 ≤ τ.2.1 ∧ τ.2.1 ≤ 1500) ∧ Upd (fun k => w.heap.size ≤ k) w τ.2.2 ∧ SmallD (l.take τ.1))
  (fun τ => [(3,.int .i64 τ.2.1),(6,.slice a l.length cl),(0,.slice a l.length cl),(7,.int .i64 (l.length : Int)),(8,.int .i64 (τ.1 : Int))]) (fun τ => Hp τ.2.2 []) (fun τ => l.length - τ.1) (0,0,w) ⟨Nat.zero_le _,⟨show (0 : Int) ≤ 0 by decide,show (0 : Int) ≤ 1500 by decide⟩,Upd.refl _ _,fun x hx => by cases hx⟩ kq (fun _ h => h) ?_
 rintro ⟨i,n,w0⟩ ⟨hi,hr,hu0,hS⟩
 simp only at hi hr hu0 hS ⊢
 by_cases hlt : i < l.length
 ·have hd : decide ((i : Int) < (l.length : Int)) = true := decide_eq_true kf
  obtain ⟨x,hx⟩ : ∃ x,l[i]? = some x := ⟨_,List.getElem?_eq_getElem hlt⟩
  obtain ⟨lb,lo,rfl,v0,v1,v3,hcell,hV⟩ := hL i x hx
  have hlb : lb < w.heap.size := cell_old (hcell 0 _ rfl)
  have hcell' : ∀ q v,(loadC v0 v1 v3 x)[q]? = some v → w0.cell? ⟨lb,lo + (i : Int).toNat * 4 + q,none⟩ = some v := fun q v hq => by rw [Int.toNat_natCast];exact hu0.cell (hcell q v hq) (Nat.not_le.2 hlb)
  obtain ⟨b0,b1,b3⟩ := hV.big
  obtain ⟨ca,cc,rfl,_⟩ := hV.code
  obtain ⟨xa,xc,rfl,_⟩ := hV.regs
  obtain ⟨da,dc,rfl,_⟩ := hV.data.shape
  have hlo : (loadC (.slice ca x.code.length cc) (.slice da x.data.length dc) (.slice xa x.regs.length xc) x).all Value.oneCell' = true := rfl
  have hq4 : ((x.data.length : Int)).tdiv 4 = ((x.data.length / 4 : Nat) : Int) := by rw [Int.tdiv_eq_ediv_of_nonneg kf];omega
  have hqz : IntKind.i64.wrap (((x.data.length : Int)).tdiv 4) = ((x.data.length / 4 : Nat) : Int) := by rw [hq4,IntKind.wrap_i64];omega
  have l1 := hu0.size
  have hnext : x.code.length ≤ 1024 → x.data.length ≤ 4096 → x.regs.length ≤ 1500 → SmallD (l.take (i + 1)) := fun h1 h2 h3 y hy => by
   rw [List.take_add_one,hx] at hy
   rcases List.mem_append.1 hy with hy | hy
   ·exact hS y hy
   ·obtain rfl : y = x := by simpa using hy
    exact ⟨h1,h2,h3⟩
  have hd1 : decide (1500 < n + (1 + (x.code.length : Int) + ((x.data.length / 4 : Nat) : Int) + (x.regs.length : Int))) = decide (¬ (n + (1 + (x.code.length : Int) + ((x.data.length / 4 : Nat) : Int) + (x.regs.length : Int)) ≤ 1500)) := decide_eq_decide.2 kf
  repeat' first | (apply Wl.loadAB (xs := loadC (.slice ca x.code.length cc) (.slice da x.data.length dc) (.slice xa x.regs.length xc) x);exact rfl;exact rfl;(intro j v hj;exact hcell' j v hj);exact km;exact rfl) | (apply Wl.storeA (xs := loadC (.slice ca x.code.length cc) (.slice da x.data.length dc) (.slice xa x.regs.length xc) x);exact rfl;exact rfl;exact rfl;exact hlo;exact kd;exact .z (LOver.whole rfl)) | (refine Wl.addI rfl rfl rfl ?_ ?_;constructor <;> omega) | refine Wl.move rfl rfl ?_ | refine Wl.assign rfl rfl ?_ | (apply Wl.on;exact rfl;exact rfl;exact k5) | (apply Wl.off;exact rfl;exact rfl;exact rfl;exact ki) | (apply Wl.pickT;exact rfl;exact rfl;exact k5;exact rfl) | (apply Wl.pickF;exact rfl;exact rfl;exact k5;exact rfl) | refine Wl.fieldAddr0 rfl rfl ?_ | refine Wl.fieldAddrZ rfl rfl ?_ | (apply Wl.loadH;exact rfl;exact rfl;exact kd;exact rfl) | refine Wl.lss rfl rfl rfl ?_ | refine Wl.gtr rfl rfl rfl ?_ | (apply Wl.quo;exact rfl;exact rfl;exact rfl;(first | decide | omega)) | refine Wl.len rfl rfl ?_ | (apply Wl.alloc;exact rfl;intro c hc ho) | (refine Wl.indexAddr rfl rfl rfl ?_ ?_;constructor <;> omega) | apply Wl.nil | apply St.seq | apply St.block | apply St.region | (apply St.condT;exact rfl;exact k5) | apply St.ret | apply St.skip | apply Gt.next | apply Gt.thenRet | apply Gt.inNormal | apply Gt.inRet | (apply Gt.out1;exact rfl;exact rfl;intro w' hp) | (apply Wl.splitP;exact rfl;exact rfl;all_goals (intros;try (exfalso;omega))) | (apply St.condP;exact rfl;all_goals (intros;try (exfalso;omega)))
  iterate 3
   refine ⟨⟨_,rfl,fun h => by cases h⟩,hu0.comp (hp.drop zp).upd fun k _ hs => hs.elim id fun y => (y trivial).elim⟩
  ·refine Gt.reb (H' := []) fun w3 h3 => ⟨trivial,trivial,?_⟩
   have u3 : Upd (fun k => w.heap.size ≤ k) w0 w3 := Hp.on1 h3 (Upd.refl _ _) ky
   refine Gt.round (i + 1,n + (1 + (x.code.length : Int) + IntKind.i64.wrap (((x.data.length : Int)).tdiv 4) + (x.regs.length : Int)),w3) ⟨by simp only;omega,⟨by simp only;omega,by simp only;omega⟩,hu0.comp u3 fun k _ hs => hs.elim id id,hnext kf kf kf⟩ ky kq (fun _ h => h)
 ·obtain rfl : i = l.length := by omega
  have hd : decide ((l.length : Int) < (l.length : Int)) = false := decide_eq_false kf
  by_cases h1 : 1 ≤ l.length
  ·have d1 : decide ((l.length : Int) ≥ 1) = true := decide_eq_true kf
   have d1' : decide ((1 : Int) ≤ (l.length : Int)) = true := decide_eq_true kf
   by_cases h3 : l.length ≤ 3
   ·have d3 : decide ((l.length : Int) ≤ 3) = true := decide_eq_true kf
    repeat' first | refine Wl.move rfl rfl ?_ | refine Wl.assign rfl rfl ?_ | (apply Wl.on;exact rfl;exact rfl;exact k5) | (apply Wl.pickT;exact rfl;exact rfl;exact k5;exact rfl) | refine Wl.lss rfl rfl rfl ?_ | refine Wl.leq rfl rfl rfl ?_ | refine Wl.geq rfl rfl rfl ?_ | refine Wl.len rfl rfl ?_ | apply Wl.nil | apply St.seq | apply St.region | (apply St.condF;exact rfl;exact k5) | apply St.ret | apply St.exit | apply Gt.next | apply Gt.thenExit | apply Gt.inExit | (apply Gt.out1;exact rfl;exact rfl;intro w' hp)
    exact ⟨⟨_,rfl,fun _ => ⟨⟨h1,h3⟩,by rw [List.take_length] at hS;exact hS⟩⟩,hu0.comp hp.upd fun k _ hs => hs.elim id fun y => (y trivial).elim⟩
   ·have d3 : decide ((l.length : Int) ≤ 3) = false := decide_eq_false kf
    repeat' first | refine Wl.move rfl rfl ?_ | refine Wl.assign rfl rfl ?_ | (apply Wl.on;exact rfl;exact rfl;exact k5) | (apply Wl.pickT;exact rfl;exact rfl;exact k5;exact rfl) | refine Wl.lss rfl rfl rfl ?_ | refine Wl.leq rfl rfl rfl ?_ | refine Wl.geq rfl rfl rfl ?_ | refine Wl.len rfl rfl ?_ | apply Wl.nil | apply St.seq | apply St.region | (apply St.condF;exact rfl;exact k5) | apply St.ret | apply St.exit | apply Gt.next | apply Gt.thenExit | apply Gt.inExit | (apply Gt.out1;exact rfl;exact rfl;intro w' hp)
    exact ⟨⟨_,rfl,fun h => Bool.noConfusion (h.symm.trans d3)⟩,hu0.comp hp.upd fun k _ hs => hs.elim id fun y => (y trivial).elim⟩
  ·have d1 : decide ((l.length : Int) ≥ 1) = false := decide_eq_false kf
   have d1' : decide ((1 : Int) ≤ (l.length : Int)) = false := decide_eq_false kf
   repeat' first | refine Wl.move rfl rfl ?_ | refine Wl.assign rfl rfl ?_ | (apply Wl.off;exact rfl;exact rfl;exact rfl;exact ki) | (apply Wl.pickF;exact rfl;exact rfl;exact k5;exact rfl) | refine Wl.lss rfl rfl rfl ?_ | refine Wl.geq rfl rfl rfl ?_ | refine Wl.len rfl rfl ?_ | apply Wl.nil | apply St.seq | apply St.region | (apply St.condF;exact rfl;exact k5) | apply St.ret | apply St.exit | apply Gt.next | apply Gt.thenExit | apply Gt.inExit | (apply Gt.out1;exact rfl;exact rfl;intro w' hp)
   exact ⟨⟨_,rfl,fun h => by cases h⟩,hu0.comp hp.upd fun k _ hs => hs.elim id fun y => (y trivial).elim⟩
theorem LoadsO.upd {w w' : World} {a : Option Addr} {l : List LoadD} {S : Nat → Prop} (h : LoadsO w a l) (u : Upd S w w') (hs : ∀ k,k < w.heap.size → ¬ S k) : LoadsO w' a l := fun i x hx => by
 obtain ⟨b,o,e,v0,v1,v3,h1,h2⟩ := h i x hx
 exact ⟨b,o,e,v0,v1,v3,fun q v hq => u.cell (h1 q v hq) (hs _ (cell_old (h1 q v hq))),h2.code.upd u hs,h2.data.upd u fun k _ hk _ => hs k hk,h2.regs.upd u hs,h2.big,h2.cal⟩
structure FirstS (M : Mv2) (n : Nat) (ll : List (Int × List UInt8)) : Prop where
 L : M.L = newL biasI n
 t : M.t = 0
 bx : ∀ i,M.bx i = []
 ll : M.ll = ll
 ins : M.ins = List.replicate n []
 f : FB M.f
 pv : ∃ a c,M.pv = .slice a n c
 ev : ∃ a c,M.ev = .slice a n c
def LinFit (n : Nat) (ll : List (Int × List UInt8)) : Prop := LetFit n 64 ll ∧ usedN ll ≤ 256 ∧ ll.length ≤ 1000
theorem LinFit.nil (n : Nat) : LinFit n [] := ⟨fun _ h => by (cases h),by (show 0 ≤ 256);decide,by (show 0 ≤ 1000);decide⟩
theorem FirstS.len {M : Mv2} {n : Nat} {ll : List (Int × List UInt8)} (h : FirstS M n ll) : M.L.length = n := by rw [h.L,newL_len]
abbrev enc0 (n : Nat) (ll : List (Int × List UInt8)) (f : Nat → Int) : List UInt8 := encE n 0 (newL biasI n) (List.replicate n []) (bxs (fun _ => []) n) ll f
theorem encFirst (base : Nat) (I : Mi) (M : Mv2) (n : Nat) (ll : List (Int × List UInt8)) (w : World) (hM : MonS w base I M) (hb : base ≤ w.heap.size) (hF : FirstS M n ll) (hn : 1 ≤ n ∧ n ≤ 4) (hl : LinFit n ll) (hK : ArrAt w 1 0 .u32 64 Sha.K) :
  Calls Tryz.prog 44 #[.pointer (some ⟨I.m,0,none⟩)] w fun e w' => ∃ v,e = .returned v ∧ Bo w' w.heap.size v (enc0 n ll M.f) ∧ MonS w' base I M ∧ Upd (fun k => w.heap.size ≤ k) w w' := by
 have hlen := hF.len
 have hz : ∀ k,¬ Zc I (fun _ => []) k := fun k h => h.elim fun i h => h.2 rfl
 refine (sEncode base I M (fun _ => []) w hM hb (fun i _ => ⟨hF.bx i,by decide⟩) (by rw [hF.ll];exact hl.2.2) kf hF.f (fun s hs => by rw [hF.ins] at hs;rw [List.eq_of_mem_replicate hs];decide) (fun i _ x hx => by cases hx) (fun x hx => by rw [hF.ll] at hx;obtain ⟨q1,q2,q3⟩ := hl.1 x hx;exact ⟨q3,q1.1,by omega⟩)
  (fun x hx => by rw [hF.L] at hx;have := (newL_fit (biasI_rng hn.2) x hx).2;rw [this];decide) (by rw [hF.t];decide) hK (fun k h => (hz k h).elim)).mono ?_
 rintro e w' ⟨v,rfl,h1,h2,h3⟩
 rw [hlen,hF.t,hF.L,hF.ins,hF.ll,show turnV 0 = 0 from rfl] at h1
 exact ⟨v,rfl,h1,h2,h3.mono fun k _ h => h.elim (fun h => (hz k h).elim) id⟩
theorem decFirst (base : Nat) (I : Mi) (M : Mv2) (n n' : Nat) (ll ll' : List (Int × List UInt8)) (f : Nat → Int) (v : Value) (w : World) (hM : MonS w base I M) (hb : base ≤ w.heap.size) (hF : FirstS M n ll) (hn : 1 ≤ n ∧ n ≤ 4) (hn' : 1 ≤ n' ∧ n' ≤ 4) (hl : LinFit n' ll') (hf : FB f) (hv : Bs w v (enc0 n' ll' f)) (hvb : ∀ k,v.ownBlock = some k → k < w.heap.size) (hK : ArrAt w 1 0 .u32 64 Sha.K) :
  Calls Tryz.prog 47 #[v,.pointer (some ⟨I.m,0,none⟩)] w fun e w' => Upd (fun k => w.heap.size ≤ k) w w' ∧
   ((n' ≠ n ∧ ∃ z : Int,z ≠ 0 ∧ e = .returned (.tuple #[.pointer none,.int .i64 z])) ∨
   (n' = n ∧ ∃ I' M' b',e = .returned (.tuple #[.pointer (some ⟨I'.m,0,none⟩),.int .i64 0]) ∧ MonS w' b' I' M' ∧ (w.heap.size ≤ b' ∧ b' ≤ w'.heap.size) ∧ FirstS M' n ll' ∧ ∀ j,j < 65536 → M'.f j = f j)) := by
 have hlen := hF.len
 obtain ⟨a1,c1,hpv⟩ := hF.pv
 obtain ⟨a2,c2,hev⟩ := hF.ev
 have hfit : SnFit n' 0 (newL biasI n') (List.replicate n' []) (bxs (fun _ => []) n') ll' f := first_fit hn' hl.1 hl.2.1 hl.2.2 hf
 have hln := encE_len hfit
 refine (sDecEnc base I M a1 a2 c1 c2 v n' 0 _ _ _ ll' f w hM hb kf (by rw [hlen];exact hpv) (by rw [hlen];exact hev) hv hvb kf hfit (newL_set (biasI_rng hn'.2) hn'.1) hK).mono ?_
 rintro e w' ⟨u,h⟩
 refine ⟨u,h.imp (fun h => ⟨fun e => h.1 (e.trans hlen.symm),h.2⟩) ?_⟩
 rintro ⟨e1,I',M',b',rfl,hM',hb',hB⟩
 rw [hlen] at e1
 subst e1
 have hfj : ∀ j,j < 65536 → cutF M'.f j = f j := fun j hj => (cutF_at _ j hj).trans (hB.f j hj)
 refine ⟨rfl,I',{M' with f := cutF M'.f},b',rfl,hM'.cong (cutF_at M'.f),hb',⟨hB.L.1,hB.L.2.1,fun i => ?_,hB.L.2.2.2,hB.L.2.2.1,cutF_FB hf hB.f,⟨a1,c1,hB.p.1.trans hpv⟩,⟨a2,c2,hB.p.2.trans hev⟩⟩,hfj⟩
 show M'.bx i = []
 rw [hB.b]
 unfold bxK
 split
 ·try simp only
  rw [bxs_nil,getD_rep]
  rfl
 ·rfl
theorem sameFirst (b1 b2 : Nat) (I1 I2 : Mi) (M1 M2 : Mv2) (n : Nat) (ll : List (Int × List UInt8)) (w : World) (h1 : MonS w b1 I1 M1) (h2 : MonS w b2 I2 M2) (hb1 : b1 ≤ w.heap.size) (hb2 : b2 ≤ w.heap.size) (hF1 : FirstS M1 n ll) (hF2 : FirstS M2 n ll) (hn : 1 ≤ n ∧ n ≤ 4) (hl : LinFit n ll) (hf : ∀ j,j < 65536 → M2.f j = M1.f j) :
  Calls Tryz.prog 48 #[.pointer (some ⟨I1.m,0,none⟩),.pointer (some ⟨I2.m,0,none⟩)] w fun e w' => e = .returned (.bool true) ∧ Upd (fun k => w.heap.size ≤ k) w w' :=
 sSame b1 b2 I1 I2 M1 M2 w h1 h2 hb1 hb2 (fun i _ => hF1.bx i) (fun i _ => hF2.bx i) (hF2.L.trans hF1.L.symm) (by rw [hF1.t,hF2.t]) (hF2.ins.trans hF1.ins.symm) (hF2.ll.trans hF1.ll.symm) hf hF1.f hF2.f (by rw [hF1.ll];exact hl.2.2) (by have := hF1.len;omega)
  (fun x hx => by rw [hF1.L] at hx;have := (newL_fit (biasI_rng hn.2) x hx).2;rw [this];decide) (fun x hx => by rw [hF1.ll] at hx;obtain ⟨q1,q2,q3⟩ := hl.1 x hx;exact ⟨q3,q1.1,by omega⟩)
def linO (n by_ k : Nat) : List (Int × List UInt8) := (List.range k).map fun i => (((i % n : Nat) : Int),List.replicate by_ 0)
theorem linO_len (n by_ k : Nat) : (linO n by_ k).length = k := by simp [linO]
theorem linO_succ (n by_ k : Nat) : linO n by_ (k + 1) = linO n by_ k ++ [(((k % n : Nat) : Int),List.replicate by_ 0)] := by simp [linO,List.range_succ]
theorem usedN_app : ∀ (a b : List (Int × List UInt8)),usedN (a ++ b) = usedN a + usedN b
 | [],b => by simp [usedN]
 | x :: a,b => by
  simp only [List.cons_append,usedN,usedN_app a b]
  omega
theorem linO_used (n by_ : Nat) : ∀ k,usedN (linO n by_ k) = by_ * k
 | 0 => rfl
 | k + 1 => by
  rw [linO_succ,usedN_app,linO_used n by_ k]
  simp [usedN,Nat.mul_add]
theorem linO_fit {n by_ k : Nat} (hn : 1 ≤ n) (hb : 1 ≤ by_ ∧ by_ ≤ 64) (hk : k ≤ 4) : LinFit n (linO n by_ k) := by
 refine ⟨fun x hx => ?_,?_,by rw [linO_len];omega⟩
 ·obtain ⟨j,_,rfl⟩ := List.mem_map.1 hx
  have := Nat.mod_lt j (show 0 < n by omega)
  exact ⟨⟨by show (0 : Int) ≤ ((j % n : Nat) : Int);omega,by show ((j % n : Nat) : Int) < (n : Int);omega⟩,by show List.replicate by_ (0 : UInt8) ≠ [];intro e;have := congrArg List.length e;simp at this;omega,by show (List.replicate by_ (0 : UInt8)).length ≤ 64;rw [List.length_replicate];omega⟩
 ·rw [linO_used]
  have := Nat.mul_le_mul hb.2 hk
  omega
def modI (x m : Int) : Int := (x.tmod m + m).tmod m + 1
theorem modI_rng {x m : Int} (hm : 0 < m) : 1 ≤ modI x m ∧ modI x m ≤ m := by
 unfold modI
 have h1 := Int.tmod_lt_of_pos x hm
 have h2 := Int.lt_tmod_of_pos x hm
 have h3 := Int.tmod_lt_of_pos (x.tmod m + m) hm
 have h4 := Int.tmod_nonneg m (show 0 ≤ x.tmod m + m by omega)
 omega
theorem LoadV.one {w : World} {g : Nat} {x : LoadD} (hx : x.data = [] ∧ x.regs = [] ∧ x.calls = 255) {a : Int} (hc : x.code = [a]) (ha : 0 ≤ a ∧ a < 4294967296) (hg : w.heap[g]? = some (.cells #[.int .u32 a] 25 (0,0))) : LoadV w x (.slice (some ⟨g,0,none⟩) 1 1) (.slice none 0 0) (.slice none 0 0) where
 code := ⟨some ⟨g,0,none⟩,1,by rw [hc];rfl,fun i y hy => by
  rw [hc] at hy
  refine ⟨g,0,rfl,?_⟩
  match i,hy with
  | 0,hy => cases hy;exact ⟨cell_of hg rfl,ha⟩⟩
 data := by rw [hx.1];exact Bs.nil w
 dlt := fun k hk _ => by cases hk
 regs := ⟨none,0,by rw [hx.2.1];rfl,fun i y hy => by rw [hx.2.1] at hy;cases hy⟩
 len := by rw [hc,hx.1,hx.2.1];exact ⟨by show 1 ≤ 1024;decide,by show 0 ≤ 4096;decide,by show 0 ≤ 1500;decide⟩
 cal := by rw [hx.2.2];exact ⟨by decide,by decide⟩
def ldO : LoadD := ⟨[19],[],255,[]⟩
theorem fit27 (w : World) (hT : tabOk w) (hK : ArrAt w 1 0 .u32 64 Sha.K) (hKw : 1 < w.heap.size) : Calls Tryz.prog 42 #[] w fun e w' => e = .returned (.bool true) ∧ Upd (fun k => w.heap.size ≤ k) w w' := by
 have hKu : ∀ {w' : World},Upd (fun k => w.heap.size ≤ k) w w' → ArrAt w' 1 0 .u32 64 Sha.K := fun u => hK.upd u (Nat.not_le.2 hKw)
 refine enter (args := []) (Γ := []) Tryz.func42 Tryz.ntmps42 rfl odq .nil ?_
 repeat' first | refine Wl.assign rfl rfl ?_ | (apply Wl.buildS;exact rfl;exact kh;exact kb) | (apply Wl.lit;exact rfl;exact kh;exact rfl;exact rfl;exact ke;intro c hc ho) | apply Wl.nil | apply St.seq | apply St.region | apply Gt.next
 apply Wl.callC
 ·exact rfl
 ·exact kd
 intro wq hq
 have zq := hq.upd.size
 rename_i g hg og
 generalize c = c2 at *
 have hc2 : w.heap.size ≤ c2 := by assumption
 have hu0 : Upd (fun k => w.heap.size ≤ k) w wq := Hp.on2 hq (Upd.refl _ _) ky ky
 refine (two27 (some ⟨c2,0,none⟩) 1 1 [ldO] wq rfl ku (fun i x hx => by
  match i,hx with
  | 0,hx =>
   cases hx
   exact ⟨c2,0,rfl,.slice (some ⟨g,0,none⟩) 1 1,.slice none 0 0,.slice none 0 0,fun q v hv => cell_of (hq.own.at (.head _)) (by rw [Nat.zero_mul,Nat.add_zero,Nat.zero_add];exact hv),LoadV.one ⟨rfl,rfl,rfl⟩ rfl ku (hq.own.at (.tail _ (.head _)))⟩) (hT.upd hu0 (Nat.not_le.2 hT.lt))).mono ?_
 rintro e w1 ⟨base,I,M,a1,a2,k1,k2,rv,rfl,hM1,hb1,u1,f1,f2,f3,f4,f5,f6,f7,f8⟩
 have hF1 : FirstS M 1 [] := ⟨f3,f4,f5,f6,f7,f8,⟨_,_,f1⟩,⟨_,_,f2⟩⟩
 have U1 : Upd (fun k => w.heap.size ≤ k) w w1 := hu0.comp u1 fun k _ hs => hs.elim id fun h => by omega
 refine ⟨_,_,rfl,Hp.start w1,?_⟩
 clear hq u1 f1 f2 f3 f4 f5 f6 f7 f8
 repeat' first | refine Wl.move rfl rfl ?_ | refine Wl.assign rfl rfl ?_ | refine Wl.extract rfl rfl rfl ?_ | apply Wl.nil | apply St.seq | apply St.region | apply Gt.next
 apply Wl.callC
 ·exact rfl
 ·exact kd
 intro wq hq
 have Uq := U1.comp hq.upd (T := fun k => w.heap.size ≤ k) fun k _ hs => hs.elim id fun y => (y trivial).elim
 refine (encFirst base I M 1 [] wq (hM1.upd hq.upd fun _ _ y => y trivial) (Nat.le_trans hb1.2 hq.upd.size) hF1 ku (LinFit.nil 1) (hKu Uq)).mono ?_
 rintro e w2 ⟨v,rfl,hv2,hM2,u2⟩
 have U2 := Uq.comp u2 (T := fun k => w.heap.size ≤ k) fun k _ hs => hs.elim id fun h => Nat.le_trans Uq.size h
 refine ⟨_,_,rfl,Hp.start w2,?_⟩
 have hb2 := u2.size
 have hb3 := hq.upd.size
 clear hq u2
 repeat' first | refine Wl.move rfl rfl ?_
 apply Wl.callC
 ·exact rfl
 ·exact kd
 intro wr hr
 have Ur := U2.comp hr.upd (T := fun k => w.heap.size ≤ k) fun k _ hs => hs.elim id fun y => (y trivial).elim
 refine (decFirst base I M 1 1 [] [] M.f v wr (hM2.upd hr.upd fun _ _ y => y trivial) (by have := hr.upd.size;omega) hF1 ku ku (LinFit.nil 1) hF1.f (hv2.bs.upd hr.upd fun k _ _ _ y => y trivial) (fun k hk => by have := (hv2.lt k hk).2;have := hr.upd.size;omega) (hKu Ur)).mono ?_
 rintro e w3 ⟨u3,⟨h0,_⟩ | ⟨_,I3,M3,b3,rfl,hM3,hbb,hF3,hf3⟩⟩
 ·exact (h0 rfl).elim
 have U3 := Ur.comp u3 (T := fun k => w.heap.size ≤ k) fun k _ hs => hs.elim id fun h => Nat.le_trans Ur.size h
 refine ⟨_,_,rfl,Hp.start w3,?_⟩
 clear hr u3
 have hl3 := hF3.len
 have hx3 : M3.L[0]? = some ⟨0,0,biasI 0,xz⟩ := by rw [hF3.L];rfl
 repeat' first | refine Wl.move rfl rfl ?_ | refine Wl.assign rfl rfl ?_ | (apply Wl.on;exact rfl;exact rfl;exact k5) | refine Wl.extract rfl rfl rfl ?_ | (apply Wl.eqlIs;exact rfl;exact rfl;exact rfl;exact kw) | apply Wl.nil | apply St.seq | apply St.region | apply Gt.next
 apply Wl.callQ
 exact rfl
 (focus repeat constructor)
 ·intro wq hq
  exact hq.q (mCount b3 I3 M3 wq (hM3.hp hq (by simp only [List.not_mem_nil,false_implies,implies_true])))
 have hdc : decide ((M3.L.length : Int) = 1) = true := decide_eq_true kf
 repeat' first | refine Wl.move rfl rfl ?_ | (apply Wl.on;exact rfl;exact rfl;exact k5) | (apply Wl.pickT;exact rfl;exact rfl;exact k5;exact rfl) | refine Wl.eql rfl rfl rfl ?_
 apply Wl.callQ
 exact rfl
 (focus repeat constructor)
 ·intro wq hq
  exact hq.q (mStatus b3 I3 M3 0 ⟨0,0,biasI 0,xz⟩ wq (hM3.hp hq (by simp only [List.not_mem_nil,false_implies,implies_true])) hx3)
 repeat' first | (apply Wl.fieldV (v := .int .u32 2147487744);exact rfl;exact rfl;exact rfl) | refine Wl.assign rfl rfl ?_ | (apply Wl.on;exact rfl;exact rfl;exact k5) | (apply Wl.pickT;exact rfl;exact rfl;exact k5;exact rfl) | (apply Wl.eqlIs;exact rfl;exact rfl;exact rfl;exact kw) | apply Wl.nil | apply St.ret | apply Gt.next | (apply Gt.out1;exact rfl;exact rfl;intro w' hp)
 exact ⟨rfl,Hp.on0 hp U3⟩
theorem StT.lin {w w' : World} {base : Nat} {M : Mv2} {ls : Nat → List (Int × List UInt8)} {sv iv bv lv lv' : Value} {cM : Nat} {vs : List Value} {ll' : List (Int × List UInt8)} {S : Nat → Prop} (h : StT w base M ls sv iv bv lv cM vs) (u : Upd S w w')
  (hS : ∀ k,S k → lv.ownBlock = some k ∨ (∃ cs,w.heap[k]? = some (.cells cs 54 (0,0))) ∨ w.heap.size ≤ k) (hl : w'.ownsRow base 111 2 lv' ll'.length (ll'.map lineC).flatten) : StT w' base {M with ll := ll'} ls sv iv bv lv' cM vs := by
 have key : ∀ {e sz n : Nat} {v : Value} {xs : List Value},w.ownsRow base e sz v n xs → e ≠ 111 → e ≠ 54 → w'.ownsRow base e sz v n xs := fun hr h1 h2 => ownsRow_upd hr u fun k hk hs => by
  rcases hS k hs with g | ⟨cs,g⟩ | g
  ·exact row_ne hr h.l h1 k hk g
  ·exact row_neT hr g (fun e => h2 e.symm) k hk rfl
  ·exact absurd (hr.ge k hk).2 (Nat.not_lt.2 g)
 refine ⟨key h.s ku ku,key h.i ku ku,key h.b ku ku,⟨h.bl.1,fun j hj => ?_⟩,hl,?_⟩
 ·obtain ⟨v,e1,e2⟩ := h.bl.2 j hj
  exact ⟨v,e1,key e2 ku ku⟩
 ·refine u.heap h.m fun hs => ?_
  rcases hS cM hs with g | ⟨cs,g⟩ | g
  ·exact (h.l.heap g).elim fun _ hg => hne hg h.m ku rfl
  ·exact hne g h.m ku rfl
  ·exact absurd (lt_of_block h.m) (Nat.not_lt.2 g)
theorem mz8 (k : Nat) : (madeCells (Value.int .u8 0).cells (k * 1)).toList = byteCells (List.replicate k 0) := by
 rw [Nat.mul_one]
 refine List.ext_getElem? fun q => ?_
 by_cases h : q < k
 ·simp [madeCells,byteCells,Value.cells,h,Nat.mod_one]
 ·simp [madeCells,byteCells,Value.cells,Nat.not_lt.1 h]
theorem others27 (a b : Option Addr) (ca cb : Nat) (l m : List LoadD) (n0 n1 : Int) (w : World) (hnl : l.length ≤ 140737488355328) (hnm : m.length ≤ 140737488355328) (hL : LoadsO w a l) (hM : LoadsO w b m) (h0 : I64 n0) (h1 : I64 n1) (hT : tabOk w) (hK : ArrAt w 1 0 .u32 64 Sha.K) (hKw : 1 < w.heap.size) :
  Calls Tryz.prog 13 #[.slice a l.length ca,.slice b m.length cb,.agg #[.int .i64 n0,.int .i64 n1]] w fun e w' => e = .returned (.bool true) ∧ Upd (fun k => w.heap.size ≤ k) w w' := by
 refine enter (args := [_,_,_]) (Γ := [(0,_),(1,_),(2,_)]) Tryz.func13 Tryz.ntmps13 rfl odq (.cons rfl (.cons rfl (.cons rfl .nil))) ?_
 repeat' first | refine Wl.assign rfl rfl ?_ | (apply Wl.boxA;exact rfl;exact rfl;intro c hc ho) | apply Wl.nil | apply St.seq | apply St.region | apply Gt.next
 generalize c = c5 at *
 have hc5 : w.heap.size ≤ c5 := by assumption
 refine Wl.reb (H' := []) fun w0 hw0 => ⟨trivial,trivial,?_⟩
 have e5 := hw0.own.at (.head _)
 simp only at e5
 have U0 : Upd (fun k => w.heap.size ≤ k) w w0 := hw0.on (Upd.refl _ _) k6
 have hL0 := hL.upd U0 fun k hk => Nat.not_le.2 hk
 have hM0 := hM.upd U0 fun k hk => Nat.not_le.2 hk
 have hT0 := hT.upd U0 (Nat.not_le.2 hT.lt)
 have hK0 := hK.upd U0 (Nat.not_le.2 hKw)
 have l5 := lt_of_block e5
 have z0 := U0.size
 have hKw0 : 1 < w0.heap.size := by omega
 have hKu : ∀ {w' : World},Upd (fun k => w0.heap.size ≤ k) w0 w' → ArrAt w' 1 0 .u32 64 Sha.K := fun u => hK0.upd u (Nat.not_le.2 hKw0)
 clear hw0
 apply Wl.callC
 ·exact rfl
 ·exact kd
 intro wq hq
 refine (fit27 wq (hT0.upd hq.upd fun y => y trivial) (hK0.upd hq.upd fun y => y trivial) (by have := hq.upd.size;omega)).mono ?_
 rintro e w1 ⟨rfl,u1⟩
 have U1 : Upd (fun k => w0.heap.size ≤ k) w0 w1 := (hq.upd.mono fun _ _ y => (y trivial).elim).comp u1 fun k _ hs => hs.elim id fun h => Nat.le_trans hq.upd.size h
 refine ⟨_,_,rfl,Hp.start w1,?_⟩
 clear hq u1
 repeat' first | refine Wl.move rfl rfl ?_ | refine Wl.not rfl rfl ?_ | apply Wl.nil | apply St.seq | apply St.region | (apply St.condF;exact rfl;exact k5) | apply St.skip | apply Gt.next
 apply Wl.callC
 ·exact rfl
 ·exact kd
 intro wq hq
 have Uq : Upd (fun k => w0.heap.size ≤ k) w0 wq := U1.comp hq.upd fun k _ hs => hs.elim id fun y => (y trivial).elim
 refine (small26 a ca l wq hnl (hL0.upd Uq fun k hk => Nat.not_le.2 hk)).mono ?_
 rintro e w2 ⟨⟨z,rfl,hz⟩,u2⟩
 have U2 : Upd (fun k => w0.heap.size ≤ k) w0 w2 := Uq.comp u2 fun k _ hs => hs.elim id fun h => Nat.le_trans Uq.size h
 refine ⟨_,_,rfl,Hp.start w2,?_⟩
 clear hq u2 Uq U1 w1 wq
 cases z
 ·repeat' first | refine Wl.move rfl rfl ?_ | refine Wl.assign rfl rfl ?_ | (apply Wl.off;exact rfl;exact rfl;exact rfl;exact ki) | (apply Wl.pickT;exact rfl;exact rfl;exact k5;exact rfl) | refine Wl.not rfl rfl ?_ | apply Wl.nil | apply St.seq | apply St.region | (apply St.condT;exact rfl;exact k5) | apply St.ret | apply Gt.next | apply Gt.thenRet | (apply Gt.out1;exact rfl;exact rfl;intro w' hp)
  exact ⟨rfl,U0.comp (Hp.on0 hp U2) fun k _ h => h.elim id fun h => by omega⟩
 obtain ⟨⟨hl1,hl3⟩,hsl⟩ := hz rfl
 repeat' first | refine Wl.move rfl rfl ?_ | (apply Wl.on;exact rfl;exact rfl;exact k5) | refine Wl.not rfl rfl ?_
 apply Wl.callC
 ·exact rfl
 ·exact kd
 intro wq hq
 have Uq : Upd (fun k => w0.heap.size ≤ k) w0 wq := U2.comp hq.upd fun k _ hs => hs.elim id fun y => (y trivial).elim
 refine (small26 b cb m wq hnm (hM0.upd Uq fun k hk => Nat.not_le.2 hk)).mono ?_
 rintro e w3 ⟨⟨z,rfl,hz⟩,u3⟩
 have U3 : Upd (fun k => w0.heap.size ≤ k) w0 w3 := Uq.comp u3 fun k _ hs => hs.elim id fun h => Nat.le_trans Uq.size h
 refine ⟨_,_,rfl,Hp.start w3,?_⟩
 clear hq u3 Uq U2 w2 wq
 cases z
 ·repeat' first | refine Wl.assign rfl rfl ?_ | (apply Wl.on;exact rfl;exact rfl;exact k5) | (apply Wl.pickF;exact rfl;exact rfl;exact k5;exact rfl) | refine Wl.not rfl rfl ?_ | apply Wl.nil | apply St.seq | apply St.region | (apply St.condT;exact rfl;exact k5) | apply St.ret | apply Gt.next | apply Gt.thenRet | (apply Gt.out1;exact rfl;exact rfl;intro w' hp)
  exact ⟨rfl,U0.comp (Hp.on0 hp U3) fun k _ h => h.elim id fun h => by omega⟩
 obtain ⟨⟨hm1,hm3⟩,hsm⟩ := hz rfl
 clear hz
 repeat' first | refine Wl.move rfl rfl ?_ | (apply Wl.on;exact rfl;exact rfl;exact k5) | (apply Wl.pickF;exact rfl;exact rfl;exact k5;exact rfl) | refine Wl.not rfl rfl ?_ | apply Wl.nil | apply St.seq | apply St.region | (apply St.condF;exact rfl;exact k5) | apply St.skip | apply Gt.next
 apply Wl.callC
 ·exact rfl
 ·exact kd
 intro wq hq
 have Uq : Upd (fun k => w0.heap.size ≤ k) w0 wq := U3.comp hq.upd fun k _ hs => hs.elim id fun y => (y trivial).elim
 refine (two27 a l.length ca l wq rfl ⟨hl1,hl3⟩ ((hL0.upd Uq fun k hk => Nat.not_le.2 hk).small hsl) (hT0.upd Uq (Nat.not_le.2 hT0.lt))).mono ?_
 rintro e w4 ⟨base,I,M,a1,a2,k1,k2,rv,rfl,hX,hb1,u4,f1,f2,f3,f4,f5,f6,f7,f8⟩
 have hFX : FirstS M l.length [] := ⟨f3,f4,f5,f6,f7,f8,⟨_,_,f1⟩,⟨_,_,f2⟩⟩
 have U4 : Upd (fun k => w0.heap.size ≤ k) w0 w4 := Uq.comp u4 fun k _ hs => hs.elim id fun h => Nat.le_trans Uq.size h
 have hbX : base ≤ w4.heap.size := hb1.2
 refine ⟨_,_,rfl,Hp.start w4,?_⟩
 clear hq u4 f1 f2 f3 f4 f5 f6 f7 f8 Uq U3 w3 wq hb1
 repeat' first | refine Wl.move rfl rfl ?_ | refine Wl.assign rfl rfl ?_ | refine Wl.extract rfl rfl rfl ?_ | apply Wl.nil | apply St.seq | apply St.region | apply Gt.next
 apply Wl.callC
 ·exact rfl
 ·exact kd
 intro wq hq
 have Uq : Upd (fun k => w0.heap.size ≤ k) w0 wq := U4.comp hq.upd fun k _ hs => hs.elim id fun y => (y trivial).elim
 have zq4 := hq.upd.size
 refine (two27 b m.length cb m wq rfl ⟨hm1,hm3⟩ ((hM0.upd Uq fun k hk => Nat.not_le.2 hk).small hsm) (hT0.upd Uq (Nat.not_le.2 hT0.lt))).mono ?_
 rintro e w5 ⟨base2,I2,M2,a3,a4,k3,k4,rv2,rfl,hY,hb2,u5,f1,f2,f3,f4,f5,f6,f7,f8⟩
 have hFY : FirstS M2 m.length [] := ⟨f3,f4,f5,f6,f7,f8,⟨_,_,f1⟩,⟨_,_,f2⟩⟩
 have U5 : Upd (fun k => w0.heap.size ≤ k) w0 w5 := Uq.comp u5 fun k _ hs => hs.elim id fun h => Nat.le_trans Uq.size h
 have hX5 : MonS w5 base I M := (hX.upd hq.upd fun _ _ y => y trivial).new u5 (Nat.le_refl _)
 have hbX5 : base ≤ w5.heap.size := by have := u5.size;omega
 have hbY : base2 ≤ w5.heap.size := hb2.2
 refine ⟨_,_,rfl,Hp.start w5,?_⟩
 clear hq u5 f1 f2 f3 f4 f5 f6 f7 f8 Uq U4 hX hbX w4 wq hb2 zq4
 repeat' first | refine Wl.move rfl rfl ?_ | refine Wl.assign rfl rfl ?_ | refine Wl.extract rfl rfl rfl ?_ | apply Wl.nil | apply St.seq | apply St.region | apply Gt.next
 apply Wl.callC
 ·exact rfl
 ·exact kd
 intro wq hq
 have Uq : Upd (fun k => w0.heap.size ≤ k) w0 wq := U5.comp hq.upd fun k _ hs => hs.elim id fun y => (y trivial).elim
 have zq5 := hq.upd.size
 refine (mStateL base I M (fun _ => []) wq (hX5.upd hq.upd fun _ _ y => y trivial) kf (fun i _ => ⟨hFX.bx i,by decide⟩) (by rw [hFX.ll];decide)).mono ?_
 rintro e w6 ⟨sv,iv,bv,lv,cM,vs,rfl,hSt,hcM,hX6,u6'⟩
 have u6 : Upd (fun k => wq.heap.size ≤ k) wq w6 := u6'.mono fun k _ h => h.elim (fun h => h.elim fun i h => (h.2 rfl).elim) id
 have U6 : Upd (fun k => w0.heap.size ≤ k) w0 w6 := Uq.comp u6 fun k _ hs => hs.elim id fun h => Nat.le_trans Uq.size h
 have hY6 : MonS w6 base2 I2 M2 := (hY.upd hq.upd fun _ _ y => y trivial).new u6 (Nat.le_refl _)
 have z6 := u6.size
 rw [hFX.t,show turnV 0 = 0 from rfl]
 obtain ⟨sa,sc,rfl⟩ := svShape (Sv.ofOwn hSt.s)
 obtain ⟨ia,ic,rfl⟩ := svShape (Sv.ofOwn hSt.i)
 obtain ⟨ba,bc,rfl⟩ := svShape (Sv.ofOwn hSt.b)
 obtain ⟨la,lc,rfl⟩ := svShape (Sv.ofOwn hSt.l)
 have hXlt : ∀ x,MonF I M x → x < wq.heap.size := fun x hx => ((hX5.upd hq.upd fun _ _ y => y trivial).lt x hx).2
 have hYlt : ∀ x,MonF I2 M2 x → x < wq.heap.size := fun x hx => ((hY.upd hq.upd fun _ _ y => y trivial).lt x hx).2
 have hB6w : w0.heap.size ≤ wq.heap.size := Uq.size
 have hbX6 : base ≤ wq.heap.size := by omega
 have hbY6 : base2 ≤ wq.heap.size := by omega
 generalize hB6 : wq.heap.size = B6 at *
 refine ⟨_,_,rfl,Hp.start w6,?_⟩
 clear hq u6 u6' Uq hX5 hY hbX5 U5
 have hl5 : c5 < w6.heap.size := by have := U6.size;omega
 have e56 : w6.heap[c5]? = some (.cells ([.int .i64 n0,.int .i64 n1] : List Value).toArray 72 (0,0)) := U6.heap e5 (Nat.not_le.2 l5)
 obtain ⟨lk,hlk⟩ : ∃ lk : Nat,modI n0 4 = (lk : Int) := ⟨(modI n0 4).toNat,by have := modI_rng (x := n0) (m := 4) ku;omega⟩
 obtain ⟨bk,hbk⟩ : ∃ bk : Nat,modI n1 64 = (bk : Int) := ⟨(modI n1 64).toNat,by have := modI_rng (x := n1) (m := 64) ku;omega⟩
 have hlr : 1 ≤ lk ∧ lk ≤ 4 := by have := modI_rng (x := n0) (m := 4) ku;omega
 have hbr : 1 ≤ bk ∧ bk ≤ 64 := by have := modI_rng (x := n1) (m := 64) ku;omega
 have t1 : -4 < n0.tmod 4 ∧ n0.tmod 4 < 4 := ⟨Int.lt_tmod_of_pos n0 ku,Int.tmod_lt_of_pos n0 ku⟩
 have t2 : 0 ≤ (n0.tmod 4 + 4).tmod 4 := Int.tmod_nonneg _ kf
 have t3 := Int.tmod_lt_of_pos (n0.tmod 4 + 4) (b := 4) ku
 have t4 : -64 < n1.tmod 64 ∧ n1.tmod 64 < 64 := ⟨Int.lt_tmod_of_pos n1 ku,Int.tmod_lt_of_pos n1 ku⟩
 have t5 : 0 ≤ (n1.tmod 64 + 64).tmod 64 := Int.tmod_nonneg _ kf
 have t6 := Int.tmod_lt_of_pos (n1.tmod 64 + 64) (b := 64) ku
 repeat' first | (apply Wl.storeA (xs := [.int .i64 0,.slice sa M.L.length sc,.slice ia M.L.length ic,.slice ba M.L.length bc,.slice la M.ll.length lc,.pointer (some ⟨cM,0,none⟩)]);exact rfl;exact rfl;exact rfl;exact rfl;exact kd;exact .z (LOver.whole rfl)) | (apply Wl.alloc;exact rfl;intro c hc ho) | apply Wl.nil | apply St.seq | apply Gt.next
 generalize c = c11 at *
 have hc11 : w6.heap.size ≤ c11 := by assumption
 refine St.reb (H' := [⟨c11,[.int .i64 0,.slice sa M.L.length sc,.slice ia M.L.length ic,.slice ba M.L.length bc,.slice la M.ll.length lc,.pointer (some ⟨cM,0,none⟩)],54⟩]) fun w7 h7 => ⟨h7.own,h7.apart,?_⟩
 have u7 : Upd (fun k => w6.heap.size ≤ k) w6 w7 := Hp.on1 h7 (Upd.refl _ _) ky
 have U7 : Upd (fun k => w0.heap.size ≤ k) w0 w7 := U6.comp u7 fun k _ hs => hs.elim id fun h => Nat.le_trans U6.size h
 have hX7 := hX6.new u7 (Nat.le_refl _)
 have hY7 := hY6.new u7 (Nat.le_refl _)
 have o11 := own_c h7.own (.head _)
 have z7 := u7.size
 have hMeq : M = {M with ll := linO l.length 1 0} := by
  have h := hFX.ll
  cases M
  simp only at h
  rw [h]
  rfl
 have hSt7 : ∀ by_,StT w7 B6 {M with ll := linO l.length by_ 0} (fun _ => []) (.slice sa M.L.length sc) (.slice ia M.L.length ic) (.slice ba M.L.length bc) (.slice la M.ll.length lc) cM vs := fun by_ => by
  refine hSt.lin (ll' := linO l.length by_ 0) u7 (fun k h => .inr (.inr h)) ?_
  have h := ownsRow_upd hSt.l u7 fun k hk h => Nat.not_le.2 (hSt.l.ge k hk).2 h
  generalize Value.slice la M.ll.length lc = x at h ⊢
  rw [hFX.ll] at h
  exact h
 have e57 : w7.heap[c5]? = some (.cells ([.int .i64 n0,.int .i64 n1] : List Value).toArray 72 (0,0)) := U7.heap e5 (Nat.not_le.2 l5)
 refine St.tree (fun w' => w'.heap[c5]? = some (.cells ([.int .i64 n0,.int .i64 n1] : List Value).toArray 72 (0,0))) mixed (fun _ h' => ⟨Hp.drew h',(Hp.drew h').upd.heap e57 (fun y => y ⟨by simp only;omega,trivial⟩)⟩) ?_
 refine Mt.pu 0 ?_
 refine Wl.indexArr rfl rfl rfl ?_ ?_;constructor <;> omega;apply Wl.nilB
 refine Mt.pu 6 ?_
 refine Wl.indexArr rfl rfl rfl ?_ ?_;constructor <;> omega;apply Wl.nilB
 refine Mt.pu 1 ?_
 apply Wl.loadF;exact rfl;exact rfl;(intro w' h';exact cell_of h' rfl);apply Wl.nilB
 refine Mt.pu 7 ?_
 apply Wl.loadF;exact rfl;exact rfl;(intro w' h';exact cell_of h' rfl);apply Wl.nilB
 refine Mt.pu 2 ?_
 apply Wl.rem;exact rfl;exact rfl;exact rfl;(first | decide | omega);apply Wl.nilB
 refine Mt.pu 8 ?_
 apply Wl.rem;exact rfl;exact rfl;exact rfl;(first | decide | omega);apply Wl.nilB
 refine Mt.pu 3 ?_
 refine Wl.addI rfl rfl rfl ?_ ?_;constructor <;> omega;apply Wl.nilB
 refine Mt.pu 9 ?_
 refine Wl.addI rfl rfl rfl ?_ ?_;constructor <;> omega;apply Wl.nilB
 refine Mt.pu 4 ?_
 apply Wl.rem;exact rfl;exact rfl;exact rfl;(first | decide | omega);apply Wl.nilB
 refine Mt.pu 10 ?_
 apply Wl.rem;exact rfl;exact rfl;exact rfl;(first | decide | omega);apply Wl.nilB
 refine Mt.pu 5 ?_
 refine Wl.addI rfl rfl rfl ?_ ?_;constructor <;> omega;apply Wl.nilB
 refine Mt.pu 11 ?_
 refine Wl.addI rfl rfl rfl ?_ ?_;constructor <;> omega;apply Wl.nilB
 refine Mt.pu 12 ?_
 refine Wl.assign rfl rfl (Wl.nilB ?_)
 refine Mt.pu 13 ?_
 refine Wl.assign rfl rfl (Wl.nilB ?_)
 refine Mt.toGt ka ?_
 apply Gt.next
 refine St.sub (Γ' := [(0,.slice a l.length ca),(1,.slice b m.length cb),(7,.pointer (some ⟨I.m,0,none⟩)),(9,.pointer (some ⟨I2.m,0,none⟩)),(11,.pointer (some ⟨c11,0,none⟩)),(12,.int .i64 (lk : Int)),(13,.int .i64 (bk : Int))]) (by rw [← hlk,← hbk];unfold modI;exact kd) ?_
 repeat' first | refine Wl.move rfl rfl ?_ | apply Wl.nil | apply St.seq | apply St.block | apply St.region | apply Gt.next
 refine St.loop (σ := Nat × World × Value) (fun τ => τ.1 ≤ lk ∧ StT τ.2.1 B6 {M with ll := linO l.length bk τ.1} (fun _ => []) (.slice sa M.L.length sc) (.slice ia M.L.length ic) (.slice ba M.L.length bc) τ.2.2 cM vs ∧ MonS τ.2.1 base I M ∧ MonS τ.2.1 base2 I2 M2 ∧ Upd (fun k => w0.heap.size ≤ k) w0 τ.2.1 ∧ w7.heap.size ≤ τ.2.1.heap.size ∧ τ.2.1.heap[c11]? = some (.cells ([.int .i64 0,.slice sa M.L.length sc,.slice ia M.L.length ic,.slice ba M.L.length bc,τ.2.2,.pointer (some ⟨cM,0,none⟩)] : List Value).toArray 54 (0,0)))
  (fun τ => [(0,.slice a l.length ca),(1,.slice b m.length cb),(7,.pointer (some ⟨I.m,0,none⟩)),(9,.pointer (some ⟨I2.m,0,none⟩)),(11,.pointer (some ⟨c11,0,none⟩)),(12,.int .i64 (lk : Int)),(13,.int .i64 (bk : Int)),(58,.int .i64 (lk : Int)),(59,.int .i64 (τ.1 : Int))])
  (fun τ => Hp τ.2.1 [⟨c11,[.int .i64 0,.slice sa M.L.length sc,.slice ia M.L.length ic,.slice ba M.L.length bc,τ.2.2,.pointer (some ⟨cM,0,none⟩)],54⟩]) (fun τ => lk - τ.1) (0,w7,.slice la M.ll.length lc) ⟨Nat.zero_le _,hSt7 bk,hX7,hY7,U7,Nat.le_refl _,o11⟩ kq (fun _ h => h) ?_
 clear hSt7 hX7 hY7 U7 hX6 hY6 U6 hSt h7 u7 e56 e57 o11
 rintro ⟨j,w8,lv8⟩ ⟨hj,hSt8,hX8,hY8,U8,z78,o8⟩
 try simp only at hj hSt8 hX8 hY8 U8 z78 o8 ⊢
 by_cases hjl : j < lk
 ·have hdj : decide ((j : Int) < (lk : Int)) = true := decide_eq_true kf
  have hrow := hSt8.l
  have hsl : (({M with ll := linO l.length bk j} : Mv2).ll).length = j := linO_len _ _ _
  rw [hsl] at hrow
  have hne11 : ∀ k,lv8.ownBlock = some k → k ≠ c11 := fun k hk e => row_neT hrow o8 ku k hk e
  repeat' first | refine Wl.move rfl rfl ?_ | refine Wl.assign rfl rfl ?_ | refine Wl.lss rfl rfl rfl ?_ | apply Wl.nil | apply St.seq | apply St.block | apply St.region | (apply St.condT;exact rfl;exact k5) | apply St.skip | apply Gt.next
  refine St.treeK 13 (fun w' => w'.heap[c11]? = some (.cells ([.int .i64 0,.slice sa M.L.length sc,.slice ia M.L.length ic,.slice ba M.L.length bc,lv8,.pointer (some ⟨cM,0,none⟩)] : List Value).toArray 54 (0,0))) mixed (fun _ h' => ⟨Hp.drew h',own_c (Hp.drew h').own (.head _)⟩) ?_
  refine Mtk.pureT 0 ka kc kc ka ka kc ?_
  repeat' first | refine Wl.fieldAddrZ rfl rfl ?_ | apply Wl.nilM
  apply Mtk.back
  refine Mtk.pureT 2 ka kc kc ka ka kc ?_
  repeat' first | refine Wl.move rfl rfl ?_ | apply Wl.nilM
  apply Mtk.back
  refine Mtk.pureT 3 ka kc kc ka ka kc ?_
  repeat' first | refine Wl.move rfl rfl ?_ | apply Wl.nilM
  apply Mtk.back
  refine Mtk.pureT 6 ka kc kc ka ka kc ?_
  repeat' first | refine Wl.move rfl rfl ?_ | apply Wl.nilM
  apply Mtk.back
  refine Mtk.pure 1 ka kc kc ka ka kc ka ?_
  repeat' first | (apply Wl.loadF;exact rfl;exact rfl;(intro w' h';exact cell_of h' rfl)) | apply Wl.nilM
  apply Mtk.back
  refine Mtk.pureT 4 ka kc kc ka ka kc ?_
  repeat' first | refine Wl.len rfl rfl ?_ | apply Wl.nilM
  apply Mtk.back
  refine Mtk.pureT 5 ka kc kc ka ka kc ?_
  repeat' first | (apply Wl.remN (m := j) (n := l.length);exact rfl;exact rfl;exact rfl;omega) | apply Wl.nilM
  apply Mtk.back
  refine Mtk.eff1 (i := 7) ka kc kc ?_
  apply Wl.makeSlice (n := bk)
  ·exact rfl
  ·exact rfl
  ·exact rfl
  ·exact Nat.ble_eq_true_of_le kf
  ·omega
  intro c12 hc12 ho12
  rw [mz8]
  apply Wl.nil
  refine Mtk.backE (fun _ h' => own_c h'.own k7) ?_
  refine Mtk.eff1 (i := 8) ka kc kc ?_
  apply Wl.convBS (l := List.replicate bk 0)
  ·exact rfl
  ·exact rfl
  ·intro w' h'
   have h := svBlk (sz := 1) (n := bk) (own_c h'.own (.head _)) (by simp [byteCells]) (by unfold maxLen;omega)
   unfold Bs
   rw [List.length_replicate]
   exact h
  apply Wl.nil
  refine Mtk.backE (fun _ h' => own_c h'.own k7) ?_
  refine Mtk.pureT 9 ka kc kc ka ka kc ?_
  repeat' first | (apply Wl.buildS;exact rfl;exact kh;exact kb) | apply Wl.nilM
  apply Mtk.back
  refine Mtk.eff1 (i := 10) ka kc kc ?_
  repeat' first | (apply Wl.lit;exact rfl;exact kh;exact rfl;exact rfl;exact ke;intro c hc ho) | apply Wl.nil
  refine Mtk.backE (fun _ h' => own_c h'.own k7) ?_
  refine Mtk.eff1 (i := 11) ka kc kc ?_
  apply Wl.appendT (base := B6) (n := j) (m := 1) (sz := 2) (e := 111) (xs := ((linO l.length bk j).map lineC).flatten) (news := lineC (((j % l.length : Nat) : Int),List.replicate bk 0))
  ·exact rfl
  ·exact rfl
  ·exact rfl
  ·assumption
  ·exact rfl
  ·exact hrow
  ·exact fun k hk => ⟨fun e => by have := (hrow.ge k hk).2;simp only at e;omega,fun e => hne11 k hk e.symm,trivial⟩
  ·exact rfl
  ·exact rfl
  ·decide
  ·unfold maxLen;omega
  ·omega
  ·omega
  intro v9 w9 a1 a2 a3 a4
  have hov9 := a1.one
  apply Wl.nil
  refine Mtk.backE (fun _ h' => own_c h'.own k7) ?_
  refine Mtk.pureT 12 ka kc kc ka ka kc ?_
  repeat' first | refine Wl.fieldAddrZ rfl rfl ?_ | apply Wl.nilM
  apply Mtk.back
  refine Mtk.cut ka kc ?_
  repeat' first | (apply Wl.store;exact rfl;exact rfl;exact hov9;exact kd;exact kg) | apply Wl.nil
  refine Mt.backE (fun _ _ => trivial) ?_
  refine Mt.toGt ka ?_
  refine Gt.reb (H' := [⟨c11,[.int .i64 0,.slice sa M.L.length sc,.slice ia M.L.length ic,.slice ba M.L.length bc,v9,.pointer (some ⟨cM,0,none⟩)],54⟩]) fun w10 h10 => ⟨h10.own.2,h10.apart.2,?_⟩
  have u810 : Upd (fun k => lv8.ownBlock = some k ∨ k = c11 ∨ w8.heap.size ≤ k) w8 w10 := (a2.mono fun k _ h => h.imp id fun h => (by
   have := in_off h
   simp only [List.map_cons,List.map_nil,List.mem_cons,List.not_mem_nil,or_false] at this
   omega)).comp h10.upd fun k hk hs => hs.elim id fun h => (by
   have := in_off h
   simp only [List.map_cons,List.map_nil,List.mem_cons,List.not_mem_nil,or_false] at this
   omega)
  have hl10 := ownsRow_upd a1 h10.upd fun k hk y => y (a4 k hk).1
  have e10 : ((linO l.length bk (j + 1)).map lineC).flatten = ((linO l.length bk j).map lineC).flatten ++ lineC (((j % l.length : Nat) : Int),List.replicate bk 0) := by rw [linO_succ];simp
  have hSt10 := hSt8.lin (ll' := linO l.length bk (j + 1)) u810 (fun k h => h.imp id fun h => h.imp (fun h => ⟨_,h ▸ o8⟩) id) (by rw [linO_len,e10];exact hl10)
  have z10 := u810.size
  have hX10 := hX8.upd u810 fun x hx h => (by
   have := hXlt x hx
   rcases h with h | h | h
   ·have := (hrow.ge x h).1;omega
   ·omega
   ·omega)
  have hY10 := hY8.upd u810 fun x hx h => (by
   have := hYlt x hx
   rcases h with h | h | h
   ·have := (hrow.ge x h).1;omega
   ·omega
   ·omega)
  have U10 : Upd (fun k => w0.heap.size ≤ k) w0 w10 := U8.comp u810 fun k _ h => h.elim id fun h => (by
   rcases h with h | h | h
   ·have := (hrow.ge k h).1;omega
   ·omega
   ·have := U8.size;omega)
  repeat' first | refine Wl.move rfl rfl ?_ | (refine Wl.addI rfl rfl rfl ?_ ?_;constructor <;> omega) | apply Wl.nil | apply St.region | apply Gt.next | apply Gt.inNormal
  exact Gt.round (j + 1,w10,v9) ⟨hjl,hSt10,hX10,hY10,U10,by simp only;omega,h10.own.at (.tail _ (.head _))⟩ ky kq (fun _ h => h)
 obtain rfl : j = lk := by omega
 have hdj : decide ((j : Int) < (j : Int)) = false := decide_eq_false kf
 repeat' first | refine Wl.move rfl rfl ?_ | refine Wl.lss rfl rfl rfl ?_ | (apply Wl.loadAH;exact rfl;exact rfl;exact kd;exact kd) | apply Wl.nil | apply St.seq | apply St.region | (apply St.condF;exact rfl;exact k5) | apply St.exit | apply Gt.next | apply Gt.thenExit | apply Gt.inExit
 refine Wl.reb (H' := []) fun w9 h9 => ⟨trivial,trivial,?_⟩
 have u9 : Upd (fun k => k = c11) w8 w9 := Hp.turned h9
 have hSt9 := hSt8.lin (ll' := linO l.length bk j) u9 (fun k h => .inr (.inl ⟨_,h ▸ o8⟩)) (ownsRow_upd hSt8.l u9 fun k hk e => row_neT hSt8.l o8 ku k hk e)
 have hX9 := hX8.upd u9 fun x hx h => by have := hXlt x hx;omega
 have hY9 := hY8.upd u9 fun x hx h => by have := hYlt x hx;omega
 have U9 : Upd (fun k => w0.heap.size ≤ k) w0 w9 := U8.comp u9 fun k _ h => h.elim id fun h => by omega
 have z9 := u9.size
 have hlen := hFX.len
 have hLF : LinFit l.length (linO l.length bk j) := linO_fit hl1 hbr hlr.2
 have hset : SetOk M.L 0 := by rw [hFX.L];exact newL_set (biasI_rng kf) hl1
 clear h9 hSt8 hX8 hY8 U8 o8 u9
 apply Wl.callC
 ·exact rfl
 ·exact kd
 intro wq hq
 obtain ⟨xa1,xc1,hpv⟩ := hFX.pv
 obtain ⟨xa2,xc2,hev⟩ := hFX.ev
 have q : ∀ {sz k : Nat} {v : Value} {cs : List Value},Sv w9 sz k v cs → Sv wq sz k v cs := fun h => h.upd hq.upd fun _ _ _ _ y => y trivial
 have zq := hq.upd.size
 have Uq : Upd (fun k => w0.heap.size ≤ k) w0 wq := U9.comp hq.upd fun k _ hs => hs.elim id fun y => (y trivial).elim
 refine (mWithL base I M M.L 0 xa1 xa2 xc1 xc2 cM (.slice sa M.L.length sc) (.slice ia M.L.length ic) (.slice ba M.L.length bc) lv8 vs M.ins (fun _ => []) (linO l.length bk j) M.f wq (hX9.upd hq.upd fun _ _ y => y trivial) kf (by rw [hlen];exact hpv) (by rw [hlen];exact hev)
  (q (Sv.ofOwn hSt9.s)) rfl (fun x hx => (hset.1 x hx).1) (.inl hset) (q (Sv.ofOwn hSt9.i)) (fun x hx => by rw [hFX.ins] at hx;rw [List.eq_of_mem_replicate hx];decide) (q (Sv.ofOwn hSt9.b)) (fun j' hj' => by obtain ⟨v,g1,g2⟩ := hSt9.bl.2 j' hj';exact ⟨v,g1,q (Sv.ofOwn g2)⟩) (fun _ _ => ⟨by decide,fun x hx => by cases hx⟩)
  (q (Sv.ofOwn hSt9.l)) (fun x hx => by obtain ⟨⟨q1,q2⟩,q3,q4⟩ := hLF.1 x hx;exact ⟨⟨q1,by omega⟩,q3,q4⟩) (by rw [← usedN_eq];exact hLF.2.1) hLF.2.2 (hq.upd.heap hSt9.m fun y => y trivial)).mono ?_
 rintro e w10 (⟨_,I3,M3,rfl,hZ,hZe,u10,_⟩ | ⟨hno,_⟩)
 rotate_left
 ·exact (hno hset (fun i s' _ hi => by rw [hFX.ins] at hi;rw [List.eq_of_mem_replicate (List.mem_of_getElem? hi)];decide) fun j' _ => ⟨by decide,fun x hx => by cases hx⟩).elim
 have hFZ : FirstS M3 l.length (linO l.length bk j) := by
  rw [hZe]
  exact ⟨hFX.L,rfl,fun i => by show bxK (fun _ => []) M.L.length i = [];unfold bxK;split <;> rfl,rfl,hFX.ins,hFX.f,⟨_,_,hpv⟩,⟨_,_,hev⟩⟩
 have hfZ : M3.f = M.f := by rw [hZe]
 have U10 : Upd (fun k => w0.heap.size ≤ k) w0 w10 := Uq.comp u10 fun k _ hs => hs.elim id fun h => Nat.le_trans Uq.size h
 have hX10 := (hX9.upd hq.upd fun _ _ y => y trivial).new u10 (Nat.le_refl _)
 have hY10 := (hY9.upd hq.upd fun _ _ y => y trivial).new u10 (Nat.le_refl _)
 have hbZ := u10.size
 refine ⟨_,_,rfl,Hp.start w10,?_⟩
 clear q hq hX9 hY9 U9 Uq hSt9 u10 hpv hev hZe hset
 have hbX10 : base ≤ w10.heap.size := by omega
 have hbY10 : base2 ≤ w10.heap.size := by omega
 generalize wq.heap.size = bZ at *
 repeat' first | refine Wl.move rfl rfl ?_ | refine Wl.assign rfl rfl ?_ | refine Wl.extract rfl rfl rfl ?_ | (apply Wl.neqIs;exact rfl;exact rfl;exact rfl;exact kw) | apply Wl.nil | apply St.seq | apply St.region | (apply St.condF;exact rfl;exact k5) | apply St.skip | apply Gt.next
 apply Wl.callC
 ·exact rfl
 ·exact kd
 intro wq hq
 have Uq : Upd (fun k => w0.heap.size ≤ k) w0 wq := U10.comp hq.upd fun k _ hs => hs.elim id fun y => (y trivial).elim
 have zq2 := hq.upd.size
 refine (encFirst bZ I3 M3 l.length (linO l.length bk j) wq (hZ.upd hq.upd fun _ _ y => y trivial) kf hFZ ⟨hl1,by omega⟩ hLF (hKu Uq)).mono ?_
 rintro e w11 ⟨raw,rfl,hraw,hZ11,u11⟩
 rw [hfZ] at hraw
 have U11 : Upd (fun k => w0.heap.size ≤ k) w0 w11 := Uq.comp u11 fun k _ hs => hs.elim id fun h => Nat.le_trans Uq.size h
 have hX11 := (hX10.upd hq.upd fun _ _ y => y trivial).new u11 (Nat.le_refl _)
 have hY11 := (hY10.upd hq.upd fun _ _ y => y trivial).new u11 (Nat.le_refl _)
 have z11 := u11.size
 refine ⟨_,_,rfl,Hp.start w11,?_⟩
 clear hq hX10 hY10 U10 Uq u11 hZ
 repeat' first | refine Wl.move rfl rfl ?_ | refine Wl.assign rfl rfl ?_ | apply Wl.nil | apply St.seq | apply St.region | apply Gt.next
 apply Wl.callC
 ·exact rfl
 ·exact kd
 intro wq hq
 have Uq : Upd (fun k => w0.heap.size ≤ k) w0 wq := U11.comp hq.upd fun k _ hs => hs.elim id fun y => (y trivial).elim
 have zq3 := hq.upd.size
 have hrawb : ∀ k,raw.ownBlock = some k → k < w11.heap.size := fun k hk => (hraw.lt k hk).2
 refine (decFirst base I M l.length l.length [] (linO l.length bk j) M.f raw wq (hX11.upd hq.upd fun _ _ y => y trivial) kf hFX ⟨hl1,by omega⟩ ⟨hl1,by omega⟩ hLF hFX.f (hraw.bs.upd hq.upd fun k _ _ _ y => y trivial) (fun k hk => by have := hrawb k hk;omega) (hKu Uq)).mono ?_
 rintro e w12 ⟨u12,⟨hne,_⟩ | ⟨_,I4,M4,b4,rfl,hQ,hb4,hFQ,hfQ⟩⟩
 ·exact (hne rfl).elim
 have U12 : Upd (fun k => w0.heap.size ≤ k) w0 w12 := Uq.comp u12 fun k _ hs => hs.elim id fun h => Nat.le_trans Uq.size h
 have hZ12 := (hZ11.upd hq.upd fun _ _ y => y trivial).new u12 (Nat.le_refl _)
 have hY12 := (hY11.upd hq.upd fun _ _ y => y trivial).new u12 (Nat.le_refl _)
 have hraw12 : Bs w12 raw _ := (hraw.bs.upd hq.upd fun k _ _ _ y => y trivial).upd u12 fun k hk _ _ h => by have := hrawb k hk;omega
 have z12 := u12.size
 refine ⟨_,_,rfl,Hp.start w12,?_⟩
 clear hq hX11 hY11 U11 Uq u12 hZ11 hraw
 repeat' first | refine Wl.move rfl rfl ?_ | refine Wl.assign rfl rfl ?_ | refine Wl.extract rfl rfl rfl ?_ | apply Wl.nil | apply St.seq | apply St.region | apply Gt.next
 apply Wl.callC
 ·exact rfl
 ·exact kd
 intro wq hq
 have Uq : Upd (fun k => w0.heap.size ≤ k) w0 wq := U12.comp hq.upd fun k _ hs => hs.elim id fun y => (y trivial).elim
 have zq4 := hq.upd.size
 refine (decFirst base2 I2 M2 m.length l.length [] (linO l.length bk j) M.f raw wq (hY12.upd hq.upd fun _ _ y => y trivial) kf hFY ⟨hm1,by omega⟩ ⟨hl1,by omega⟩ hLF hFX.f (hraw12.upd hq.upd fun k _ _ _ y => y trivial) (fun k hk => by have := hrawb k hk;omega) (hKu Uq)).mono ?_
 rintro e w13 ⟨u13,hres⟩
 obtain ⟨x13,z13,rfl,hz13⟩ : ∃ x,∃ z : Int,e = .returned (.tuple #[x,.int .i64 z]) ∧ decide (z = 0) = decide ((l.length : Int) = (m.length : Int)) := by
  rcases hres with ⟨hne,z,hz0,rfl⟩ | ⟨heq,I5,M5,b5,rfl,_⟩
  ·exact ⟨_,z,rfl,by rw [decide_eq_false hz0,decide_eq_false kf]⟩
  ·exact ⟨_,0,rfl,by rw [decide_eq_true rfl,decide_eq_true kf]⟩
 have U13 : Upd (fun k => w0.heap.size ≤ k) w0 w13 := Uq.comp u13 fun k _ hs => hs.elim id fun h => Nat.le_trans Uq.size h
 have hZ13 := (hZ12.upd hq.upd fun _ _ y => y trivial).new u13 (Nat.le_refl _)
 have hQ13 := (hQ.upd hq.upd fun _ _ y => y trivial).new u13 (Nat.le_refl _)
 have z13' := u13.size
 refine ⟨_,_,rfl,Hp.start w13,?_⟩
 clear hq U12 Uq u13 hZ12 hQ hY12 hres hraw12
 repeat' first | refine Wl.move rfl rfl ?_ | refine Wl.assign rfl rfl ?_ | refine Wl.extract rfl rfl rfl ?_ | apply Wl.nil | apply St.seq | apply St.region | apply Gt.next
 apply Wl.callQ
 exact rfl
 (focus repeat constructor)
 ·intro wq hq
  exact hq.q (nDecode raw wq)
 repeat' first | refine Wl.move rfl rfl ?_ | refine Wl.assign rfl rfl ?_ | (apply Wl.on;exact rfl;exact rfl;exact k5) | refine Wl.extract rfl rfl rfl ?_ | (apply Wl.eqlIs;exact rfl;exact rfl;exact rfl;exact kw) | apply Wl.nil | apply St.seq | apply St.region | apply Gt.next
 apply Wl.callC
 ·exact rfl
 ·exact kd
 intro wr hr
 have Ur : Upd (fun k => w0.heap.size ≤ k) w0 wr := U13.comp hr.upd fun k _ hs => hs.elim id fun y => (y trivial).elim
 have zr := hr.upd.size
 refine (sameFirst b4 bZ I4 I3 M4 M3 l.length (linO l.length bk j) wr (hQ13.upd hr.upd fun _ _ y => y trivial) (hZ13.upd hr.upd fun _ _ y => y trivial) kf kf hFQ hFZ ⟨hl1,by omega⟩ hLF (fun j' hj' => by rw [hfZ];exact (hfQ j' hj').symm)).mono ?_
 rintro e w14 ⟨rfl,u14⟩
 have U14 : Upd (fun k => w0.heap.size ≤ k) w0 w14 := Ur.comp u14 fun k _ hs => hs.elim id fun h => Nat.le_trans Ur.size h
 refine ⟨_,_,rfl,Hp.start w14,?_⟩
 clear hr Ur u14 U13
 repeat' first | refine Wl.move rfl rfl ?_ | (apply Wl.on;exact rfl;exact rfl;exact k5) | (apply Wl.pickT;exact rfl;exact rfl;exact k5;exact rfl) | (apply Wl.eqlIs;exact rfl;exact rfl;exact rfl;exact kw) | refine Wl.eql rfl rfl rfl ?_ | (apply Wl.eqlBs;exact rfl;exact rfl;exact rfl;exact kw) | refine Wl.len rfl rfl ?_
 apply Wl.callQ
 exact rfl
 (focus repeat constructor)
 ·intro wq hq
  exact hq.q (nEncode wq)
 repeat' first | refine Wl.assign rfl rfl ?_ | (apply Wl.on;exact rfl;exact rfl;exact k5) | (apply Wl.pickT;exact rfl;exact rfl;exact k5;exact rfl) | refine Wl.eql rfl rfl rfl ?_ | refine Wl.len rfl rfl ?_ | apply Wl.nil | apply St.ret | apply Gt.next | (apply Gt.out1;exact rfl;exact rfl;intro w' hp)
 exact ⟨rfl,U0.comp (Hp.on0 hp U14) fun k _ h => h.elim id fun h => by omega⟩
end Go.Proofs.YtabbklpalbikdaaGreatDoor
end
section
namespace Go.Proofs.YtabbklpalbikdaaGreatDoor
open Go.RowKit Go.Pt Go.ChangeShapes Go.WideShapes Go.ChangeAt
def laid2 {H : Type} : List (String × DataW H) := [("math/bits.deBruijn32tab", Rows.laid_math_bits_deBruijn32tab), ("portico/sha.adds", Rows.laid_portico_sha_adds)]
theorem laidB_eq : (Rows.laid_math_bits_deBruijn32tab : DataW Unit) = .agg (tabL.map fun (n : Int) => .lit (.int .u8 n)) := by kernel_rfl
theorem laidS_eq : (Rows.laid_portico_sha_adds : DataW Unit) = .agg (Sha.KL.map fun (n : Nat) => .lit (.int .u32 (n : Int))) := by kernel_rfl
theorem tabLaid2 {W : World} (h : laidMetH Tryz.prog laid2 W) : tabOk W := by
 intro r hr
 rw [MakeChecks.laidMetH_plain _ _ _ kn] at h
 obtain ⟨ps,⟨g,t,cs,fuel,p,q,hg,ht,hv,hd,_,_⟩,_,_⟩ := h
 obtain rfl := Option.some.inj ((show Tryz.prog.globalNamed "math/bits.deBruijn32tab" = some 0 by kernel_rfl).symm.trans hg)
 obtain rfl := Option.some.inj ((show (Tryz.prog.globals[0]?).map (·.type) = some 107 by kernel_rfl).symm.trans ht)
 rw [laidB_eq] at hd
 obtain ⟨xs,m,_,ex,_,hl,hel⟩ := DataW.trod_array Tryz.underlying107 hd
 have c5 : Tryz.prog.cellsOf 5 = 1 := by kernel_rfl
 have hE := hel r hr
 rw [c5,Nat.mul_one,List.getElem?_eq_getElem kf] at hE
 obtain ⟨z,e1,e2,_⟩ := DataW.trod_int Tryz.underlying5 hE
 have hlen : tabL.length = 32 := rfl
 have e3 : (xs.map (·.1)) = tabL.map fun (n : Int) => .lit (.int .u8 n) := (DataW.agg.inj (Prod.mk.inj ex).1).symm
 have e4 : (xs.map (·.1))[r]? = (tabL.map fun (n : Int) => (DataW.lit (.int .u8 n) : DataW Unit))[r]? := by rw [e3]
 rw [List.getElem?_map,List.getElem?_map,List.getElem?_eq_getElem (by omega : r < xs.length),List.getElem?_eq_getElem (by omega : r < tabL.length),e2] at e4
 have hz : z = tabL[r]'(by omega) := by
  simp only [Option.map_some,Option.some.injEq,DataW.lit.injEq,Lit.int.injEq,true_and] at e4
  exact e4
 refine ⟨tabL[r]'(by omega),List.getElem?_eq_getElem _,?_,?_⟩
 ·have : ∀ x ∈ tabL,(0 : Int) ≤ x ∧ x ≤ 31 := by decide
  exact this _ (List.getElem_mem _)
 ·rw [World.var?_cell hg hv r,← hz]
  have h0 : ((cs.toList.drop r).take 1)[0]? = some (.int .u8 z) := by rw [e1];rfl
  simpa using h0
theorem shaTab2 {W : World} (h : laidMetH Tryz.prog laid2 W) : ArrAt W 1 0 .u32 64 Sha.K := by
 intro r hr
 rw [MakeChecks.laidMetH_plain _ _ _ kn] at h
 obtain ⟨ps,⟨_,_,_,_,_,_,_,_,_,_,⟨g,t,cs,fuel,p,q,hg,ht,hv,hd,_,_⟩,_⟩,_,_⟩ := h
 obtain rfl := Option.some.inj ((show Tryz.prog.globalNamed "portico/sha.adds" = some 1 by kernel_rfl).symm.trans hg)
 obtain rfl := Option.some.inj ((show (Tryz.prog.globals[1]?).map (·.type) = some 334 by kernel_rfl).symm.trans ht)
 rw [laidS_eq] at hd
 obtain ⟨xs,m,_,ex,_,hl,hel⟩ := DataW.trod_array Tryz.underlying334 hd
 have c5 : Tryz.prog.cellsOf 25 = 1 := by kernel_rfl
 have hE := hel r hr
 rw [c5,Nat.mul_one,List.getElem?_eq_getElem kf] at hE
 obtain ⟨z,e1,e2,_⟩ := DataW.trod_int Tryz.underlying25 hE
 have hlen : Sha.KL.length = 64 := rfl
 have e3 : (xs.map (·.1)) = Sha.KL.map fun (n : Nat) => .lit (.int .u32 (n : Int)) := (DataW.agg.inj (Prod.mk.inj ex).1).symm
 have e4 : (xs.map (·.1))[r]? = (Sha.KL.map fun (n : Nat) => (DataW.lit (.int .u32 (n : Int)) : DataW Unit))[r]? := by rw [e3]
 rw [List.getElem?_map,List.getElem?_map,List.getElem?_eq_getElem (by omega : r < xs.length),List.getElem?_eq_getElem (by omega : r < Sha.KL.length),e2] at e4
 have hz : z = (Sha.K r : Int) := by
  simp only [Option.map_some,Option.some.injEq,DataW.lit.injEq,Lit.int.injEq,true_and] at e4
  rw [e4,Sha.K,List.getD,List.getElem?_eq_getElem (by omega : r < Sha.KL.length)];rfl
 rw [Nat.zero_add,World.var?_cell hg hv r,← hz]
 have : cs.toList[r]? = some (.int .u32 z) := by
  have h0 : ((cs.toList.drop r).take 1)[0]? = some (.int .u32 z) := by rw [e1];rfl
  simpa using h0
 simpa using this
theorem shaTabLt {W : World} (h : ArrAt W 1 0 .u32 64 Sha.K) : 1 < W.heap.size := World.block_lt_of_cell? W _ (h 0 ku)
end Go.Proofs.YtabbklpalbikdaaGreatDoor
end
