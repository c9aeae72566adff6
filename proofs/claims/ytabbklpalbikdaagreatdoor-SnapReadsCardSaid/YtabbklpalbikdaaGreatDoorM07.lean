/-
 12 texts,one behind the other;each says what it proves. Conditions: as each text says.
-/
import Derived.Test.YtabbklpalbikdaaGreatDoorM06
import Derived.Test.YtabbklpalbikdaaGreatDoorM04
import Derived.Test.YtabbklpalbikdaaGreatDoorM05
import Derived.Test.YtabbklpalbikdaaGreatDoorM01
import Derived.ArgAppend
import Derived.Lib.SliceRun
set_option maxHeartbeats 32000000
set_option linter.unusedVariables false
set_option linter.unusedSimpArgs false
section
namespace Go.Proofs.YtabbklpalbikdaaGreatDoor
open Go.RowKit Go.Pt
def SetNo (L : List Sta) (t : Int) : Prop := ¬ SetOk L t
theorem SetNo.not {L : List Sta} {t : Int} (h : SetNo L t) : ¬ SetOk L t := h
theorem wSetNo (wd sa : Nat) (L L' : List Sta) (t t' : Int) (v : Value) (w : World) (hW : WardS w wd sa L t) (hA : Sv w 35 L'.length v (stas L').flatten) (hl' : L'.length = L.length) (hok : ∀ x ∈ L',StaOk x) (h : SetNo L' t') :
  Calls Tryz.prog 79 #[.pointer (some ⟨wd,0,none⟩),v,.int .i64 t'] w fun e w' => e = .returned (.int .i64 3) ∧ Hp w [] w' := wSetAny wd sa L L' t t' v w hW hA hl' hok h
theorem pSendOk (pp pa : Nat) (cs : List Nat) (bx : Nat → List Value) (i ch : Nat) (x : Int × List UInt8) (w : World) (hP : PostS w pp pa cs bx) (hi : cs[i]? = some ch) (hx : x.2 ≠ [] ∧ x.2.length ≤ 16) (h4 : (bx i).length < 4) :
  Calls Tryz.prog 80 #[.pointer (some ⟨pp,0,none⟩),.int .i64 i,letV x] w fun e w' => e = .returned (.int .i64 0) ∧ PostS w' pp pa cs (fun j => if j = i then bx i ++ [letV x] else bx j) ∧ Upd (fun k => k = ch) w w' := by
 refine (pSend pp pa cs bx i ch x w hP hi ⟨List.length_pos_iff.2 hx.1,hx.2⟩).mono ?_
 rintro e w' (⟨_,h⟩ | ⟨h,_⟩)
 ·exact h
 ·omega
theorem pSendRef (pp pa : Nat) (cs : List Nat) (bx : Nat → List Value) (i ch : Nat) (x : Int × List UInt8) (w : World) (hP : PostS w pp pa cs bx) (hi : cs[i]? = some ch) (hx : x.2.length ≤ 16) (h : x.2 = [] ∨ 4 ≤ (bx i).length) :
  Calls Tryz.prog 80 #[.pointer (some ⟨pp,0,none⟩),.int .i64 i,letV x] w fun e w' => (∃ r,decide (r ≠ 0) = true ∧ e = .returned (.int .i64 r)) ∧ Hp w [] w' := by
 by_cases h0 : x.2 = []
 ·refine (pSendNo pp pa cs bx i ch x w hP hi h0).mono ?_
  rintro e w' ⟨rfl,h⟩
  exact ⟨⟨1,by decide,rfl⟩,h⟩
 ·refine (pSend pp pa cs bx i ch x w hP hi ⟨List.length_pos_iff.2 h0,hx⟩).mono ?_
  rintro e w' (⟨h',_⟩ | ⟨_,rfl,h'⟩)
  ·exact absurd (h.resolve_left h0) kc
  ·exact ⟨⟨16,by decide,rfl⟩,h'⟩
theorem MonF.lv {I : Mi} {M : Mv2} {lv' : Value} {ll' : List (Int × List UInt8)} {u' : Int} {b : Nat} (h : MonF I {M with lv := lv',ll := ll',used := u'} b) : MonF I M b ∨ lv'.ownBlock = some b := by
 rcases h with h | h | h | h | h | h | h | h | h | h | h | h | h
 ·exact .inl (.inl h)
 ·exact .inl (.inr (.inl h))
 ·exact .inl (.inr (.inr (.inl h)))
 ·exact .inl (.inr (.inr (.inr (.inl h))))
 ·exact .inl (.inr (.inr (.inr (.inr (.inl h)))))
 ·exact .inl (.inr (.inr (.inr (.inr (.inr (.inl h))))))
 ·exact .inl (.inr (.inr (.inr (.inr (.inr (.inr (.inl h)))))))
 ·exact .inl (.inr (.inr (.inr (.inr (.inr (.inr (.inr (.inl h))))))))
 ·exact .inl (.inr (.inr (.inr (.inr (.inr (.inr (.inr (.inr (.inl h)))))))))
 ·exact .inl (.inr (.inr (.inr (.inr (.inr (.inr (.inr (.inr (.inr (.inl h))))))))))
 ·exact .inl (.inr (.inr (.inr (.inr (.inr (.inr (.inr (.inr (.inr (.inr (.inl h)))))))))))
 ·exact .inr h
 ·exact .inl (.inr (.inr (.inr (.inr (.inr (.inr (.inr (.inr (.inr (.inr (.inr (.inr h))))))))))))
def bxK (ls : Nat → List (Int × List UInt8)) (k : Nat) : Nat → List Value := fun j => if j < k then (ls j).map letV else []
theorem mWithL (base : Nat) (I : Mi) (M : Mv2) (L' : List Sta) (t' : Int) (a1 a2 : Option Addr) (c1 c2 cM' : Nat) (sv iv bv lv : Value) (vs : List Value) (ins' : List (List UInt8)) (ls : Nat → List (Int × List UInt8)) (ll : List (Int × List UInt8)) (f' : Nat → Int) (w : World) (hM : MonS w base I M) (hb : base ≤ w.heap.size) (hpv : M.pv = .slice a1 M.L.length c1) (hev : M.ev = .slice a2 M.L.length c2)
  (hA : Sv w 35 M.L.length sv (stas L').flatten) (hl' : L'.length = M.L.length) (hokA : ∀ x ∈ L',StaOk x) (hset : SetOk L' t' ∨ SetNo L' t')
  (hI : Sv w 1 M.L.length iv (ins'.map strV)) (hins : ∀ s ∈ ins',s.length ≤ 100000)
  (hB : Sv w 1 M.L.length bv vs) (hBl : ∀ j,j < M.L.length → ∃ v,vs[j]? = some v ∧ Sv w 2 (ls j).length v ((ls j).map lineC).flatten) (hBt : ∀ j,j < M.L.length → (ls j).length ≤ 1000 ∧ ∀ x ∈ ls j,(0 ≤ x.1 ∧ x.1 ≤ 1000) ∧ x.2.length ≤ 16)
  (hL : Sv w 2 ll.length lv (ll.map lineC).flatten) (hll : ∀ x ∈ ll,(0 ≤ x.1 ∧ x.1 < M.L.length) ∧ x.2 ≠ [] ∧ x.2.length ≤ 64) (hlu : usedL ll ≤ 256) (hln : ll.length ≤ 1000) (hm' : memH w cM' f') :
  Calls Tryz.prog 29 #[.pointer (some ⟨I.m,0,none⟩),.agg #[.int .i64 t',sv,iv,bv,lv,.pointer (some ⟨cM',0,none⟩)]] w fun e w' =>
   ((SetOk L' t' ∧ (∀ i s,i < M.L.length → ins'[i]? = some s → s.length ≤ 64) ∧ ∀ j,j < M.L.length → BoxOk M.L.length (ls j)) ∧ ∃ I' M',e = .returned (.tuple #[.pointer (some ⟨I'.m,0,none⟩),.int .i64 0]) ∧ MonS w' w.heap.size I' M' ∧ M' = ⟨M.pv,M.ev,.slice none 0 0,M'.lv,0,[],L',t',bxK ls M.L.length,ll,usedL ll,ins',f',xz,0,M'.cf⟩ ∧ Upd (fun k => w.heap.size ≤ k) w w' ∧ (ll = [] → M'.lv = .slice none 0 0)) ∨
   ((SetOk L' t' → (∀ i s,i < M.L.length → ins'[i]? = some s → s.length ≤ 64) → (∀ j,j < M.L.length → BoxOk M.L.length (ls j)) → False) ∧ e = .returned (.tuple #[.pointer none,.int .i64 3]) ∧ Upd (fun k => w.heap.size ≤ k) w w') := by
 have hM0 := hM
 have hn1 := hM.ward.2.2
 have hA0 := hA
 have hcnt := fun wq (k : MonS wq base I M) => wCount I.wd I.sa M.L M.t wq k.ward
 obtain ⟨_,sa0,sc0,rfl,_⟩ := hA
 obtain ⟨il,ia0,ic0,rfl,_,_,_,hi2⟩ := hI
 obtain ⟨bl,ba0,bc0,rfl,_,_,_,hb2⟩ := hB
 obtain ⟨_,la,lc,rfl,_,_,_,hlc⟩ := hL
 obtain ⟨ib,io,rfl,hic⟩ := hi2 (fun e => by rw [e] at il;simp at il;omega)
 obtain ⟨bb,bo,rfl,hbc⟩ := hb2 (fun e => by rw [e] at bl;simp at bl;omega)
 clear hi2 hb2
 have hil : ins'.length = M.L.length := by simpa using il
 have hvl : vs.length = M.L.length := by simpa using bl
 have q0 : w.cell? ⟨I.m,2,none⟩ = some (.pointer (some ⟨I.wd,0,none⟩)) := cell_of hM.mm rfl
 have l0 := (hM.lt I.m (.inl rfl)).2
 have lM' := lt_of_block hm'
 have hdd : ∀ w',MonS w' base I M → w'.heap[I.d]? = some (.cells #[.slice a1 M.L.length c1,.slice a2 M.L.length c2,.pointer (some ⟨I.cM,0,none⟩),.pointer (some ⟨I.pp,0,none⟩),.pointer (some ⟨I.bd,0,none⟩)] 139 (0,0)) := fun w' k => by
  have h := k.dd
  rw [hpv,hev] at h
  exact h
 have dl : decide ((M.L.length : Int) ≠ (M.L.length : Int)) = false := decide_eq_false kc
 refine enter (args := [_,_]) (Γ := [(0,_),(1,_)]) Tryz.func29 Tryz.ntmps29 rfl odq (.cons rfl (.cons rfl .nil)) ?_
 repeat' first | (apply Wl.loadO;exact rfl;exact rfl;exact zx;exact km) | refine Wl.move rfl rfl ?_ | refine Wl.assign rfl rfl ?_ | refine Wl.nilCheck rfl rfl ?_ | refine Wl.fieldAddrZ rfl rfl ?_ | refine Wl.eqlPN rfl rfl rfl ?_ | (apply Wl.boxA;exact rfl;exact rfl;intro c hc ho) | apply Wl.nil | apply St.seq | apply St.region | (apply St.condF;exact rfl;exact k5) | apply St.skip | apply Gt.next
 apply Wl.callQ
 exact rfl
 (focus repeat constructor)
 ·intro wq hq
  exact hq.q (hcnt wq (hM.hp0 hM0 hq k6))
 repeat' first | refine Wl.move rfl rfl ?_ | refine Wl.assign rfl rfl ?_ | (apply Wl.on;exact rfl;exact rfl;exact k5) | (apply Wl.pickF;exact rfl;exact rfl;exact k5;exact rfl) | refine Wl.fieldAddrZ rfl rfl ?_ | (apply Wl.loadH;exact rfl;exact rfl;exact kd;exact rfl) | refine Wl.eqlPN rfl rfl rfl ?_ | (apply Wl.neqIs;exact rfl;exact rfl;exact rfl;exact kx) | refine Wl.len rfl rfl ?_ | apply Wl.nil | apply St.seq | apply St.region | (apply St.condF;exact rfl;exact k5) | apply St.skip | apply Gt.next
 apply Wl.makeSlice (n := M.L.length)
 ·exact rfl
 ·exact rfl
 ·exact rfl
 ·rw [Nat.ble_eq];omega
 ·omega
 intro st hst host
 have hst1 : w.heap.size ≤ st ∧ c ≠ st := ⟨hst,host.1⟩
 rw [mZ M.L.length kc]
 repeat' first | refine Wl.assign rfl rfl ?_ | apply Wl.nil | apply St.seq | apply Gt.next
 refine St.tree (fun w' => MonS w' base I M ∧ w'.heap[c]? = some (.cells #[.int .i64 t',.slice sa0 M.L.length sc0,.slice (some ⟨ib,io,none⟩) M.L.length ic0,.slice (some ⟨bb,bo,none⟩) M.L.length bc0,.slice la ll.length lc,.pointer (some ⟨cM',0,none⟩)] 54 (0,0))) mixed (fun _ h' => ⟨Hp.drew h',hM.hp0 hM0 (Hp.drew h') k6,(Hp.drew h').own.at (.tail _ (.head _))⟩) ?_
 refine Mt.pm 0 ?_
 refine Mt.pm 7 ?_
 refine Mt.pm 14 ?_
 refine Mt.pz 15 ?_
 refine Mt.pn 1 ?_
 refine Mt.pn 8 ?_
 refine Mt.pu 16 ?_
 apply Wl.loadF;exact rfl;exact rfl;(intro w' h';first | exact cell_of h'.1.mm rfl | exact cell_of (hdd _ h'.1) rfl | exact cell_of h'.2 rfl);apply Wl.nilB
 refine Mt.pz 2 ?_
 refine Mt.pz 9 ?_
 refine Mt.pu 3 ?_
 apply Wl.loadF;exact rfl;exact rfl;(intro w' h';first | exact cell_of h'.1.mm rfl | exact cell_of (hdd _ h'.1) rfl | exact cell_of h'.2 rfl);apply Wl.nilB
 refine Mt.pu 10 ?_
 apply Wl.loadF;exact rfl;exact rfl;(intro w' h';first | exact cell_of h'.1.mm rfl | exact cell_of (hdd _ h'.1) rfl | exact cell_of h'.2 rfl);apply Wl.nilB
 refine Mt.pn 4 ?_
 refine Mt.pn 11 ?_
 refine Mt.pf 5 ?_
 refine Mt.pz 12 ?_
 refine Mt.pu 6 ?_
 apply Wl.loadF;exact rfl;exact rfl;(intro w' h';first | exact cell_of h'.1.mm rfl | exact cell_of (hdd _ h'.1) rfl | exact cell_of h'.2 rfl);apply Wl.nilB
 refine Mt.pu 13 ?_
 apply Wl.loadF;exact rfl;exact rfl;(intro w' h';first | exact cell_of h'.1.mm rfl | exact cell_of (hdd _ h'.1) rfl | exact cell_of h'.2 rfl);apply Wl.nilB
 refine Mt.e1 17 ?_
 apply Wl.callC
 ·exact rfl
 ·exact kd
 intro wq2 hq2
 have hMq := hM.hp0 hM0 hq2 k6
 have zq2 := hq2.upd.size
 have hltC : ∀ x : Blk,x ∈ _ → x.b < wq2.heap.size := fun x hx => hq2.own.lt hx
 simp only [List.mem_cons,List.not_mem_nil,or_false,forall_eq_or_imp,forall_eq] at hltC
 refine (mcopy cM' f' wq2 (hq2.upd.heap hm' fun y => y km)).mono ?_
 rintro e wC ⟨cC,rfl,hcC,hmC,uC⟩
 have hqC := hq2.newer uC
 have zC := uC.size
 have hwC : Upd (fun k => w.heap.size ≤ k) w wC := hqC.on (Upd.refl _ _) k6
 have hM := hMq.new uC (Nat.le_refl _)
 have lmC := lt_of_block hmC
 refine ⟨_,_,rfl,hqC.rb,?_⟩
 clear hMq
 apply Wl.nil
 refine Mt.backE (fun _ h' => ⟨hM.hp0 hM0 h' k6,h'.own.at (.tail _ (.head _))⟩) ?_
 refine Mt.e1 18 ?_
 apply Wl.callC
 ·exact rfl
 ·exact kd
 intro wq3 hq3
 have hMq := hM.hp0 hM0 hq3 k6
 have zq3 := hq3.upd.size
 have hltN : ∀ x : Blk,x ∈ _ → x.b < wq3.heap.size := fun x hx => hq3.own.lt hx
 simp only [List.mem_cons,List.not_mem_nil,or_false,forall_eq_or_imp,forall_eq] at hltN
 refine (monNew a1 a2 (some ⟨st,0,none⟩) M.L.length c1 c2 _ cC (fun _ => 0) f' wq3 hn1 (wordZ (hq3.own.at (.head _))) (hq3.upd.heap hmC fun y => y km) w.heap.size kc kc).mono ?_
 rintro e wN ⟨I',M',rfl,hN,hNc,hNM,hNf,uN⟩
 have hqN := hq3.newer uN
 have zN := uN.size
 have hwN : Upd (fun k => w.heap.size ≤ k) w wN := hqN.on hwC k6
 have hM := hMq.new uN (Nat.le_refl _)
 refine ⟨_,_,rfl,hqN.rb,?_⟩
 clear hMq
 apply Wl.nil
 refine Mt.backE (fun _ h' => ⟨hM.hp0 hM0 h' k6,h'.own.at (.tail _ (.head _))⟩) ?_
 refine Mt.pm 19 ?_
 refine Mt.pu 20 ?_
 refine Wl.extract rfl rfl rfl (Wl.nilB ?_)
 refine Mt.pu 21 ?_
 refine Wl.extract rfl rfl rfl (Wl.nilB ?_)
 refine Mt.pu 22 ?_
 refine Wl.assign rfl rfl (Wl.nilB ?_)
 refine Mt.pu 23 ?_
 refine Wl.assign rfl rfl (Wl.nilB ?_)
 refine Mt.toGt kb ?_
 repeat' first | apply St.seq | apply Gt.next
 obtain ⟨pv',ev',seen',lv',sn',sx',L0,t0,bx',ll',used',ins0,f0,xs',pc',cf'⟩ := M'
 cases hNM
 have hof : ∀ b,MonF I' _ b → Off [⟨st,List.replicate M.L.length (Value.int .u32 0),25⟩,⟨c,[.int .i64 t',.slice sa0 M.L.length sc0,.slice (some ⟨ib,io,none⟩) M.L.length ic0,.slice (some ⟨bb,bo,none⟩) M.L.length bc0,.slice la ll.length lc,.pointer (some ⟨cM',0,none⟩)],54⟩] b := fun b hb => by
  by_cases e : b = cC
  ·exact ⟨by simp only;omega,by simp only;omega,trivial⟩
  ·have := hNf b hb e;exact ⟨by simp only;omega,by simp only;omega,trivial⟩
 have hlN := hN.lts
 have lcN : c < wN.heap.size ∧ st < wN.heap.size := by omega
 clear hM hq2 hq3 hqC hqN
 skip
 refine St.tree (fun w' => WiB w w' I' ⟨.slice a1 M.L.length c1,.slice a2 M.L.length c2,.slice none 0 0,.slice none 0 0,0,[],newL (fun _ => 0) M.L.length,0,fun _ => [],[],0,List.replicate M.L.length [],f',xz,0,cf'⟩ c [.int .i64 t',.slice sa0 M.L.length sc0,.slice (some ⟨ib,io,none⟩) M.L.length ic0,.slice (some ⟨bb,bo,none⟩) M.L.length bc0,.slice la ll.length lc,.pointer (some ⟨cM',0,none⟩)]) mixed (fun _ h' => ⟨Hp.drew h',have k := hN.upd (Hp.drew h').upd fun b hb y => y (hof b hb);⟨k.mm,k.dd,(Hp.drew h').own.at (.tail _ (.head _)),(Hp.drew h').on hwN k6⟩⟩) ?_
 rcases hset with hset | hno
 rotate_left
 ·skip
  refine Mt.pm 0 ?_
  refine Mt.pz 4 ?_
  refine Mt.pf 6 ?_
  refine Mt.pn 1 ?_
  refine Mt.pu 5 ?_
  apply Wl.loadF;exact rfl;exact rfl;(intro w' h';first | exact cell_of h'.mm rfl | exact cell_of h'.dd rfl | exact cell_of h'.cc rfl);apply Wl.nilB
  refine Mt.pu 7 ?_
  apply Wl.loadF;exact rfl;exact rfl;(intro w' h';first | exact cell_of h'.mm rfl | exact cell_of h'.dd rfl | exact cell_of h'.cc rfl);apply Wl.nilB
  refine Mt.pz 2 ?_
  refine Mt.pu 3 ?_
  apply Wl.loadF;exact rfl;exact rfl;(intro w' h';first | exact cell_of h'.mm rfl | exact cell_of h'.dd rfl | exact cell_of h'.cc rfl);apply Wl.nilB
  refine Mt.e1 8 ?_
  apply Wl.callQ
  ·exact rfl
  ·exact kd
  ·intro wq hq
   refine (wSetNo I'.wd I'.sa _ L' _ t' _ wq (hN.upd hq.upd fun b hb y => y (hof b hb)).ward (hl'.symm ▸ hA0.upd (hq.on hwN k6) fun k _ hk _ => by omega) (by rw [hl'];exact (newL_len _ _).symm) hokA hno).mono ?_
   rintro e wr ⟨rfl,hr'⟩
   exact ⟨rfl,hq.keep hr'⟩
  apply Wl.nil
  refine Mt.backE (fun _ h' => have k := hN.upd h'.upd fun b hb y => y (hof b hb);⟨k.mm,k.dd,h'.own.at (.tail _ (.head _)),h'.on hwN k6⟩) ?_
  refine Mt.pu 9 ?_
  refine Wl.neq rfl rfl rfl (Wl.nilB ?_)
  refine Mt.toGt kb ?_
  repeat' first | refine Wl.assign rfl rfl ?_ | apply Wl.nil | apply St.seq | apply St.region | (apply St.condT;exact rfl;exact k5) | apply St.ret | apply Gt.next | apply Gt.thenRet | (apply Gt.out2;exact rfl;exact rfl;exact rfl;intro w' hp)
  exact .inr ⟨fun h => (hno.not h).elim,rfl,hp.on hwN k6⟩
 have hset0 := hset
 obtain ⟨hok,ht,hany,hr⟩ := hset
 refine Mt.pm 0 ?_
 refine Mt.pz 4 ?_
 refine Mt.pf 6 ?_
 refine Mt.pn 1 ?_
 refine Mt.pu 5 ?_
 apply Wl.loadF;exact rfl;exact rfl;(intro w' h';first | exact cell_of h'.mm rfl | exact cell_of h'.dd rfl | exact cell_of h'.cc rfl);apply Wl.nilB
 refine Mt.pu 7 ?_
 apply Wl.loadF;exact rfl;exact rfl;(intro w' h';first | exact cell_of h'.mm rfl | exact cell_of h'.dd rfl | exact cell_of h'.cc rfl);apply Wl.nilB
 refine Mt.pz 2 ?_
 refine Mt.pu 3 ?_
 apply Wl.loadF;exact rfl;exact rfl;(intro w' h';first | exact cell_of h'.mm rfl | exact cell_of h'.dd rfl | exact cell_of h'.cc rfl);apply Wl.nilB
 refine Mt.e1 8 ?_
 apply Wl.callC
 ·exact rfl
 ·exact kd
 intro wq4 hq4
 have hMq := hN.upd hq4.upd fun b hb y => y (hof b hb)
 have zq4 := hq4.upd.size
 have uq4 : Upd (fun k => w.heap.size ≤ k) w wq4 := hq4.on hwN k6
 refine (wSetOk I'.wd I'.sa _ L' _ t' _ wq4 hMq.ward (hl'.symm ▸ hA0.upd uq4 fun k _ hk _ => by omega) (by rw [hl'];exact (newL_len _ _).symm) hok ht hany hr).mono ?_
 rintro e wS ⟨sa',rfl,hWS,gS,uS⟩
 have zS := uS.size
 have hS := hMq.set hWS (by rw [hl'];exact (newL_len _ _).symm) kc (uS.mono fun k _ h => h)
 have hwS : Upd (fun k => w.heap.size ≤ k) w wS := uq4.comp uS fun k hk hs => by have := (hMq.lt I'.wd (.inr (.inr (.inr (.inl rfl))))).1;rcases hs with h | rfl | h <;> omega
 have hqS := Hp.restT hq4 uS (by simp only [List.mem_cons,List.not_mem_nil,or_false,forall_eq_or_imp,forall_eq];exact ⟨fun h => by rcases h with h | h;exact (hof I'.wd (.inr (.inr (.inr (.inl rfl))))).1 h;omega,fun h => by rcases h with h | h;exact (hof I'.wd (.inr (.inr (.inr (.inl rfl))))).2.1 h;omega⟩)
 have hof2 : ∀ b,MonF {I' with sa := sa'} {(⟨.slice a1 M.L.length c1,.slice a2 M.L.length c2,.slice none 0 0,.slice none 0 0,0,[],newL (fun _ => 0) M.L.length,0,fun _ => [],[],0,List.replicate M.L.length [],f',xz,0,cf'⟩ : Mv2) with L := L',t := t'} b → Off [⟨st,List.replicate M.L.length (Value.int .u32 0),25⟩,⟨c,[.int .i64 t',.slice sa0 M.L.length sc0,.slice (some ⟨ib,io,none⟩) M.L.length ic0,.slice (some ⟨bb,bo,none⟩) M.L.length bc0,.slice la ll.length lc,.pointer (some ⟨cM',0,none⟩)],54⟩] b := fun b hb => (MonF.with hb).elim (hof b) fun e => ⟨by simp only;omega,by simp only;omega,trivial⟩
 refine ⟨_,_,rfl,hqS,?_⟩
 apply Wl.nil
 refine Mt.backE (fun _ h' => have k := hS.upd h'.upd fun b hb y => y (hof2 b hb);⟨k.mm,k.dd,h'.own.at (.tail _ (.head _)),h'.on hwS k6⟩) ?_
 refine Mt.pu 9 ?_
 apply Wl.neqIs;exact rfl;exact rfl;exact rfl;exact kx;apply Wl.nilB
 refine Mt.toGt kb ?_
 repeat' first | refine Wl.move rfl rfl ?_ | apply Wl.nil | apply St.seq | apply St.block | apply St.region | (apply St.condF;exact rfl;exact k5) | apply St.skip | apply Gt.next
 have hil0 : insK ins' 0 M.L.length = List.replicate M.L.length [] := insK_0 _ _
 have hbx0 : bxK ls 0 = fun _ => [] := funext fun j => if_neg (Nat.not_lt_zero _)
 have hSz : MonS wS w.heap.size {I' with sa := sa'} (⟨.slice a1 M.L.length c1,.slice a2 M.L.length c2,.slice none 0 0,.slice none 0 0,0,[],L',t',(bxK ls 0),[],0,insK ins' 0 M.L.length,f',xz,0,cf'⟩ : Mv2) := by rw [hil0,hbx0];exact hS
 clear hS hN hWS
 refine St.loop (σ := Nat × World) (fun τ => τ.1 ≤ M.L.length ∧ MonS τ.2 w.heap.size {I' with sa := sa'} (⟨.slice a1 M.L.length c1,.slice a2 M.L.length c2,.slice none 0 0,.slice none 0 0,0,[],L',t',(bxK ls τ.1),[],0,insK ins' τ.1 M.L.length,f',xz,0,cf'⟩ : Mv2) ∧ ((∀ k s,k < τ.1 → ins'[k]? = some s → s.length ≤ 64) ∧ (∀ j,j < τ.1 → BoxOk M.L.length (ls j))) ∧ Upd (fun k => w.heap.size ≤ k) w τ.2)
  (fun τ => [(3,.pointer (some ⟨c,0,none⟩)),(6,.int .i64 M.L.length),(8,.pointer (some ⟨I'.m,0,none⟩)),(80,.int .i64 M.L.length),(81,.int .i64 (τ.1 : Int))])
  (fun τ => Hp τ.2 [⟨st,List.replicate M.L.length (Value.int .u32 0),25⟩,⟨c,[.int .i64 t',.slice sa0 M.L.length sc0,.slice (some ⟨ib,io,none⟩) M.L.length ic0,.slice (some ⟨bb,bo,none⟩) M.L.length bc0,.slice la ll.length lc,.pointer (some ⟨cM',0,none⟩)],54⟩]) (fun τ => M.L.length - τ.1) (0,wS) ⟨Nat.zero_le _,hSz,⟨fun _ _ h => (Nat.not_lt_zero _ h).elim,fun _ h => (Nat.not_lt_zero _ h).elim⟩,hwS⟩ kq (fun _ h => h) ?_
 clear hSz hwS hwN hwC
 rintro ⟨i,wc⟩ ⟨hi,hM,hok1,hwc⟩
 simp only at hi hM hok1 hwc ⊢
 have zwc := hwc.size
 by_cases hlt : i < M.L.length
 ·have hd : decide ((i : Int) < (M.L.length : Int)) = true := decide_eq_true kc
  obtain ⟨s,hs⟩ : ∃ s,ins'[i]? = some s := ⟨_,List.getElem?_eq_getElem kc⟩
  have hsl := hins s (List.mem_of_getElem? hs)
  obtain ⟨bi,hvi,hbi⟩ := hBl i hlt
  obtain ⟨hbt1,hbt2⟩ := hBt i hlt
  have hbi0 := hbi
  obtain ⟨_,av,cv,rfl,_,_,_,hav⟩ := hbi
  have hsC : w.cell? ⟨ib,io + (i : Int).toNat,none⟩ = some (strV s) := by
   rw [Int.toNat_natCast,hic i (by rw [List.length_map];omega)]
   obtain ⟨hj,e⟩ := List.getElem?_eq_some_iff.1 hs
   rw [List.getElem_map,e]
  have hbC : w.cell? ⟨bb,bo + (i : Int).toNat,none⟩ = some (.slice av (ls i).length cv) := by
   obtain ⟨hj,e⟩ := List.getElem?_eq_some_iff.1 hvi
   rw [Int.toNat_natCast,hbc i hj,e]
  have hib := World.block_lt_of_cell? w _ hsC
  have hbb := World.block_lt_of_cell? w _ hbC
  simp only at hib hbb
  repeat' first | refine Wl.move rfl rfl ?_ | refine Wl.assign rfl rfl ?_ | refine Wl.lss rfl rfl rfl ?_ | apply Wl.nil | apply St.seq | apply St.block | apply St.region | (apply St.condT;exact rfl;exact k5) | apply St.skip | apply Gt.next
  refine St.tree (fun w' => WiB w w' {I' with sa := sa'} (⟨.slice a1 M.L.length c1,.slice a2 M.L.length c2,.slice none 0 0,.slice none 0 0,0,[],L',t',(bxK ls i),[],0,insK ins' i M.L.length,f',xz,0,cf'⟩ : Mv2) c [.int .i64 t',.slice sa0 M.L.length sc0,.slice (some ⟨ib,io,none⟩) M.L.length ic0,.slice (some ⟨bb,bo,none⟩) M.L.length bc0,.slice la ll.length lc,.pointer (some ⟨cM',0,none⟩)]) mixed (fun _ h' => ⟨Hp.drew h',have k := hM.upd (Hp.drew h').upd fun b hb y => y (hof2 b hb);⟨k.mm,k.dd,(Hp.drew h').own.at (.tail _ (.head _)),(Hp.drew h').on hwc k6⟩⟩) ?_
  by_cases hs64 : s.length ≤ 64
  rotate_left
  ·skip
   refine Mt.pm 0 ?_
   refine Mt.pm 7 ?_
   refine Mt.pz 8 ?_
   refine Mt.pm 10 ?_
   refine Mt.pn 1 ?_
   refine Mt.pu 9 ?_
   apply Wl.loadF;exact rfl;exact rfl;(intro w' h';first | exact cell_of h'.mm rfl | exact cell_of h'.dd rfl | exact cell_of h'.cc rfl | exact h'.u.cell hsC qd);apply Wl.nilB
   refine Mt.pz 2 ?_
   refine Mt.pu 11 ?_
   refine Wl.indexAddr1 rfl rfl rfl ?_ ?_;constructor <;> omega;apply Wl.nilB
   refine Mt.pu 3 ?_
   apply Wl.loadF;exact rfl;exact rfl;(intro w' h';first | exact cell_of h'.mm rfl | exact cell_of h'.dd rfl | exact cell_of h'.cc rfl | exact h'.u.cell hsC qd);apply Wl.nilB
   refine Mt.pu 12 ?_
   apply Wl.loadF;exact rfl;exact rfl;(intro w' h';first | exact cell_of h'.mm rfl | exact cell_of h'.dd rfl | exact cell_of h'.cc rfl | exact h'.u.cell hsC qd);apply Wl.nilB
   refine Mt.pn 4 ?_
   refine Mt.pz 5 ?_
   refine Mt.pu 6 ?_
   apply Wl.loadF;exact rfl;exact rfl;(intro w' h';first | exact cell_of h'.mm rfl | exact cell_of h'.dd rfl | exact cell_of h'.cc rfl | exact h'.u.cell hsC qd);apply Wl.nilB
   refine Mt.e1 13 ?_
   apply Wl.callQ
   ·exact rfl
   ·exact kd
   ·intro wq hq
    refine (bFeedNo _ _ _ _ _ _ _ i [] s wq (hM.upd hq.upd fun b hb y => y (hof2 b hb)).board (insK_at ins' hlt kc) (by simp only [List.length_nil];omega)).mono ?_
    rintro e wr ⟨rfl,hr'⟩
    exact ⟨rfl,hq.keep hr'⟩
   apply Wl.nil
   refine Mt.backE (fun _ h' => have k := hM.upd h'.upd fun b hb y => y (hof2 b hb);⟨k.mm,k.dd,h'.own.at (.tail _ (.head _)),h'.on hwc k6⟩) ?_
   refine Mt.pu 14 ?_
   refine Wl.neq rfl rfl rfl (Wl.nilB ?_)
   refine Mt.toGt kb ?_
   repeat' first | refine Wl.assign rfl rfl ?_ | apply Wl.nil | apply St.seq | apply St.region | (apply St.condT;exact rfl;exact k5) | apply St.ret | apply Gt.next | apply Gt.thenRet | apply Gt.inRet | (apply Gt.out2;exact rfl;exact rfl;exact rfl;intro w' hp)
   exact .inr ⟨fun _ h2 _ => hs64 (h2 i s hlt hs),rfl,hp.on hwc k6⟩
  refine Mt.pm 0 ?_
  refine Mt.pm 7 ?_
  refine Mt.pz 8 ?_
  refine Mt.pm 10 ?_
  refine Mt.pn 1 ?_
  refine Mt.pu 9 ?_
  apply Wl.loadF;exact rfl;exact rfl;(intro w' h';first | exact cell_of h'.mm rfl | exact cell_of h'.dd rfl | exact cell_of h'.cc rfl | exact h'.u.cell hsC qd);apply Wl.nilB
  refine Mt.pz 2 ?_
  refine Mt.pu 11 ?_
  refine Wl.indexAddr1 rfl rfl rfl ?_ ?_;constructor <;> omega;apply Wl.nilB
  refine Mt.pu 3 ?_
  apply Wl.loadF;exact rfl;exact rfl;(intro w' h';first | exact cell_of h'.mm rfl | exact cell_of h'.dd rfl | exact cell_of h'.cc rfl | exact h'.u.cell hsC qd);apply Wl.nilB
  refine Mt.pu 12 ?_
  apply Wl.loadF;exact rfl;exact rfl;(intro w' h';first | exact cell_of h'.mm rfl | exact cell_of h'.dd rfl | exact cell_of h'.cc rfl | exact h'.u.cell hsC qd);apply Wl.nilB
  refine Mt.pn 4 ?_
  refine Mt.pz 5 ?_
  refine Mt.pu 6 ?_
  apply Wl.loadF;exact rfl;exact rfl;(intro w' h';first | exact cell_of h'.mm rfl | exact cell_of h'.dd rfl | exact cell_of h'.cc rfl | exact h'.u.cell hsC qd);apply Wl.nilB
  refine Mt.e1 13 ?_
  apply Wl.callC
  ·exact rfl
  ·exact kd
  intro wq5 hq5
  have hMq := hM.upd hq5.upd fun b hb y => y (hof2 b hb)
  have zq5 := hq5.upd.size
  have uq5 : Upd (fun k => w.heap.size ≤ k) w wq5 := hq5.on hwc k6
  refine (bFeed _ _ _ _ _ _ _ i [] s wq5 hMq.board (insK_at ins' hlt kc) (by simpa using hs64)).mono ?_
  rintro e wF ⟨rfl,hBF,uF⟩
  have zF := uF.size
  have hF0 := hMq.feed hBF (List.length_set ..) uF
  have hbx1 : (fun j => if j = i then ((ls i).take 0).map letV else bxK ls i j) = bxK ls i := funext fun j => by by_cases e : j = i;(rw [if_pos e,e];simp [bxK]);rw [if_neg e]
  have hF : MonS wF w.heap.size {I' with sa := sa'} (⟨.slice a1 M.L.length c1,.slice a2 M.L.length c2,.slice none 0 0,.slice none 0 0,0,[],L',t',(fun j => if j = i then ((ls i).take 0).map letV else bxK ls i j),[],0,insK ins' (i + 1) M.L.length,f',xz,0,cf'⟩ : Mv2) := by rw [hbx1,← insK_set kc hs];exact hF0
  have hwF : Upd (fun k => w.heap.size ≤ k) w wF := uq5.comp uF fun k hk hs => by have := (hMq.lt I'.ia (.inr (.inr (.inr (.inr (.inr (.inr (.inr (.inr (.inl rfl)))))))))).1;rcases hs with h | rfl;exact h;exact this
  have hqF := Hp.restT hq5 uF (by simp only [List.mem_cons,List.not_mem_nil,or_false,forall_eq_or_imp,forall_eq];exact ⟨(hof I'.ia (.inr (.inr (.inr (.inr (.inr (.inr (.inr (.inr (.inl rfl)))))))))).1,(hof I'.ia (.inr (.inr (.inr (.inr (.inr (.inr (.inr (.inr (.inl rfl)))))))))).2.1⟩)
  have hbF : wF.cell? ⟨bb,bo + (i : Int).toNat,none⟩ = some (.slice av (ls i).length cv) := hwF.cell hbC (by show ¬ w.heap.size ≤ bb;omega)
  refine ⟨_,_,rfl,hqF,?_⟩
  apply Wl.nil
  refine Mt.backE (fun _ h' => have k := hF.upd h'.upd fun b hb y => y (hof2 b hb);⟨k.mm,k.dd,h'.own.at (.tail _ (.head _)),h'.on hwF k6⟩) ?_
  refine Mt.pu 14 ?_
  apply Wl.neqIs;exact rfl;exact rfl;exact rfl;exact kx;apply Wl.nilB
  refine Mt.toGt kb ?_
  repeat' first | (apply Wl.loadO;exact rfl;exact rfl;exact zx;exact km) | refine Wl.move rfl rfl ?_ | refine Wl.fieldAddrZ rfl rfl ?_ | (apply Wl.loadH;exact rfl;exact rfl;exact kd;exact rfl) | refine Wl.len rfl rfl ?_ | (refine Wl.indexAddr1 rfl rfl rfl ?_ ?_;constructor <;> omega) | apply Wl.nil | apply St.seq | apply St.block | apply St.region | (apply St.condF;exact rfl;exact k5) | apply St.skip | apply Gt.next
  refine St.loop (σ := Nat × World) (fun τ => τ.1 ≤ (ls i).length ∧ MonS τ.2 w.heap.size {I' with sa := sa'} (⟨.slice a1 M.L.length c1,.slice a2 M.L.length c2,.slice none 0 0,.slice none 0 0,0,[],L',t',(fun j => if j = i then ((ls i).take τ.1).map letV else bxK ls i j),[],0,insK ins' (i + 1) M.L.length,f',xz,0,cf'⟩ : Mv2) ∧ (τ.1 ≤ 4 ∧ ∀ x ∈ (ls i).take τ.1,x.1 < (M.L.length : Int) ∧ x.2 ≠ []) ∧ Upd (fun k => w.heap.size ≤ k) w τ.2) (fun τ => [(3,.pointer (some ⟨c,0,none⟩)),(6,.int .i64 M.L.length),(8,.pointer (some ⟨I'.m,0,none⟩)),(80,.int .i64 M.L.length),(81,.int .i64 (i : Int)),(10,.int .i64 (i : Int)),(103,.slice av (ls i).length cv),(104,.int .i64 ((ls i).length : Int)),(105,.int .i64 (τ.1 : Int))]) (fun τ => Hp τ.2 [⟨st,List.replicate M.L.length (Value.int .u32 0),25⟩,⟨c,[.int .i64 t',.slice sa0 M.L.length sc0,.slice (some ⟨ib,io,none⟩) M.L.length ic0,.slice (some ⟨bb,bo,none⟩) M.L.length bc0,.slice la ll.length lc,.pointer (some ⟨cM',0,none⟩)],54⟩]) (fun τ => (ls i).length - τ.1) (0,wF) ⟨Nat.zero_le _,hF,⟨Nat.zero_le _,fun _ h => by simp at h⟩,hwF⟩ kq (fun _ h => h) ?_
  clear hF hwF hbF hqF
  rintro ⟨k,wk⟩ ⟨hk,hK,hkok,hwk⟩
  simp only at hk hK hkok hwk ⊢
  have zwk := hwk.size
  by_cases hkl : k < (ls i).length
  ·skip
   have hd2 : decide ((k : Int) < ((ls i).length : Int)) = true := decide_eq_true kc
   obtain ⟨x,hx⟩ : ∃ x,(ls i)[k]? = some x := ⟨_,List.getElem?_eq_getElem hkl⟩
   obtain ⟨⟨hx0,hx1⟩,hx16⟩ := hbt2 x (List.mem_of_getElem? hx)
   have hgx : ∀ (q : Nat) (u : Value),(lineC x)[q]? = some u → ((ls i).map lineC).flatten[k * 2 + q]? = some u := fun q u hq => by
    rw [flat_get (k := 2) (fun y hy => by obtain ⟨z,_,rfl⟩ := List.mem_map.1 hy;rfl) (by rw [List.getElem?_map,hx];rfl) ((List.getElem?_eq_some_iff.1 hq).1)]
    exact hq
   obtain ⟨lb,lo,rfl,hlcs⟩ := hav (fun e => by have := hgx 0 _ rfl;rw [e] at this;cases this)
   have hlx : ∀ (q : Nat) (u : Value),(lineC x)[q]? = some u → w.cell? (Addr.add ⟨lb,lo + (k : Int).toNat * 2,none⟩ q) = some u := fun q u hq => by
    obtain ⟨hj,e⟩ := List.getElem?_eq_some_iff.1 (hgx q u hq)
    rw [addLit,Int.toNat_natCast,Nat.add_assoc,hlcs _ hj,e]
   have hlb := World.block_lt_of_cell? w _ (hlx 0 _ rfl)
   rw [addLit] at hlb
   simp only at hlb
   have hlk : ∀ (q : Nat) (u : Value),(lineC x)[q]? = some u → wk.cell? (Addr.add ⟨lb,lo + (k : Int).toNat * 2,none⟩ q) = some u := fun q u hq => hwk.cell (hlx q u hq) (by rw [addLit];show ¬ w.heap.size ≤ lb;omega)
   obtain ⟨cS,hcS⟩ : ∃ cS,cS = c := ⟨_,rfl⟩
   subst hcS
   repeat' first | (apply Wl.loadAF (xs := lineC x);exact rfl;exact rfl;exact rfl;(intro wq hq q u hq';exact hq.old (hlk q u hq') qi)) | refine Wl.lss rfl rfl rfl ?_ | (apply Wl.storeA;exact rfl;exact rfl;exact rfl;exact rfl;exact kd;exact kn) | (apply Wl.alloc;exact rfl;intro c hc ho) | (refine Wl.indexAddr rfl rfl rfl ?_ ?_;constructor <;> omega) | apply Wl.nil | apply St.seq | apply St.block | apply St.region | (apply St.condT;exact rfl;exact k5) | apply St.skip | apply Gt.next
   have lkc : wk.heap.size ≤ c := by assumption
   have hof3 : ∀ b,MonF {I' with sa := sa'} (⟨.slice a1 M.L.length c1,.slice a2 M.L.length c2,.slice none 0 0,.slice none 0 0,0,[],L',t',(fun j => if j = i then ((ls i).take k).map letV else bxK ls i j),[],0,insK ins' (i + 1) M.L.length,f',xz,0,cf'⟩ : Mv2) b → Off [⟨c,[.int .i64 x.1,strV x.2],78⟩,⟨st,List.replicate M.L.length (Value.int .u32 0),25⟩,⟨cS,[.int .i64 t',.slice sa0 M.L.length sc0,.slice (some ⟨ib,io,none⟩) M.L.length ic0,.slice (some ⟨bb,bo,none⟩) M.L.length bc0,.slice la ll.length lc,.pointer (some ⟨cM',0,none⟩)],54⟩] b := fun b hb => ⟨fun e => by have := (hK.lt b hb).2;simp only at e;omega,hof2 b hb⟩
   refine St.tree (fun w' => WiB w w' {I' with sa := sa'} (⟨.slice a1 M.L.length c1,.slice a2 M.L.length c2,.slice none 0 0,.slice none 0 0,0,[],L',t',(fun j => if j = i then ((ls i).take k).map letV else bxK ls i j),[],0,insK ins' (i + 1) M.L.length,f',xz,0,cf'⟩ : Mv2) cS [.int .i64 t',.slice sa0 M.L.length sc0,.slice (some ⟨ib,io,none⟩) M.L.length ic0,.slice (some ⟨bb,bo,none⟩) M.L.length bc0,.slice la ll.length lc,.pointer (some ⟨cM',0,none⟩)] ∧ w'.heap[c]? = some (.cells #[.int .i64 x.1,strV x.2] 78 (0,0))) mixed (fun _ h' => ⟨Hp.drew h',⟨have kk := hK.upd (Hp.drew h').upd fun b hb y => y (hof3 b hb);⟨kk.mm,kk.dd,(Hp.drew h').own.at (.tail _ (.tail _ (.head _))),(Hp.drew h').on hwk k6⟩,(Hp.drew h').own.at (.head _)⟩⟩) ?_
   have dx0 : decide (x.1 < 0) = false := decide_eq_false kc
   by_cases hfr : x.1 < (M.L.length : Int)
   ·have dx1 : decide (x.1 ≥ (M.L.length : Int)) = false := decide_eq_false kc
    obtain ⟨ch,hch⟩ : ∃ ch,I'.cs[i]? = some ch := ⟨_,List.getElem?_eq_getElem (by have := hK.len.1;simp only at this;omega)⟩
    by_cases hgo : k < 4 ∧ x.2 ≠ []
    ·skip
     refine Mt.pf 0 ?_
     refine Mt.pu 1 ?_
     apply Wl.loadF;exact rfl;exact rfl;(intro w' h';first | exact cell_of h'.1.mm rfl | exact cell_of h'.1.dd rfl | exact cell_of h'.2 rfl);apply Wl.nilB
     refine Mt.pu 2 ?_
     refine Wl.lss rfl rfl rfl (Wl.nilB ?_)
     refine Mt.pm 3 ?_
     refine Mt.pu 4 ?_
     repeat' first | (apply Wl.on;exact rfl;exact rfl;exact k5) | refine Wl.fieldAddr0 rfl rfl ?_ | apply Wl.nilB
     refine Mt.pu 6 ?_
     repeat' first | refine Wl.move rfl rfl ?_ | (apply Wl.on;exact rfl;exact rfl;exact k5) | apply Wl.nilB
     refine Mt.pu 5 ?_
     repeat' first | (apply Wl.loadF;exact rfl;exact rfl;(intro w' h';first | exact cell_of h'.1.mm rfl | exact cell_of h'.1.dd rfl | exact cell_of h'.2 rfl)) | (apply Wl.on;exact rfl;exact rfl;exact k5) | apply Wl.nilB
     refine Mt.pu 7 ?_
     repeat' first | (apply Wl.on;exact rfl;exact rfl;exact k5) | refine Wl.geq rfl rfl rfl ?_ | apply Wl.nilB
     refine Mt.pu 8 ?_
     apply Wl.pickF;exact rfl;exact rfl;exact k5;exact rfl;apply Wl.nilB
     refine Mt.pm 9 ?_
     refine Mt.pu 10 ?_
     repeat' first | refine Wl.move rfl rfl ?_ | (apply Wl.on;exact rfl;exact rfl;exact k5) | apply Wl.nilB
     refine Mt.pu 17 ?_
     repeat' first | refine Wl.move rfl rfl ?_ | (apply Wl.on;exact rfl;exact rfl;exact k5) | apply Wl.nilB
     refine Mt.pu 18 ?_
     repeat' first | (apply Wl.loadAF (xs := lineC x);exact rfl;exact rfl;exact rfl;(intro w' h' q u hq';rw [addLit];exact cell_of h'.2 (by rw [Nat.zero_add];exact hq'))) | (apply Wl.on;exact rfl;exact rfl;exact k5) | apply Wl.nilB
     refine Mt.pu 11 ?_
     repeat' first | (apply Wl.on;exact rfl;exact rfl;exact k5) | refine Wl.nilCheck rfl rfl ?_ | apply Wl.nilB
     refine Mt.pu 12 ?_
     repeat' first | (apply Wl.on;exact rfl;exact rfl;exact k5) | refine Wl.fieldAddrZ rfl rfl ?_ | apply Wl.nilB
     refine Mt.pu 13 ?_
     repeat' first | (apply Wl.loadF;exact rfl;exact rfl;(intro w' h';first | exact cell_of h'.1.mm rfl | exact cell_of h'.1.dd rfl | exact cell_of h'.2 rfl)) | (apply Wl.on;exact rfl;exact rfl;exact k5) | apply Wl.nilB
     refine Mt.pu 14 ?_
     repeat' first | (apply Wl.on;exact rfl;exact rfl;exact k5) | refine Wl.nilCheck rfl rfl ?_ | apply Wl.nilB
     refine Mt.pu 15 ?_
     repeat' first | (apply Wl.on;exact rfl;exact rfl;exact k5) | refine Wl.fieldAddrZ rfl rfl ?_ | apply Wl.nilB
     refine Mt.pu 16 ?_
     repeat' first | (apply Wl.loadF;exact rfl;exact rfl;(intro w' h';first | exact cell_of h'.1.mm rfl | exact cell_of h'.1.dd rfl | exact cell_of h'.2 rfl)) | (apply Wl.on;exact rfl;exact rfl;exact k5) | apply Wl.nilB
     refine Mt.e1 19 ?_
     refine Wl.on rfl rfl (by first | exact rfl | (simp [dx0];omega)) ?_
     apply Wl.callC
     ·exact rfl
     ·exact kd
     intro wq6 hq6
     have hMq := hK.upd hq6.upd fun b hb y => y (hof3 b hb)
     have zq6 := hq6.upd.size
     have uq6 : Upd (fun k => w.heap.size ≤ k) w wq6 := hq6.on hwk k6
     have hcF : MonF {I' with sa := sa'} (⟨.slice a1 M.L.length c1,.slice a2 M.L.length c2,.slice none 0 0,.slice none 0 0,0,[],L',t',(fun j => if j = i then ((ls i).take k).map letV else bxK ls i j),[],0,insK ins' (i + 1) M.L.length,f',xz,0,cf'⟩ : Mv2) ch := .inr (.inr (.inr (.inr (.inr (.inr (.inr (.inr (.inr (.inr (.inl (List.mem_of_getElem? hch)))))))))))
     have hlk4 : ((fun j => if j = i then ((ls i).take k).map letV else bxK ls i j) i).length < 4 := by show (ite _ _ _ : List Value).length < 4;rw [if_pos rfl,List.length_map,List.length_take];omega
     refine (pSendOk _ _ _ _ i ch x wq6 hMq.post hch ⟨hgo.2,hx16⟩ hlk4).mono ?_
     rintro e wP ⟨rfl,hPP,uP⟩
     have zP := uP.size
     have hP0 := hMq.snd (List.mem_of_getElem? hch) hPP uP
     have hbx3 : (fun j => if j = i then (fun j => if j = i then ((ls i).take k).map letV else bxK ls i j) i ++ [letV x] else (fun j => if j = i then ((ls i).take k).map letV else bxK ls i j) j) = (fun j => if j = i then ((ls i).take (k + 1)).map letV else bxK ls i j) := funext fun j => by
      by_cases e : j = i
      ·simp only [if_pos e,if_pos True.intro];rw [take_snoc hx,List.map_append];rfl
      ·simp only [if_neg e]
     have hP : MonS wP w.heap.size {I' with sa := sa'} (⟨.slice a1 M.L.length c1,.slice a2 M.L.length c2,.slice none 0 0,.slice none 0 0,0,[],L',t',(fun j => if j = i then ((ls i).take (k + 1)).map letV else bxK ls i j),[],0,insK ins' (i + 1) M.L.length,f',xz,0,cf'⟩ : Mv2) := by rw [← hbx3];exact hP0
     have hwP : Upd (fun k => w.heap.size ≤ k) w wP := uq6.comp uP fun k' hk' hs => by rcases hs with h | h;exact h;rw [h];exact (hMq.lt ch hcF).1
     have hqP0 := Hp.restT hq6 uP (by simp only [List.mem_cons,List.not_mem_nil,or_false,forall_eq_or_imp,forall_eq];exact ⟨(hof3 ch hcF).1,(hof3 ch hcF).2.1,(hof3 ch hcF).2.2.1⟩)
     have hqP : Hp wP [⟨st,List.replicate M.L.length (Value.int .u32 0),25⟩,⟨cS,[.int .i64 t',.slice sa0 M.L.length sc0,.slice (some ⟨ib,io,none⟩) M.L.length ic0,.slice (some ⟨bb,bo,none⟩) M.L.length bc0,.slice la ll.length lc,.pointer (some ⟨cM',0,none⟩)],54⟩] wP := ⟨Upd.refl _ _,hqP0.own.2,hqP0.apart.2⟩
     have hcP := hqP0.own.at (.head _)
     have hofc : Off [⟨st,List.replicate M.L.length (Value.int .u32 0),25⟩,⟨cS,[.int .i64 t',.slice sa0 M.L.length sc0,.slice (some ⟨ib,io,none⟩) M.L.length ic0,.slice (some ⟨bb,bo,none⟩) M.L.length bc0,.slice la ll.length lc,.pointer (some ⟨cM',0,none⟩)],54⟩] c := hqP0.apart.1
     simp only at hcP
     refine ⟨_,_,rfl,hqP,?_⟩
     apply Wl.nil
     refine Mt.backE (fun _ h' => have kk := hP.upd h'.upd fun b hb y => y (hof2 b hb);⟨⟨kk.mm,kk.dd,h'.own.at (.tail _ (.head _)),h'.on hwP k6⟩,h'.upd.heap hcP fun y => y hofc⟩) ?_
     refine Mt.pu 20 ?_
     repeat' first | (apply Wl.on;exact rfl;exact rfl;exact k5) | (apply Wl.neqIs;exact rfl;exact rfl;exact rfl;exact kx) | apply Wl.nilB
     refine Mt.pu 21 ?_
     apply Wl.pickF;exact rfl;exact rfl;exact k5;exact rfl;apply Wl.nilB
     refine Mt.toGt kb ?_
     repeat' first | refine Wl.move rfl rfl ?_ | (refine Wl.addI rfl rfl rfl ?_ ?_;constructor <;> omega) | apply Wl.nil | apply St.region | (apply St.condF;exact rfl;exact k5) | apply St.skip | apply Gt.next | apply Gt.inNormal
     apply Gt.round (k + 1,wP)
     rotate_left
     ·simp only;omega
     ·exact kd
     ·exact fun _ h' => h'
     ·exact ⟨hkl,hP,⟨by omega,fun y hy => by rw [take_snoc hx] at hy;rcases List.mem_append.1 hy with h | h;exact hkok.2 y h;rw [List.mem_singleton.1 h];exact ⟨hfr,hgo.2⟩⟩,hwP⟩
    ·skip
     refine Mt.pf 0 ?_
     refine Mt.pu 1 ?_
     apply Wl.loadF;exact rfl;exact rfl;(intro w' h';first | exact cell_of h'.1.mm rfl | exact cell_of h'.1.dd rfl | exact cell_of h'.2 rfl);apply Wl.nilB
     refine Mt.pu 2 ?_
     refine Wl.lss rfl rfl rfl (Wl.nilB ?_)
     refine Mt.pm 3 ?_
     refine Mt.pu 4 ?_
     repeat' first | (apply Wl.on;exact rfl;exact rfl;exact k5) | refine Wl.fieldAddr0 rfl rfl ?_ | apply Wl.nilB
     refine Mt.pu 6 ?_
     repeat' first | refine Wl.move rfl rfl ?_ | (apply Wl.on;exact rfl;exact rfl;exact k5) | apply Wl.nilB
     refine Mt.pu 5 ?_
     repeat' first | (apply Wl.loadF;exact rfl;exact rfl;(intro w' h';first | exact cell_of h'.1.mm rfl | exact cell_of h'.1.dd rfl | exact cell_of h'.2 rfl)) | (apply Wl.on;exact rfl;exact rfl;exact k5) | apply Wl.nilB
     refine Mt.pu 7 ?_
     repeat' first | (apply Wl.on;exact rfl;exact rfl;exact k5) | refine Wl.geq rfl rfl rfl ?_ | apply Wl.nilB
     refine Mt.pu 8 ?_
     apply Wl.pickF;exact rfl;exact rfl;exact k5;exact rfl;apply Wl.nilB
     refine Mt.pm 9 ?_
     refine Mt.pu 10 ?_
     repeat' first | refine Wl.move rfl rfl ?_ | (apply Wl.on;exact rfl;exact rfl;exact k5) | apply Wl.nilB
     refine Mt.pu 17 ?_
     repeat' first | refine Wl.move rfl rfl ?_ | (apply Wl.on;exact rfl;exact rfl;exact k5) | apply Wl.nilB
     refine Mt.pu 18 ?_
     repeat' first | (apply Wl.loadAF (xs := lineC x);exact rfl;exact rfl;exact rfl;(intro w' h' q u hq';rw [addLit];exact cell_of h'.2 (by rw [Nat.zero_add];exact hq'))) | (apply Wl.on;exact rfl;exact rfl;exact k5) | apply Wl.nilB
     refine Mt.pu 11 ?_
     repeat' first | (apply Wl.on;exact rfl;exact rfl;exact k5) | refine Wl.nilCheck rfl rfl ?_ | apply Wl.nilB
     refine Mt.pu 12 ?_
     repeat' first | (apply Wl.on;exact rfl;exact rfl;exact k5) | refine Wl.fieldAddrZ rfl rfl ?_ | apply Wl.nilB
     refine Mt.pu 13 ?_
     repeat' first | (apply Wl.loadF;exact rfl;exact rfl;(intro w' h';first | exact cell_of h'.1.mm rfl | exact cell_of h'.1.dd rfl | exact cell_of h'.2 rfl)) | (apply Wl.on;exact rfl;exact rfl;exact k5) | apply Wl.nilB
     refine Mt.pu 14 ?_
     repeat' first | (apply Wl.on;exact rfl;exact rfl;exact k5) | refine Wl.nilCheck rfl rfl ?_ | apply Wl.nilB
     refine Mt.pu 15 ?_
     repeat' first | (apply Wl.on;exact rfl;exact rfl;exact k5) | refine Wl.fieldAddrZ rfl rfl ?_ | apply Wl.nilB
     refine Mt.pu 16 ?_
     repeat' first | (apply Wl.loadF;exact rfl;exact rfl;(intro w' h';first | exact cell_of h'.1.mm rfl | exact cell_of h'.1.dd rfl | exact cell_of h'.2 rfl)) | (apply Wl.on;exact rfl;exact rfl;exact k5) | apply Wl.nilB
     refine Mt.e1 19 ?_
     refine Wl.on rfl rfl (by first | exact rfl | (simp [dx0];omega)) ?_
     apply Wl.callC
     ·exact rfl
     ·exact kd
     intro wq6 hq6
     refine (pSendRef _ _ _ _ i ch x wq6 (hK.upd hq6.upd fun b hb y => y (hof3 b hb)).post hch hx16 (by by_cases h0 : x.2 = [];exact .inl h0;exact .inr (by show 4 ≤ (ite _ _ _ : List Value).length;rw [if_pos rfl,List.length_map,List.length_take];have : ¬ k < 4 := fun h => hgo ⟨h,h0⟩;omega))).mono ?_
     rintro e wr ⟨⟨r,hr0,rfl⟩,hr'⟩
     refine ⟨_,_,rfl,hq6.keep hr',?_⟩
     apply Wl.nil
     refine Mt.backE (fun _ h' => ⟨have kk := hK.upd h'.upd fun b hb y => y (hof3 b hb);⟨kk.mm,kk.dd,h'.own.at (.tail _ (.tail _ (.head _))),h'.on hwk k6⟩,h'.own.at (.head _)⟩) ?_
     refine Mt.pu 20 ?_
     repeat' first | (apply Wl.on;exact rfl;exact rfl;exact k5) | refine Wl.neq rfl rfl rfl ?_ | apply Wl.nilB
     refine Mt.pu 21 ?_
     apply Wl.pickF;exact rfl;exact rfl;exact k5;exact rfl;apply Wl.nilB
     refine Mt.toGt kb ?_
     repeat' first | refine Wl.assign rfl rfl ?_ | apply Wl.nil | apply St.seq | apply St.region | (apply St.condT;exact rfl;exact k5) | apply St.ret | apply Gt.next | apply Gt.thenRet | apply Gt.inRet | (apply Gt.out2;exact rfl;exact rfl;exact rfl;intro w' hp)
     exact .inr ⟨fun _ _ h3 => hgo ⟨by have := (h3 i hlt).1;omega,((h3 i hlt).2 x (List.mem_of_getElem? hx)).2⟩,rfl,hp.on hwk k6⟩
   ·have dx1 : decide (x.1 ≥ (M.L.length : Int)) = true := decide_eq_true kc
    refine Mt.pf 0 ?_
    refine Mt.pu 1 ?_
    apply Wl.loadF;exact rfl;exact rfl;(intro w' h';first | exact cell_of h'.1.mm rfl | exact cell_of h'.1.dd rfl | exact cell_of h'.2 rfl);apply Wl.nilB
    refine Mt.pu 2 ?_
    refine Wl.lss rfl rfl rfl (Wl.nilB ?_)
    refine Mt.pm 3 ?_
    refine Mt.pu 4 ?_
    repeat' first | (apply Wl.on;exact rfl;exact rfl;exact k5) | refine Wl.fieldAddr0 rfl rfl ?_ | apply Wl.nilB
    refine Mt.pu 6 ?_
    repeat' first | refine Wl.move rfl rfl ?_ | (apply Wl.on;exact rfl;exact rfl;exact k5) | apply Wl.nilB
    refine Mt.pu 5 ?_
    repeat' first | (apply Wl.loadF;exact rfl;exact rfl;(intro w' h';first | exact cell_of h'.1.mm rfl | exact cell_of h'.1.dd rfl | exact cell_of h'.2 rfl)) | (apply Wl.on;exact rfl;exact rfl;exact k5) | apply Wl.nilB
    refine Mt.pu 7 ?_
    repeat' first | (apply Wl.on;exact rfl;exact rfl;exact k5) | refine Wl.geq rfl rfl rfl ?_ | apply Wl.nilB
    refine Mt.pu 8 ?_
    apply Wl.pickF;exact rfl;exact rfl;exact k5;exact rfl;apply Wl.nilB
    refine Mt.pm 9 ?_
    refine Mt.po 10 ?_
    refine Mt.po 17 ?_
    refine Mt.po 18 ?_
    refine Mt.po 11 ?_
    refine Mt.po 12 ?_
    refine Mt.po 13 ?_
    refine Mt.po 14 ?_
    refine Mt.po 15 ?_
    refine Mt.po 16 ?_
    refine Mt.e1 19 ?_
    repeat' first | (apply Wl.off;exact rfl;exact rfl;exact rfl;exact kh) | apply Wl.nil
    refine Mt.backE (fun _ h' => ⟨have kk := hK.upd h'.upd fun b hb y => y (hof3 b hb);⟨kk.mm,kk.dd,h'.own.at (.tail _ (.tail _ (.head _))),h'.on hwk k6⟩,h'.own.at (.head _)⟩) ?_
    refine Mt.po 20 ?_
    refine Mt.pu 21 ?_
    apply Wl.pickT;exact rfl;exact rfl;exact k5;exact rfl;apply Wl.nilB
    refine Mt.toGt kb ?_
    repeat' first | refine Wl.assign rfl rfl ?_ | apply Wl.nil | apply St.seq | apply St.region | (apply St.condT;exact rfl;exact k5) | apply St.ret | apply Gt.next | apply Gt.thenRet | apply Gt.inRet | (apply Gt.out2;exact rfl;exact rfl;exact rfl;intro w' hp)
    exact .inr ⟨fun _ _ h3 => hfr ((h3 i hlt).2 x (List.mem_of_getElem? hx)).1,rfl,hp.on hwk k6⟩
  ·obtain rfl : k = (ls i).length := by omega
   have hd2 : decide (((ls i).length : Int) < ((ls i).length : Int)) = false := decide_eq_false kc
   rw [List.take_length] at hK hkok
   have hbx2 : (fun j => if j = i then (ls i).map letV else bxK ls i j) = bxK ls (i + 1) := funext fun j => by
    by_cases e : j = i
    ·rw [if_pos e,e];simp [bxK]
    ·rw [if_neg e];unfold bxK;by_cases h : j < i;(rw [if_pos h,if_pos kc]);rw [if_neg h,if_neg kc]
   rw [hbx2] at hK
   repeat' first | refine Wl.move rfl rfl ?_ | refine Wl.lss rfl rfl rfl ?_ | (refine Wl.addI rfl rfl rfl ?_ ?_;constructor <;> omega) | apply Wl.nil | apply St.seq | apply St.region | (apply St.condF;exact rfl;exact k5) | apply St.exit | apply Gt.next | apply Gt.thenExit | apply Gt.inNormal | apply Gt.inExit
   apply Gt.round (i + 1,wk)
   rotate_left
   ·simp only;omega
   ·exact kd
   ·exact fun _ h' => h'
   ·exact ⟨hlt,hK,⟨fun k' s' hk' hs' => by rcases Nat.lt_succ_iff_lt_or_eq.1 hk' with h | rfl;exact hok1.1 k' s' h hs';rw [hs] at hs';cases hs';exact hs64,fun j hj => by rcases Nat.lt_succ_iff_lt_or_eq.1 hj with h | rfl;exact hok1.2 j h;exact hkok⟩,hwk⟩
 ·obtain rfl : i = M.L.length := by omega
  have hd : decide ((M.L.length : Int) < (M.L.length : Int)) = false := decide_eq_false kc
  rw [insK_n ins' hil] at hM
  repeat' first | refine Wl.move rfl rfl ?_ | refine Wl.fieldAddrZ rfl rfl ?_ | (apply Wl.loadH;exact rfl;exact rfl;exact kd;exact rfl) | refine Wl.lss rfl rfl rfl ?_ | refine Wl.len rfl rfl ?_ | apply Wl.nil | apply St.seq | apply St.block | apply St.region | (apply St.condF;exact rfl;exact k5) | apply St.exit | apply Gt.next | apply Gt.thenExit | apply Gt.inExit
  have hMz : MonS wc w.heap.size {I' with sa := sa'} (⟨.slice a1 M.L.length c1,.slice a2 M.L.length c2,.slice none 0 0,.slice none 0 0,0,[],L',t',(bxK ls M.L.length),(ll.take 0),((usedL (ll.take 0) : Nat) : Int),ins',f',xz,0,cf'⟩ : Mv2) := by rw [List.take_zero];exact hM
  obtain ⟨cS,hcS⟩ : ∃ cS,cS = c := ⟨_,rfl⟩
  subst hcS
  refine St.loop (σ := Nat × World × Value) (fun τ => τ.1 ≤ ll.length ∧ MonS τ.2.1 w.heap.size {I' with sa := sa'} (⟨.slice a1 M.L.length c1,.slice a2 M.L.length c2,.slice none 0 0,τ.2.2,0,[],L',t',(bxK ls M.L.length),(ll.take τ.1),((usedL (ll.take τ.1) : Nat) : Int),ins',f',xz,0,cf'⟩ : Mv2) ∧ (∀ b,τ.2.2.ownBlock = some b → Off [⟨st,List.replicate M.L.length (Value.int .u32 0),25⟩,⟨cS,[.int .i64 t',.slice sa0 M.L.length sc0,.slice (some ⟨ib,io,none⟩) M.L.length ic0,.slice (some ⟨bb,bo,none⟩) M.L.length bc0,.slice la ll.length lc,.pointer (some ⟨cM',0,none⟩)],54⟩] b) ∧ (τ.1 = 0 → τ.2.2 = .slice none 0 0) ∧ Upd (fun k => w.heap.size ≤ k) w τ.2.1)
   (fun τ => [(3,.pointer (some ⟨cS,0,none⟩)),(6,.int .i64 M.L.length),(8,.pointer (some ⟨I'.m,0,none⟩)),(134,.slice la ll.length lc),(135,.int .i64 (ll.length : Int)),(136,.int .i64 (τ.1 : Int))]) (fun τ => Hp τ.2.1 [⟨st,List.replicate M.L.length (Value.int .u32 0),25⟩,⟨cS,[.int .i64 t',.slice sa0 M.L.length sc0,.slice (some ⟨ib,io,none⟩) M.L.length ic0,.slice (some ⟨bb,bo,none⟩) M.L.length bc0,.slice la ll.length lc,.pointer (some ⟨cM',0,none⟩)],54⟩]) (fun τ => ll.length - τ.1) (0,wc,.slice none 0 0) ⟨Nat.zero_le _,hMz,fun _ h => (by cases h),fun _ => rfl,hwc⟩ kq (fun _ h => h) ?_
  clear hMz hM
  rintro ⟨k,wk,lvk⟩ ⟨hk,hK,hlvo,hlv0,hwk⟩
  simp only at hk hK hlvo hlv0 hwk ⊢
  have zwk := hwk.size
  by_cases hkl : k < ll.length
  ·have hd2 : decide ((k : Int) < (ll.length : Int)) = true := decide_eq_true kc
   obtain ⟨⟨x1,x2⟩,hx⟩ : ∃ x,ll[k]? = some x := ⟨_,List.getElem?_eq_getElem hkl⟩
   obtain ⟨⟨hx0,hx1⟩,hx2,hx64⟩ := hll _ (List.mem_of_getElem? hx)
   simp only at hx0 hx1 hx2 hx64
   obtain ⟨who,rfl⟩ := Int.eq_ofNat_of_zero_le hx0
   have dx2 : decide (x2 = []) = false := decide_eq_false hx2
   have hgx : ∀ (q : Nat) (u : Value),(lineC ((who : Int),x2))[q]? = some u → (ll.map lineC).flatten[k * 2 + q]? = some u := fun q u hq => by
    rw [flat_get (k := 2) (fun y hy => by obtain ⟨z,_,rfl⟩ := List.mem_map.1 hy;rfl) (by rw [List.getElem?_map,hx];rfl) ((List.getElem?_eq_some_iff.1 hq).1)]
    exact hq
   obtain ⟨lb,lo,rfl,hlcs⟩ := hlc (fun e => by have := hgx 0 _ rfl;rw [e] at this;cases this)
   have hlx : ∀ (q : Nat) (u : Value),(lineC ((who : Int),x2))[q]? = some u → w.cell? (Addr.add ⟨lb,lo + (k : Int).toNat * 2,none⟩ q) = some u := fun q u hq => by
    obtain ⟨hj,e⟩ := List.getElem?_eq_some_iff.1 (hgx q u hq)
    rw [addLit,Int.toNat_natCast,Nat.add_assoc,hlcs _ hj,e]
   have hlb := World.block_lt_of_cell? w _ (hlx 0 _ rfl)
   rw [addLit] at hlb
   simp only at hlb
   have hlk : ∀ (q : Nat) (u : Value),(lineC ((who : Int),x2))[q]? = some u → wk.cell? (Addr.add ⟨lb,lo + (k : Int).toNat * 2,none⟩ q) = some u := fun q u hq => hwk.cell (hlx q u hq) (by rw [addLit];show ¬ w.heap.size ≤ lb;omega)
   repeat' first | (apply Wl.loadAF (xs := lineC ((who : Int),x2));exact rfl;exact rfl;exact rfl;(intro wq hq q u hq';exact hq.old (hlk q u hq') qi)) | refine Wl.lss rfl rfl rfl ?_ | (apply Wl.storeA;exact rfl;exact rfl;exact rfl;exact rfl;exact kd;exact kn) | (apply Wl.alloc;exact rfl;intro c hc ho) | (refine Wl.indexAddr rfl rfl rfl ?_ ?_;constructor <;> omega) | apply Wl.nil | apply St.seq | apply St.block | apply St.region | (apply St.condT;exact rfl;exact k5) | apply St.skip | apply Gt.next
   have lkc : wk.heap.size ≤ c := by assumption
   have hof4 : ∀ b,MonF {I' with sa := sa'} (⟨.slice a1 M.L.length c1,.slice a2 M.L.length c2,.slice none 0 0,lvk,0,[],L',t',(bxK ls M.L.length),(ll.take k),((usedL (ll.take k) : Nat) : Int),ins',f',xz,0,cf'⟩ : Mv2) b → Off [⟨c,[.int .i64 (who : Int),strV x2],111⟩,⟨st,List.replicate M.L.length (Value.int .u32 0),25⟩,⟨cS,[.int .i64 t',.slice sa0 M.L.length sc0,.slice (some ⟨ib,io,none⟩) M.L.length ic0,.slice (some ⟨bb,bo,none⟩) M.L.length bc0,.slice (some ⟨lb,lo,none⟩) ll.length lc,.pointer (some ⟨cM',0,none⟩)],54⟩] b := fun b hb => ⟨fun e => by have := (hK.lt b hb).2;simp only at e;omega,(MonF.lv (M := (⟨.slice a1 M.L.length c1,.slice a2 M.L.length c2,.slice none 0 0,.slice none 0 0,0,[],L',t',(bxK ls M.L.length),[],0,ins',f',xz,0,cf'⟩ : Mv2)) hb).elim (hof2 b) (hlvo b)⟩
   refine St.tree (fun w' => WiB w w' {I' with sa := sa'} (⟨.slice a1 M.L.length c1,.slice a2 M.L.length c2,.slice none 0 0,lvk,0,[],L',t',(bxK ls M.L.length),(ll.take k),((usedL (ll.take k) : Nat) : Int),ins',f',xz,0,cf'⟩ : Mv2) cS [.int .i64 t',.slice sa0 M.L.length sc0,.slice (some ⟨ib,io,none⟩) M.L.length ic0,.slice (some ⟨bb,bo,none⟩) M.L.length bc0,.slice (some ⟨lb,lo,none⟩) ll.length lc,.pointer (some ⟨cM',0,none⟩)] ∧ w'.heap[c]? = some (.cells #[.int .i64 (who : Int),strV x2] 111 (0,0))) mixed (fun _ h' => ⟨Hp.drew h',⟨have kk := hK.upd (Hp.drew h').upd fun b hb y => y (hof4 b hb);⟨kk.mm,kk.dd,(Hp.drew h').own.at (.tail _ (.tail _ (.head _))),(Hp.drew h').on hwk k6⟩,(Hp.drew h').own.at (.head _)⟩⟩) ?_
   refine Mt.pz 0 ?_
   refine Mt.pu 1 ?_
   apply Wl.loadF;exact rfl;exact rfl;(intro w' h';first | exact cell_of h'.1.mm rfl | exact cell_of h'.1.dd rfl | exact cell_of h'.2 rfl);apply Wl.nilB
   refine Mt.pu 2 ?_
   refine Wl.eqlSB rfl rfl rfl (Wl.nilB ?_)
   refine Mt.pm 3 ?_
   refine Mt.pu 4 ?_
   repeat' first | refine Wl.move rfl rfl ?_ | (apply Wl.on;exact rfl;exact rfl;exact k5) | apply Wl.nilB
   refine Mt.pu 11 ?_
   repeat' first | (apply Wl.on;exact rfl;exact rfl;exact k5) | refine Wl.fieldAddr0 rfl rfl ?_ | apply Wl.nilB
   refine Mt.pu 13 ?_
   repeat' first | (apply Wl.on;exact rfl;exact rfl;exact k5) | refine Wl.fieldAddrZ rfl rfl ?_ | apply Wl.nilB
   refine Mt.pu 5 ?_
   repeat' first | (apply Wl.on;exact rfl;exact rfl;exact k5) | refine Wl.nilCheck rfl rfl ?_ | apply Wl.nilB
   refine Mt.pu 12 ?_
   repeat' first | (apply Wl.loadF;exact rfl;exact rfl;(intro w' h';first | exact cell_of h'.1.mm rfl | exact cell_of h'.1.dd rfl | exact cell_of h'.2 rfl)) | (apply Wl.on;exact rfl;exact rfl;exact k5) | apply Wl.nilB
   refine Mt.pu 14 ?_
   repeat' first | (apply Wl.loadF;exact rfl;exact rfl;(intro w' h';first | exact cell_of h'.1.mm rfl | exact cell_of h'.1.dd rfl | exact cell_of h'.2 rfl)) | (apply Wl.on;exact rfl;exact rfl;exact k5) | apply Wl.nilB
   refine Mt.pu 6 ?_
   repeat' first | (apply Wl.on;exact rfl;exact rfl;exact k5) | refine Wl.fieldAddrZ rfl rfl ?_ | apply Wl.nilB
   refine Mt.pu 7 ?_
   repeat' first | (apply Wl.loadF;exact rfl;exact rfl;(intro w' h';first | exact cell_of h'.1.mm rfl | exact cell_of h'.1.dd rfl | exact cell_of h'.2 rfl)) | (apply Wl.on;exact rfl;exact rfl;exact k5) | apply Wl.nilB
   refine Mt.pu 8 ?_
   repeat' first | (apply Wl.on;exact rfl;exact rfl;exact k5) | refine Wl.nilCheck rfl rfl ?_ | apply Wl.nilB
   refine Mt.pu 9 ?_
   repeat' first | (apply Wl.on;exact rfl;exact rfl;exact k5) | refine Wl.fieldAddrZ rfl rfl ?_ | apply Wl.nilB
   refine Mt.pu 10 ?_
   repeat' first | (apply Wl.loadF;exact rfl;exact rfl;(intro w' h';first | exact cell_of h'.1.mm rfl | exact cell_of h'.1.dd rfl | exact cell_of h'.2 rfl)) | (apply Wl.on;exact rfl;exact rfl;exact k5) | apply Wl.nilB
   refine Mt.e1 15 ?_
   refine Wl.on rfl rfl (by exact dx2) ?_
   apply Wl.callC
   ·exact rfl
   ·exact kd
   intro wq7 hq7
   have hMq := hK.upd hq7.upd fun b hb y => y (hof4 b hb)
   have zq7 := hq7.upd.size
   have uq7 : Upd (fun k => w.heap.size ≤ k) w wq7 := hq7.on hwk k6
   have hus := usedL_take ll (k + 1)
   rw [take_snoc hx,usedL_snoc] at hus
   simp only at hus
   refine (bSay w.heap.size I'.bd I'.ia lvk (ll.take k) ((usedL (ll.take k) : Nat) : Int) ins' who x2 wq7 hMq.board (by rw [hil];omega) hx2 hx64 kc kc qs kc).mono ?_
   rintro e wB ⟨lv2,rfl,hBS,uB,oB⟩
   have zB := uB.size
   have hB0 := hMq.brd hBS uB
   have hB1 : MonS wB w.heap.size {I' with sa := sa'} (⟨.slice a1 M.L.length c1,.slice a2 M.L.length c2,.slice none 0 0,lv2,0,[],L',t',(bxK ls M.L.length),(ll.take (k + 1)),((usedL (ll.take (k + 1)) : Nat) : Int),ins',f',xz,0,cf'⟩ : Mv2) := by rw [take_snoc hx,usedL_snoc,Int.natCast_add];exact hB0
   have hwB : Upd (fun k => w.heap.size ≤ k) w wB := uq7.comp uB fun k' hk' hs => by rcases hs with h | h | h | h;exact h;rw [h];exact (hMq.lt I'.bd (.inr (.inr (.inr (.inr (.inr (.inr (.inr (.inl rfl))))))))).1;exact (hMq.lt k' (.inr (.inr (.inr (.inr (.inr (.inr (.inr (.inr (.inr (.inr (.inr (.inl h))))))))))))).1;omega
   have hltB : ∀ x : Blk,x ∈ _ → x.b < wq7.heap.size := fun x hx => hq7.own.lt hx
   simp only [List.mem_cons,List.not_mem_nil,or_false,forall_eq_or_imp,forall_eq] at hltB
   have hobd := hof4 I'.bd (.inr (.inr (.inr (.inr (.inr (.inr (.inr (.inl rfl))))))))
   have holv : ∀ b,lvk.ownBlock = some b → Off [⟨c,[.int .i64 (who : Int),strV x2],111⟩,⟨st,List.replicate M.L.length (Value.int .u32 0),25⟩,⟨cS,[.int .i64 t',.slice sa0 M.L.length sc0,.slice (some ⟨ib,io,none⟩) M.L.length ic0,.slice (some ⟨bb,bo,none⟩) M.L.length bc0,.slice (some ⟨lb,lo,none⟩) ll.length lc,.pointer (some ⟨cM',0,none⟩)],54⟩] b := fun b hb => hof4 b (.inr (.inr (.inr (.inr (.inr (.inr (.inr (.inr (.inr (.inr (.inr (.inl hb))))))))))))
   have hqB0 := Hp.restT hq7 uB (by simp only [List.mem_cons,List.not_mem_nil,or_false,forall_eq_or_imp,forall_eq];exact ⟨fun h => by rcases h with h | h | h;exact hobd.1 h;exact (holv _ h).1 rfl;omega,fun h => by rcases h with h | h | h;exact hobd.2.1 h;exact (holv _ h).2.1 rfl;omega,fun h => by rcases h with h | h | h;exact hobd.2.2.1 h;exact (holv _ h).2.2.1 rfl;omega⟩)
   have hqB : Hp wB [⟨st,List.replicate M.L.length (Value.int .u32 0),25⟩,⟨cS,[.int .i64 t',.slice sa0 M.L.length sc0,.slice (some ⟨ib,io,none⟩) M.L.length ic0,.slice (some ⟨bb,bo,none⟩) M.L.length bc0,.slice (some ⟨lb,lo,none⟩) ll.length lc,.pointer (some ⟨cM',0,none⟩)],54⟩] wB := ⟨Upd.refl _ _,hqB0.own.2,hqB0.apart.2⟩
   have hcB := hqB0.own.at (.head _)
   have hofc : Off [⟨st,List.replicate M.L.length (Value.int .u32 0),25⟩,⟨cS,[.int .i64 t',.slice sa0 M.L.length sc0,.slice (some ⟨ib,io,none⟩) M.L.length ic0,.slice (some ⟨bb,bo,none⟩) M.L.length bc0,.slice (some ⟨lb,lo,none⟩) ll.length lc,.pointer (some ⟨cM',0,none⟩)],54⟩] c := hqB0.apart.1
   simp only at hcB
   have hlv2 : ∀ b,lv2.ownBlock = some b → Off [⟨st,List.replicate M.L.length (Value.int .u32 0),25⟩,⟨cS,[.int .i64 t',.slice sa0 M.L.length sc0,.slice (some ⟨ib,io,none⟩) M.L.length ic0,.slice (some ⟨bb,bo,none⟩) M.L.length bc0,.slice (some ⟨lb,lo,none⟩) ll.length lc,.pointer (some ⟨cM',0,none⟩)],54⟩] b := fun b hb => (oB b hb).elim (hlvo b) fun h => ⟨fun e => by simp only at e;omega,fun e => by simp only at e;omega,trivial⟩
   refine ⟨_,_,rfl,hqB,?_⟩
   apply Wl.nil
   refine Mt.backE (fun _ h' => have kk := hB1.upd h'.upd fun b hb y => y ((MonF.lv (M := (⟨.slice a1 M.L.length c1,.slice a2 M.L.length c2,.slice none 0 0,.slice none 0 0,0,[],L',t',(bxK ls M.L.length),[],0,ins',f',xz,0,cf'⟩ : Mv2)) hb).elim (hof2 b) (hlv2 b));⟨⟨kk.mm,kk.dd,h'.own.at (.tail _ (.head _)),h'.on hwB k6⟩,h'.upd.heap hcB fun y => y hofc⟩) ?_
   refine Mt.pu 16 ?_
   repeat' first | (apply Wl.on;exact rfl;exact rfl;exact k5) | (apply Wl.neqIs;exact rfl;exact rfl;exact rfl;exact kx) | apply Wl.nilB
   refine Mt.pu 17 ?_
   apply Wl.pickF;exact rfl;exact rfl;exact k5;exact rfl;apply Wl.nilB
   refine Mt.toGt kb ?_
   repeat' first | refine Wl.move rfl rfl ?_ | (refine Wl.addI rfl rfl rfl ?_ ?_;constructor <;> omega) | apply Wl.nil | apply St.region | (apply St.condF;exact rfl;exact k5) | apply St.skip | apply Gt.next | apply Gt.inNormal
   apply Gt.round (k + 1,wB,lv2)
   rotate_left
   ·simp only;omega
   ·exact kd
   ·exact fun _ h' => h'
   ·exact ⟨hkl,hB1,hlv2,fun h => (Nat.succ_ne_zero _ h).elim,hwB⟩
  ·obtain rfl : k = ll.length := by omega
   have hd2 : decide ((ll.length : Int) < (ll.length : Int)) = false := decide_eq_false kc
   rw [List.take_length] at hK
   repeat' first | refine Wl.move rfl rfl ?_ | refine Wl.assign rfl rfl ?_ | refine Wl.lss rfl rfl rfl ?_ | apply Wl.nil | apply St.seq | apply St.region | (apply St.condF;exact rfl;exact k5) | apply St.ret | apply St.exit | apply Gt.next | apply Gt.thenExit | apply Gt.inExit | (apply Gt.out2;exact rfl;exact rfl;exact rfl;intro w' hp)
   have hK' := hK.upd hp.upd fun b hb y => y ((MonF.lv (M := (⟨.slice a1 M.L.length c1,.slice a2 M.L.length c2,.slice none 0 0,.slice none 0 0,0,[],L',t',(bxK ls M.L.length),[],0,ins',f',xz,0,cf'⟩ : Mv2)) hb).elim (hof2 b) (hlvo b))
   exact .inl ⟨⟨hset0,fun i s hi hs => hok1.1 i s hi hs,hok1.2⟩,{I' with sa := sa'},_,rfl,hK',by rw [hpv,hev],hp.on hwk k6,fun h => hlv0 (by rw [h];rfl)⟩
theorem at8192 (i : Nat) : (biasI i + 4096 - 2147483648).toNat = 8192 + 12288 * i := by unfold biasI;omega
theorem payX_at (i g : Nat) (ca : Int) : (payX i g ca)[33]? = some (.int .u32 (biasI i)) ∧ (payX i g ca)[34]? = some (.slice (some ⟨g,0,none⟩) 3 3) ∧ (payX i g ca)[35]? = some (.int .i64 ca) := by
 have h : (byteCells (dgL i)).length = 32 := by rw [byteCells_length,dgL_len]
 unfold payX
 refine ⟨?_,?_,?_⟩ <;> (rw [List.getElem?_append_right kc,h];rfl)
theorem payRs_len (gs : Nat → Nat) (ca : Nat → Int) (n : Nat) : ∀ x ∈ payRs gs ca n,x.length = 36 := by
 intro x hx
 unfold payRs at hx
 obtain ⟨j,_,rfl⟩ := List.mem_map.1 hx
 exact payX_len _ _ _
theorem payRs_at (gs : Nat → Nat) (ca : Nat → Int) {n j : Nat} (h : j < n) : (payRs gs ca n)[j]? = some (payX j (gs j) (ca j)) := by simp [payRs,h]
theorem payRs_set (gs : Nat → Nat) (ca ca' : Nat → Int) {n i : Nat} (h : i < n) (h' : ∀ j,j ≠ i → ca j = ca' j) : (payRs gs ca n).set i ((payX i (gs i) (ca i)).set 35 (.int .i64 (ca' i))) = payRs gs ca' n := by
 refine List.ext_getElem? fun q => ?_
 rw [List.getElem?_set]
 by_cases e : i = q
 ·subst e
  rw [if_pos rfl,if_pos (by simp [payRs];exact h),payRs_at _ _ h]
  unfold payX
  rw [List.set_append_right _ _ (by rw [byteCells_length,dgL_len];omega),byteCells_length,dgL_len]
  rfl
 ·rw [if_neg e]
  by_cases hq : q < n
  ·rw [payRs_at _ _ hq,payRs_at _ _ hq,h' q (fun e' => e e'.symm)]
  ·rw [List.getElem?_eq_none (by simp [payRs];omega),List.getElem?_eq_none (by simp [payRs];omega)]
section
variable {w w0 w' : World} {n i pb cM rb rm rn : Nat} {J : List Value} {gs eb ec : Nat → Nat} {ca : Nat → Int} {f : Nat → Int} {v6 v7 : Value}
theorem BegS.at (k : BegS w w0 n i pb J gs ca cM rb rm rn f v6 v7 eb ec) {j : Nat} (hj : j < n) : w0.cell? ⟨pb,0 + (j : Int).toNat * 36 + 33,none⟩ = some (.int .u32 (biasI j)) ∧ w0.cell? ⟨pb,0 + (j : Int).toNat * 36 + 34,none⟩ = some (.slice (some ⟨gs j,0,none⟩) 3 3) := by
 obtain ⟨h1,h2,h3⟩ := payX_at j (gs j) (ca j)
 have key : ∀ q v,q < 36 → (payX j (gs j) (ca j))[q]? = some v → w0.cell? ⟨pb,0 + (j : Int).toNat * 36 + q,none⟩ = some v := fun q v hq hv => by
  have hf := flat_get (payRs_len gs ca n) (payRs_at gs ca hj) hq
  rw [hv] at hf
  refine cell_of k.pay ?_
  rw [Int.toNat_natCast,Nat.zero_add,List.getElem?_append_left (List.getElem?_eq_some_iff.1 hf).1]
  exact hf
 exact ⟨key _ _ ku h1,key _ _ ku h2⟩
theorem BegS.size (k : BegS w w0 n i pb J gs ca cM rb rm rn f v6 v7 eb ec) : w.heap.size ≤ w0.heap.size := k.up.size
end
theorem mStatus (base : Nat) (I : Mi) (M : Mv2) (i : Nat) (x : Sta) (w : World) (hM : MonS w base I M) (hx : M.L[i]? = some x) :
  Calls Tryz.prog 18 #[.pointer (some ⟨I.m,0,none⟩),.int .i64 (i : Int)] w fun e w' => e = .returned (.agg x.cells.toArray) ∧ Hp w [] w' := by
 have q2 : w.cell? ⟨I.m,2,none⟩ = some (.pointer (some ⟨I.wd,0,none⟩)) := cell_of hM.mm rfl
 have lm := lt_of_block hM.mm
 have hxo : StaOk x := hM.ward.2.1 x (List.mem_of_getElem? hx)
 have hxl : x.cells.length = 35 := hxo.len
 have hx1 := hxo.one
 refine enter (args := [_,_]) (Γ := [(0,_),(1,_)]) Tryz.func18 Tryz.ntmps18 rfl odq (.cons rfl (.cons rfl .nil)) ?_
 repeat' first | (apply Wl.loadO;exact rfl;exact rfl;exact zx;exact km) | refine Wl.move rfl rfl ?_ | refine Wl.nilCheck rfl rfl ?_ | refine Wl.fieldAddrZ rfl rfl ?_ | refine Wl.eqlPN rfl rfl rfl ?_ | (apply Wl.alloc;exact rfl;intro c hc ho) | apply Wl.nil | apply St.seq | apply St.region | (apply St.condF;exact rfl;exact k5) | apply St.skip | apply Gt.next
 apply Wl.callQ
 exact rfl
 (focus repeat constructor)
 ·intro wq hq
  exact hq.q (wStatus I.wd I.sa M.L M.t i x wq (hM.hp hq q9).ward hx)
 repeat' first | (apply Wl.storeA (xs := x.cells);exact rfl;exact rfl;exact hxl;exact hx1;exact kd;exact .z (LOver.whole (by rw [hxl];rfl))) | (apply Gt.outC' (xs := x.cells);exact rfl;infer_instance;exact rfl;(exact .head _);exact LSub.whole' hxl;intro w' hp) | apply Wl.nil | apply St.ret | apply Gt.next
 exact ⟨rfl,hp.drop zi⟩
end Go.Proofs.YtabbklpalbikdaaGreatDoor
end
section
namespace Go.Pt
open Go.RowKit
theorem mapM_exS {α β : Type} {g : α → Option β} {l : List α} (h : ∀ x ∈ l,∃ y,g x = some y) : ∃ ys,l.mapM g = some ys := by
 induction l with
 | nil => exact ⟨[],rfl⟩
 | cons x r ih =>
  obtain ⟨y,hy⟩ := h x zd
  obtain ⟨ys,hys⟩ := ih fun z hz => h z (by simp [hz])
  exact ⟨y :: ys,by rw [List.mapM_cons,hy,hys];rfl⟩
section
variable {P : Program} {md : Md} {N : Nat} {ops : Array Oper} {rest : List Oper} {Γ : Env} {C : World → Prop} {Q : Exit → Act → World → Prop} {d : Nat} {ty : TypeId} {pos : String} {af : Array Edge} {t u : TypeId} {x y : Operand}
theorem Wl.neqSame {xs : Array Value} (hd : Nat.blt d N = true) (hx : ev Γ x = some (.agg xs)) (hy : ev Γ y = some (.agg xs)) (hk : P.keyTypeAt 8 t = true) (hg0 : P.eqGuardType P.depth t = false) (fx : (Value.agg xs).formed P t = true)
  (hl : ∃ la,P.keyLits 8 t xs.toList = some la) (h : Wl rest P md ops N ((d,.bool false) :: Γ) C Q) : Wl (⟨some d,.binOp .neq t x y u,ty,pos,af,none⟩ :: rest) P md ops N Γ C Q :=
 Wl.val hd (fun a w ha _ => by
  obtain ⟨la,hl⟩ := hl
  obtain ⟨r,_,h1,h3⟩ := run_neq_agg (P := P) w (t := t) hk fx fx hl hl
  have : r = true := h3.2 rfl
  subst this
  simp only [execOp,ha.ev hx,ha.ev hy,pure_bind,Sem.run_bind,guard_agg (P := P) hg0,Result.andThen_ok,h1];rfl) h
end
end Go.Pt
namespace Go.Proofs.YtabbklpalbikdaaGreatDoor
open Go.RowKit Go.Pt
theorem staFld : (match Tryz.prog.underlying 44 with
  | some (.struct fs) => fs.all fun f => (f.name != "_") && ((Nat.beq f.type 3 && Nat.beq f.offset 0) || ((Nat.beq f.type 25 && (Nat.beq f.offset 1 || Nat.beq f.offset 2)) || (Nat.beq f.type 42 && Nat.beq f.offset 3)))
  | _ => false) = true := by kernel_rfl
theorem klSta {x : Sta} (hx : StaOk x) (hs : IntKind.i64.min ≤ x.s ∧ x.s ≤ IntKind.i64.max) : ∃ la,Tryz.prog.keyLits 8 44 x.cells = some la := by
 have hF := staFld
 have hci : Tryz.prog.cellsOf 3 = 1 := by kernel_rfl
 have hcu : Tryz.prog.cellsOf 25 = 1 := by kernel_rfl
 have hca : Tryz.prog.cellsOf 42 = 32 := by kernel_rfl
 have hcp : Tryz.prog.cellsOf 44 = 35 := by kernel_rfl
 have ui : Tryz.prog.underlying 3 = some (.int .i64) := by kernel_rfl
 have uu : Tryz.prog.underlying 25 = some (.int .u32) := by kernel_rfl
 obtain ⟨g,hg,hgr⟩ := rgN hx.1
 cases hu : Tryz.prog.underlying 44 with
 | none => rw [hu] at hF;cases hF
 | some td =>
  rw [hu] at hF
  cases td <;> try (cases hF;done)
  rename_i fs
  simp only at hF
  show ∃ la,Tryz.prog.keyLits (7 + 1) _ _ = some la
  unfold Program.keyLits
  rw [hu]
  simp only
  have hall := Array.all_eq_true'.1 hF
  have hlen : x.cells.length = Tryz.prog.cellsOf 44 := by rw [hcp,hx.len]
  have hnames : (fs.all fun f => f.name != "_") = true := by
   rw [Array.all_eq_true']
   intro f hf
   have := hall f hf
   rw [Bool.and_eq_true] at this
   exact this.1
  rw [if_pos ⟨hlen,hnames⟩]
  obtain ⟨ys,hys⟩ := mapM_exS (g := fun f => Tryz.prog.keyLits 7 f.type ((x.cells.drop f.offset).take (Tryz.prog.cellsOf f.type))) (l := fs.toList) (fun f hf => by
   have := hall f (by simpa using hf)
   rw [Bool.and_eq_true,Bool.or_eq_true,Bool.or_eq_true,Bool.and_eq_true,Bool.and_eq_true,Bool.or_eq_true,Bool.and_eq_true] at this
   rcases this.2 with ⟨ht,ho⟩ | ⟨ht,ho | ho⟩ | ⟨ht,ho⟩
   ·rw [Nat.eq_of_beq_eq_true ht,Nat.eq_of_beq_eq_true ho,hci]
    exact ⟨_,klInt (d := 6) ui hs⟩
   ·rw [Nat.eq_of_beq_eq_true ht,Nat.eq_of_beq_eq_true ho,hcu]
    exact ⟨_,klInt (d := 6) uu (show (0 : Int) ≤ x.c ∧ x.c ≤ 4294967295 from ⟨hx.2.1.1,Int.le_of_lt_add_one hx.2.1.2⟩)⟩
   ·rw [Nat.eq_of_beq_eq_true ht,Nat.eq_of_beq_eq_true ho,hcu]
    exact ⟨_,klInt (d := 6) uu (show (0 : Int) ≤ x.p ∧ x.p ≤ 4294967295 from ⟨hx.2.2.1,Int.le_of_lt_add_one hx.2.2.2⟩)⟩
   ·rw [Nat.eq_of_beq_eq_true ht,Nat.eq_of_beq_eq_true ho,hca]
    have e : (x.cells.drop 3).take 32 = cellsN .u32 32 g := by
     show x.xs.take 32 = _
     rw [List.take_of_length_le (Nat.le_of_eq hx.1.1),hg]
    rw [e]
    exact ⟨_,klInts (d := 5) (e := 25) kt uu hca hcu g hgr⟩)
  rw [hys]
  exact ⟨_,rfl⟩
theorem formSta {x : Sta} (hx : StaOk x) : (Value.agg x.cells.toArray).formed Tryz.prog 44 = true := by
 have hF := staFld
 have hcp : Tryz.prog.cellsOf 44 = 35 := by kernel_rfl
 unfold Value.formed
 cases hu : Tryz.prog.underlying 44 with
 | none => rw [hu] at hF;cases hF
 | some td =>
  rw [hu] at hF
  cases td <;> try (cases hF;done)
  simp [hcp,hx.len]
section
variable {md : Md} {N : Nat} {ops : Array Oper} {rest : List Oper} {Γ : Env} {C : World → Prop} {Q : Exit → Act → World → Prop} {d : Nat} {ty : TypeId} {pos : String} {af : Array Edge} {u : TypeId} {x y : Operand}
theorem Wl.neqSta {s : Sta} (hs : StaOk s) (hi : IntKind.i64.min ≤ s.s ∧ s.s ≤ IntKind.i64.max) (hd : Nat.blt d N = true) (hx : ev Γ x = some (.agg s.cells.toArray)) (hy : ev Γ y = some (.agg s.cells.toArray))
  (h : Wl rest Tryz.prog md ops N ((d,.bool false) :: Γ) C Q) : Wl (⟨some d,.binOp .neq 44 x y u,ty,pos,af,none⟩ :: rest) Tryz.prog md ops N Γ C Q :=
 Wl.neqSame hd hx hy kt kt (formSta hs) (klSta hs hi) h
end
theorem mCount (base : Nat) (I : Mi) (M : Mv2) (w : World) (hM : MonS w base I M) :
  Calls Tryz.prog 38 #[.pointer (some ⟨I.m,0,none⟩)] w fun e w' => e = .returned (.int .i64 (M.L.length : Int)) ∧ Hp w [] w' := by
 have q2 : w.cell? ⟨I.m,2,none⟩ = some (.pointer (some ⟨I.wd,0,none⟩)) := cell_of hM.mm rfl
 refine enter (args := [_]) (Γ := [(0,_)]) Tryz.func38 Tryz.ntmps38 rfl odq (.cons rfl .nil) ?_
 repeat' first | (apply Wl.loadO;exact rfl;exact rfl;exact zx;exact km) | refine Wl.move rfl rfl ?_ | refine Wl.assign rfl rfl ?_ | refine Wl.nilCheck rfl rfl ?_ | refine Wl.fieldAddrZ rfl rfl ?_ | refine Wl.eqlPN rfl rfl rfl ?_ | apply Wl.nil | apply St.seq | apply St.region | (apply St.condF;exact rfl;exact k5) | apply St.skip | apply Gt.next
 apply Wl.callQ
 exact rfl
 (focus repeat constructor)
 ·intro wq hq
  exact hq.q (wCount I.wd I.sa M.L M.t wq (hM.ward.upd hq.upd nt0 nt0))
 repeat' first | refine Wl.assign rfl rfl ?_ | apply Wl.nil | apply St.ret | apply Gt.next | (apply Gt.out1;exact rfl;exact rfl;intro w' hp)
 exact ⟨rfl,hp⟩
def magL : List UInt8 := [80,79,82,84,83,78,65,80]
def decC (n : Nat) (l : List UInt8) : Option SnD :=
 if l.length < 32 then none else
  if digE (l.take (l.length - 32)) ≠ l.drop (l.length - 32) then none else
   if ((⟨l.take (l.length - 32),false⟩ : Cu).take 8).1 ≠ magL then none else stateC n ((⟨l.take (l.length - 32),false⟩ : Cu).take 8).2
def codeD (l : List UInt8) : Int := if l.length < 32 then 3 else if digE (l.take (l.length - 32)) ≠ l.drop (l.length - 32) then 7 else 3
theorem codeD_ne (l : List UInt8) : codeD l ≠ 0 := by
 unfold codeD
 split
 ·decide
 ·split <;> decide
theorem Bs.pre {w : World} {a : Option Addr} {n cap k : Nat} {l : List UInt8} (h : Bs w (.slice a n cap) l) (hk : k ≤ l.length) : Bs w (.slice a k cap) (l.take k) := by
 have hc : n = l.length ∧ n ≤ cap := by obtain ⟨h1,h2,_⟩ := h.len;exact ⟨h1.symm,h2⟩
 have := h.sub (lo := 0) (hi := k) (mx := cap) (Nat.zero_le _) hk kc (Nat.le_refl _)
 have e : (if cap = 0 then a else a.map (·.add (0 * 1))) = a := by
  split
  ·rfl
  ·cases a with
   | none => rfl
   | some x => simp [Addr.add]
 rw [e] at this
 simpa using this
theorem svBlk {w : World} {c sz n : Nat} {cs : List Value} {t : TypeId} {fr : Nat × Nat} (h : w.heap[c]? = some (.cells cs.toArray t fr)) (hl : cs.length = n * sz) (hn : n ≤ maxLen) : Sv w sz n (.slice (some ⟨c,0,none⟩) n n) cs := by
 refine ⟨hl,_,_,rfl,Nat.le_refl _,hn,fun e => (by cases e),fun _ => ⟨c,0,rfl,fun i hi => ?_⟩⟩
 rw [cellAt h]
 simp [hi]
theorem digCells (l : List UInt8) : cellsN .u8 32 (Sha.of l) = byteCells (digE l) := by
 simp only [digE,byteCells,List.map_map,cellsN]
 refine List.map_congr_left fun j hj => ?_
 simp only [Function.comp]
 have : Sha.of l j < 256 := Nat.mod_lt _ ku
 rw [UInt8.toNat_ofNat',Nat.mod_eq_of_lt this]
theorem SnT.new {w w1 : World} {base : Nat} {S : SnD} {sv iv bv lv : Value} {cM : Nat} {vs : List Value} (h : SnT w base S sv iv bv lv cM vs) (u : Upd (fun k => w.heap.size ≤ k) w w1) : SnT w1 base S sv iv bv lv cM vs := by
 have kr : ∀ {y : Value} {e sz n : Nat} {xs : List Value},w.ownsRow base e sz y n xs → w1.ownsRow base e sz y n xs := fun hr => ownsRow_upd hr u fun k hk hS => by have := (hr.ge k hk).2;omega
 exact ⟨kr h.s,kr h.i,kr h.b,⟨h.bl.1,fun j x hx => by obtain ⟨v,e1,e2⟩ := h.bl.2 j x hx;exact ⟨v,e1,kr e2⟩⟩,kr h.l,u.heap h.m fun hS => by have := lt_of_block h.m;omega⟩
theorem SnT.baseLe {w : World} {base base' : Nat} {S : SnD} {sv iv bv lv : Value} {cM : Nat} {vs : List Value} (h : SnT w base S sv iv bv lv cM vs) (hb : base' ≤ base) : SnT w base' S sv iv bv lv cM vs :=
 ⟨h.s.baseLe hb,h.i.baseLe hb,h.b.baseLe hb,⟨h.bl.1,fun j x hx => by obtain ⟨v,e1,e2⟩ := h.bl.2 j x hx;exact ⟨v,e1,e2.baseLe hb⟩⟩,h.l.baseLe hb,h.m⟩
theorem SnT.one {w : World} {base : Nat} {S : SnD} {sv iv bv lv : Value} {cM : Nat} {vs : List Value} (h : SnT w base S sv iv bv lv cM vs) : sv.oneCell' = true ∧ iv.oneCell' = true ∧ bv.oneCell' = true ∧ lv.oneCell' = true := ⟨h.s.one,h.i.one,h.b.one,h.l.one⟩
theorem sDecodeZ (R : World → Ending → World → Prop) (base : Nat) (I : Mi) (M : Mv2) (v : Value) (l : List UInt8) (w : World) (hM : MonS w base I M) (hn : M.L.length < 256) (hv : Bs w v l) (hvb : ∀ k,v.ownBlock = some k → l ≠ [] → k < w.heap.size) (hl : l.length ≤ 10000000) (hK : ArrAt w 1 0 .u32 64 Sha.K)
  (hW : ∀ S,decC M.L.length l = some S → ∀ ws sv iv bv lv cM vs,SnT ws w.heap.size S sv iv bv lv cM vs → w.heap.size ≤ cM → Upd (fun k => w.heap.size ≤ k) w ws → MonS ws base I M →
   Calls Tryz.prog 29 #[.pointer (some ⟨I.m,0,none⟩),.agg #[.int .i64 S.t,sv,iv,bv,lv,.pointer (some ⟨cM,0,none⟩)]] ws fun e w' => (∃ x z,e = .returned (.tuple #[x,.int .i64 z])) ∧ Upd (fun k => ws.heap.size ≤ k) ws w' ∧ R ws e w') :
  Calls Tryz.prog 47 #[v,.pointer (some ⟨I.m,0,none⟩)] w fun e w' =>
   (decC M.L.length l = none ∧ Upd (fun k => w.heap.size ≤ k) w w' ∧ e = .returned (.tuple #[.pointer none,.int .i64 (codeD l)])) ∨
   ∃ S,decC M.L.length l = some S ∧ ∃ ws w1,Upd (fun k => w.heap.size ≤ k) w ws ∧ Upd (fun k => ws.heap.size ≤ k) ws w1 ∧ R ws e w1 ∧ Upd (fun k => w.heap.size ≤ k ∧ k < ws.heap.size) w1 w' := by
 obtain ⟨a,cap,rfl,hc,hcm⟩ := hv.shape
 refine enter (args := [_,_]) (Γ := [(0,_),(1,_)]) Tryz.func47 Tryz.ntmps47 rfl odq (.cons rfl (.cons rfl .nil)) ?_
 by_cases h32 : l.length < 32
 ·have hd : decide ((l.length : Int) - 32 < 0) = true := decide_eq_true kc
  have e0 : decC M.L.length l = none := if_pos h32
  repeat' first | refine Wl.move rfl rfl ?_ | refine Wl.assign rfl rfl ?_ | refine Wl.eqlPN rfl rfl rfl ?_ | refine Wl.lss rfl rfl rfl ?_ | (refine Wl.subI rfl rfl rfl ?_ ?_;constructor <;> omega) | refine Wl.len rfl rfl ?_ | apply Wl.nil | apply St.seq | apply St.region | (apply St.condT;exact rfl;exact k5) | (apply St.condF;exact rfl;exact k5) | apply St.ret | apply St.skip | apply Gt.next | apply Gt.thenRet | (apply Gt.out2;exact rfl;exact rfl;exact rfl;intro w' hp)
  exact .inl ⟨e0,hp.upd.mono fun _ _ y => (y trivial).elim,by rw [show codeD l = 3 from if_pos h32]⟩
 have hd : decide ((l.length : Int) - 32 < 0) = false := decide_eq_false kc
 have hkk : ((l.length : Int) - 32).toNat = l.length - 32 := by omega
 have hp0 : Bs w (.slice a ((l.length : Int) - 32).toNat cap) (l.take (l.length - 32)) := by rw [hkk];exact Bs.pre hv kc
 have hp1 : Bs w (.slice (if cap = ((l.length : Int) - 32).toNat then a else a.map (·.add (((l.length : Int) - 32).toNat * 1))) (l.length - ((l.length : Int) - 32).toNat) (cap - ((l.length : Int) - 32).toNat)) (l.drop (l.length - 32)) := by
  have := hv.sub (lo := ((l.length : Int) - 32).toNat) (hi := l.length) (mx := cap) kc (Nat.le_refl _) kc (Nat.le_refl _)
  rw [List.take_length] at this
  rw [hkk] at this ⊢
  exact this
 generalize hl0 : l.take (l.length - 32) = l0 at *
 have hl0n : l0.length = l.length - 32 := by rw [← hl0,List.length_take];omega
 have hvb0 : ∀ {m : Nat} (k : Nat),(Value.slice a m cap).ownBlock = some k → l0 ≠ [] → k < w.heap.size := fun {m} k hk hne => hvb k (by cases a <;> exact hk) fun h => hne (by rw [← hl0,h];simp)
 repeat' first | refine Wl.move rfl rfl ?_ | refine Wl.assign rfl rfl ?_ | refine Wl.eqlPN rfl rfl rfl ?_ | refine Wl.lss rfl rfl rfl ?_ | (refine Wl.subI rfl rfl rfl ?_ ?_;constructor <;> omega) | refine Wl.len rfl rfl ?_ | (apply Wl.slice0;exact rfl;exact rfl;exact kw;exact kw;exact zk;omega;omega) | apply Wl.nil | apply St.seq | apply St.region | (apply St.condF;exact rfl;exact k5) | apply St.skip | apply Gt.next
 apply Wl.callQ
 exact rfl
 (focus repeat constructor)
 ·intro wq hq
  exact hq.q (shaOf _ l0 wq (hp0.upd hq.upd fun _ _ _ _ y => y trivial) kc (fun hne k hk => by have := hvb0 k hk hne;have := hq.upd.size;omega) (hK.upd hq.upd fun y => y trivial))
 repeat' first | (apply Wl.alloc;exact rfl;intro c hc ho)
 apply Wl.storeAll
 ·exact rfl
 ·exact rfl
 ·exact .here
 ·exact cellsN_len _ _ _
 ·exact rfl
 ·exact cellsN_one _ _ _
 have hDig : ∀ w' : World,w'.heap[c]? = some (.cells (cellsN .u8 32 (Sha.of l0)).toArray 107 (0,0)) → Bs w' (.slice (some ⟨c,0,none⟩) 32 32) (digE l0) := fun w' h => by
  rw [digCells] at h
  have := svBlk (sz := 1) (n := 32) h (by rw [byteCells_length];simp [digE]) (by unfold maxLen;omega)
  have e : (digE l0).length = 32 := by simp [digE]
  unfold Bs
  rw [e]
  exact this
 have hne32 : l ≠ [] := fun h => by rw [h] at h32;simp at h32
 have hoffc : ∀ {m m' : Nat} (k : Nat),(Value.slice (if cap = m then a else a.map (·.add (m * 1))) m' (cap - m)).ownBlock = some k → c = k → False := fun {m m'} k hk e => by
  have : k < w.heap.size := hvb k (by
   split at hk
   ·cases a <;> exact hk
   ·cases a with
    | none => exact hk
    | some x =>
     simp [Value.ownBlock,Addr.add] at hk ⊢
     split at hk <;> simpa using hk) hne32
  omega
 by_cases hdg : digE l0 = l.drop (l.length - 32)
 ·have hdd : decide (digE l0 ≠ l.drop (l.length - 32)) = false := by simp [hdg]
  have hcd : codeD l = 3 := by unfold codeD;rw [if_neg h32,hl0,if_neg (fun h => h hdg)]
  repeat' first | (apply Wl.sliceArrW;exact rfl;exact rfl;decide) | (apply Wl.convBS (l := digE l0);exact rfl;exact rfl;(intro w' h';exact hDig w' (h'.own.at (.head _)))) | (apply Wl.convBS (l := l.drop (l.length - 32));exact rfl;exact rfl;(intro w' h';exact hp1.upd h'.upd fun k hk hlt hne y => y ⟨fun e => hoffc k hk e,trivial⟩)) | refine Wl.move rfl rfl ?_ | refine Wl.neqSB rfl rfl rfl ?_ | (apply Wl.slice0;exact rfl;exact rfl;exact kw;exact kw;exact zk;omega;omega) | (apply Wl.sliceFull;exact rfl;exact rfl;exact kw;exact kw;exact kw;exact zk;omega;omega;omega) | apply Wl.nil | apply Wl.nilQ | apply St.seq | apply St.region | (apply St.draw;exact mixed;(kernel_rfl);exact (fun _ h => Hp.drew h)) | (apply St.condF;exact rfl;exact k5) | apply St.skip | apply Gt.next
  refine Wl.reb (H' := []) fun w2 h2 => ⟨trivial,trivial,?_⟩
  have u2 : Upd (fun k => w.heap.size ≤ k) w w2 := h2.upd.mono fun k _ y => by have := in_off y;simp at this;omega
  have z2 := u2.size
  have hM2 := hM.new u2 (Nat.le_refl _)
  have hp2 := hp0.upd u2 fun k hk hlt hne y => by omega
  apply Wl.callC
  ·exact rfl
  ·exact kd
  intro wq hq
  have zq := hq.upd.size
  refine (cuAt _ l0 wq (hp2.upd hq.upd fun _ _ _ _ y => y trivial) (fun k hk hne => by have := hvb0 k hk hne;omega)).mono ?_
  rintro e w3 ⟨ca,rfl,hca,hc3,u3'⟩
  have u3 : Upd (fun k => w.heap.size ≤ k) w w3 := (u2.comp hq.upd (T := fun k => w.heap.size ≤ k) fun k _ h => h.elim id fun y => (y trivial).elim).comp u3' fun k _ h => h.elim id fun h => by omega
  have z3 := u3'.size
  clear hq
  refine ⟨_,_,rfl,Hp.start w3,?_⟩
  repeat' first | refine Wl.move rfl rfl ?_ | refine Wl.assign rfl rfl ?_ | apply Wl.nil | apply St.seq | apply St.region | apply Gt.next
  apply Wl.callC
  ·exact rfl
  ·exact kd
  intro wq hq
  have zq' := hq.upd.size
  refine (cuTake ca _ l0 _ wq 8 (hc3.upd hq.upd nt0 fun _ _ _ _ y => y trivial)).mono ?_
  rintro e w4 ⟨x,rfl,hx,hc4,u4'⟩
  have u4 : Upd (fun k => w.heap.size ≤ k) w w4 := (u3.comp hq.upd (T := fun k => w.heap.size ≤ k) fun k _ h => h.elim id fun y => (y trivial).elim).comp u4' fun k _ h => h.elim id fun h => by omega
  have z4 := u4'.size
  clear hq
  have hx4 := hx w4 hc4.s
  refine ⟨_,_,rfl,Hp.start w4,?_⟩
  by_cases hmg : ((⟨l0,false⟩ : Cu).take 8).1 = magL
  ·have hdm : decide (((⟨l0,false⟩ : Cu).take 8).1 ≠ magL) = false := by simp [hmg]
   have hdec : decC M.L.length l = stateC M.L.length ((⟨l0,false⟩ : Cu).take 8).2 := by
    unfold decC
    rw [if_neg h32,hl0,if_neg (by simp [hdg]),if_neg (by simp [hmg])]
   repeat' first | (apply Wl.convBSo;exact rfl;exact rfl;exact hx4;(exact fun _ _ _ _ => trivial)) | (apply Wl.neqSB (q := magL);exact rfl;exact rfl;exact rfl) | refine Wl.move rfl rfl ?_ | apply Wl.nil | apply St.seq | apply St.region | (apply St.condF;exact rfl;exact k5) | apply St.skip | apply Gt.next
   apply Wl.callQ
   exact rfl
   (focus repeat constructor)
   ·intro wq hq
    exact hq.q (mCount base I M wq ((hM.new u4 (Nat.le_refl _)).upd hq.upd fun _ _ y => y trivial))
   apply Wl.callC
   ·exact rfl
   ·exact kd
   intro wq hq
   have zq2 := hq.upd.size
   refine (sState ca _ l0 _ M.L.length wq (hc4.upd hq.upd nt0 fun _ _ _ _ y => y trivial) (fun k hk hne => by have := hvb0 k hk hne;omega) hn).mono ?_
   rintro e w5 ⟨hans,u5'⟩
   have u5 : Upd (fun k => w.heap.size ≤ k) w w5 := (u4.comp hq.upd (T := fun k => w.heap.size ≤ k) fun k _ h => h.elim id fun y => (y trivial).elim).comp u5' fun k _ h => h.elim id fun h => h.elim (fun h => by omega) fun h => by omega
   have z5 := u5'.size
   clear hq
   rcases hsc : stateC M.L.length ((⟨l0,false⟩ : Cu).take 8).2 with _ | S
   ·rw [hsc] at hans
    obtain ⟨x0,x1,x2,x3,x4,x5,rfl,hone⟩ := hans
    refine ⟨_,_,rfl,Hp.start w5,?_⟩
    repeat' first | (apply Wl.storeA;exact rfl;exact rfl;exact rfl;exact hone;exact kd;exact .z (LOver.whole rfl)) | refine Wl.move rfl rfl ?_ | refine Wl.assign rfl rfl ?_ | refine Wl.extract rfl rfl rfl ?_ | refine Wl.not rfl rfl ?_ | (apply Wl.alloc;exact rfl;intro c hc ho) | apply Wl.nil | apply St.seq | apply St.region | (apply St.condT;exact rfl;exact k5) | apply St.ret | apply Gt.next | apply Gt.thenRet | (apply Gt.out2;exact rfl;exact rfl;exact rfl;intro w' hp)
    exact .inl ⟨hdec.trans hsc,u5.comp hp.upd fun k _ h => h.elim id fun y => j2,by rw [hcd]⟩
   ·rw [hsc] at hans
    obtain ⟨sv,iv,bv,lv,cM,vs,rfl,hT,hcM⟩ := hans
    obtain ⟨o1,o2,o3,o4⟩ := hT.one
    refine ⟨_,_,rfl,Hp.start w5,?_⟩
    repeat' first | (apply Wl.storeA;exact rfl;exact rfl;exact rfl;(show (true && (Value.oneCell' sv && (Value.oneCell' iv && (Value.oneCell' bv && (Value.oneCell' lv && (true && true)))))) = true;rw [o1,o2,o3,o4];rfl);exact kd;exact .z (LOver.whole rfl)) | refine Wl.move rfl rfl ?_ | refine Wl.assign rfl rfl ?_ | refine Wl.extract rfl rfl rfl ?_ | refine Wl.not rfl rfl ?_ | (apply Wl.loadAH;exact rfl;exact rfl;exact kd;exact kd) | (apply Wl.alloc;exact rfl;intro c hc ho) | apply Wl.nil | apply St.seq | apply St.region | (apply St.condF;exact rfl;exact k5) | apply St.skip | apply Gt.next
    generalize c = c9 at *
    have hc9 : w5.heap.size ≤ c9 := by assumption
    apply Wl.callC
    ·exact rfl
    ·exact kd
    intro wq2 hq
    have k9 : ∀ {cs t} (k : Nat),¬ Off [(⟨c9,cs,t⟩ : Blk)] k → k = c9 := fun k y => by have := in_off y;simpa using this
    have u6 : Upd (fun k => w.heap.size ≤ k) w wq2 := u5.comp hq.upd fun k _ h => h.elim id fun y => (by have := k9 k y;omega)
    have lq9 : c9 < wq2.heap.size := lt_of_block (hq.own.at (.head _))
    refine (hW S (hdec.trans hsc) wq2 sv iv bv lv cM vs ((hT.new (hq.upd.mono fun k _ y => by have := k9 k y;omega)).baseLe kc) kc u6 (hM.new u6 (Nat.le_refl _))).mono ?_
    rintro e w7 ⟨⟨x',z,rfl⟩,u7,hR⟩
    have hH : Hp w7 _ w7 := ⟨Upd.refl _ _,hq.own.upd u7 q9,hq.apart⟩
    refine ⟨_,_,rfl,hH,?_⟩
    clear hq hH
    repeat' first | refine Wl.assign rfl rfl ?_ | refine Wl.extract rfl rfl rfl ?_ | apply Wl.nil | apply St.ret | apply Gt.next | (apply Gt.out2;exact rfl;exact rfl;exact rfl;intro w' hp)
    exact .inr ⟨S,hdec.trans hsc,wq2,w7,u6,u7,hR,hp.upd.mono fun k _ y => j2⟩
  ·have hdm : decide (((⟨l0,false⟩ : Cu).take 8).1 ≠ magL) = true := by simp [hmg]
   have e0 : decC M.L.length l = none := by unfold decC;rw [if_neg h32,hl0,if_neg (by simp [hdg]),if_pos hmg]
   repeat' first | (apply Wl.convBSo;exact rfl;exact rfl;exact hx4;(exact fun _ _ _ _ => trivial)) | (apply Wl.neqSB (q := magL);exact rfl;exact rfl;exact rfl) | refine Wl.assign rfl rfl ?_ | apply Wl.nil | apply St.seq | apply St.region | (apply St.condT;exact rfl;exact k5) | apply St.ret | apply Gt.next | apply Gt.thenRet | (apply Gt.out2;exact rfl;exact rfl;exact rfl;intro w' hp)
   exact .inl ⟨e0,u4.comp hp.upd fun k _ h => h.elim id fun y => (y trivial).elim,by rw [hcd]⟩
 ·have hdd : decide (digE l0 ≠ l.drop (l.length - 32)) = true := by simp [hdg]
  have e0 : decC M.L.length l = none := by unfold decC;rw [if_neg h32,hl0,if_pos hdg]
  repeat' first | (apply Wl.sliceArrW;exact rfl;exact rfl;decide) | (apply Wl.convBS (l := digE l0);exact rfl;exact rfl;(intro w' h';exact hDig w' (h'.own.at (.head _)))) | (apply Wl.convBS (l := l.drop (l.length - 32));exact rfl;exact rfl;(intro w' h';exact hp1.upd h'.upd fun k hk hlt hne y => y ⟨fun e => hoffc k hk e,trivial⟩)) | refine Wl.move rfl rfl ?_ | refine Wl.assign rfl rfl ?_ | refine Wl.neqSB rfl rfl rfl ?_ | (apply Wl.sliceFull;exact rfl;exact rfl;exact kw;exact kw;exact kw;exact zk;omega;omega;omega) | apply Wl.nil | apply Wl.nilQ | apply St.seq | apply St.region | (apply St.draw;exact mixed;(kernel_rfl);exact (fun _ h => Hp.drew h)) | (apply St.condT;exact rfl;exact k5) | apply St.ret | apply Gt.next | apply Gt.thenRet | (apply Gt.out2;exact rfl;exact rfl;exact rfl;intro w' hp)
  exact .inl ⟨e0,hp.upd.mono fun k _ y => j2,by rw [show codeD l = 7 by unfold codeD;rw [if_neg h32,hl0,if_pos hdg]]⟩
theorem sDecode (R : World → Ending → World → Prop) (base : Nat) (I : Mi) (M : Mv2) (v : Value) (l : List UInt8) (w : World) (hM : MonS w base I M) (hn : M.L.length < 256) (hv : Bs w v l) (hvb : ∀ k,v.ownBlock = some k → l ≠ [] → k < w.heap.size) (hl : l.length ≤ 10000000) (hK : ArrAt w 1 0 .u32 64 Sha.K)
  (hW : ∀ S,decC M.L.length l = some S → ∀ ws sv iv bv lv cM vs,SnT ws w.heap.size S sv iv bv lv cM vs → w.heap.size ≤ cM → Upd (fun k => w.heap.size ≤ k) w ws → MonS ws base I M →
   Calls Tryz.prog 29 #[.pointer (some ⟨I.m,0,none⟩),.agg #[.int .i64 S.t,sv,iv,bv,lv,.pointer (some ⟨cM,0,none⟩)]] ws fun e w' => (∃ x z,e = .returned (.tuple #[x,.int .i64 z])) ∧ Upd (fun k => ws.heap.size ≤ k) ws w' ∧ R ws e w') :
  Calls Tryz.prog 47 #[v,.pointer (some ⟨I.m,0,none⟩)] w fun e w' =>
   (decC M.L.length l = none ∧ Upd (fun k => w.heap.size ≤ k) w w' ∧ ∃ z : Int,z ≠ 0 ∧ e = .returned (.tuple #[.pointer none,.int .i64 z])) ∨
   ∃ S,decC M.L.length l = some S ∧ ∃ ws w1,Upd (fun k => w.heap.size ≤ k) w ws ∧ Upd (fun k => ws.heap.size ≤ k) ws w1 ∧ R ws e w1 ∧ Upd (fun k => w.heap.size ≤ k ∧ k < ws.heap.size) w1 w' :=
 (sDecodeZ R base I M v l w hM hn hv hvb hl hK hW).mono fun e w' h => h.imp (fun h => ⟨h.1,h.2.1,codeD l,codeD_ne l,h.2.2⟩) id
def wordV : Value → Nat
 | .int _ n => n.toNat
 | _ => 0
def staE (x : Sta) : List UInt8 := UInt8.ofNat x.s.toNat :: (leB 4 x.c.toNat ++ leB 4 x.p.toNat ++ (x.xs.map fun v => leB 4 (wordV v)).flatten)
def letE (x : Int × List UInt8) : List UInt8 := UInt8.ofNat x.1.toNat :: txtE x.2
def letsE (l : List (Int × List UInt8)) : List UInt8 := (l.map letE).flatten
def rowE (x : Sta) (s : List UInt8) (l : List (Int × List UInt8)) : List UInt8 := staE x ++ txtE s ++ (UInt8.ofNat l.length :: letsE l)
def rowsE : List Sta → List (List UInt8) → List (List (Int × List UInt8)) → List UInt8
 | x :: L,s :: ins,l :: bx => rowE x s l ++ rowsE L ins bx
 | _,_,_ => []
def turnE (t : Int) : UInt8 := UInt8.ofNat (if t < 0 then 255 else t.toNat)
def headE (n : Nat) (t : Int) : List UInt8 := magL ++ [UInt8.ofNat n,turnE t]
def linesE (ll : List (Int × List UInt8)) : List UInt8 := leB 2 ll.length ++ letsE ll
def bodyE (n : Nat) (t : Int) (L : List Sta) (ins : List (List UInt8)) (bx : List (List (Int × List UInt8))) (ll : List (Int × List UInt8)) (f : Nat → Int) : List UInt8 :=
 headE n t ++ rowsE L ins bx ++ linesE ll ++ runsE 65536 (memL f 0 65536)
def encE (n : Nat) (t : Int) (L : List Sta) (ins : List (List UInt8)) (bx : List (List (Int × List UInt8))) (ll : List (Int × List UInt8)) (f : Nat → Int) : List UInt8 := bodyE n t L ins bx ll f ++ digE (bodyE n t L ins bx ll f)
theorem rowsE_snoc : ∀ (L : List Sta) (ins : List (List UInt8)) (bx : List (List (Int × List UInt8))) (x : Sta) (s : List UInt8) (l : List (Int × List UInt8)),L.length = ins.length → L.length = bx.length → rowsE (L ++ [x]) (ins ++ [s]) (bx ++ [l]) = rowsE L ins bx ++ rowE x s l
 | [],[],[],_,_,_,_,_ => by simp [rowsE]
 | _ :: L,_ :: ins,_ :: bx,x,s,l,h1,h2 => by
  simp only [List.cons_append,rowsE]
  rw [rowsE_snoc L ins bx x s l (by simpa using h1) (by simpa using h2),List.append_assoc]
theorem txtE_len (s : List UInt8) : (txtE s).length = 2 + s.length := by simp [txtE,leB_length]
theorem staE_len {x : Sta} (h : x.xs.length = 32) : (staE x).length = 137 := by
 have e : ∀ l : List Value,((l.map fun v => leB 4 (wordV v)).flatten).length = 4 * l.length := by
  intro l
  induction l with
  | nil => rfl
  | cons a r ih => simp only [List.map_cons,List.flatten_cons,List.length_append,leB_length,ih,List.length_cons];omega
 simp only [staE,List.length_cons,List.length_append,leB_length,e,h]
theorem letsE_len {m : Nat} : ∀ {l : List (Int × List UInt8)},(∀ x ∈ l,x.2.length ≤ m) → (letsE l).length ≤ l.length * (m + 3)
 | [],_ => by simp [letsE]
 | x :: r,h => by
  have := letsE_len (l := r) fun y hy => h y (.tail _ hy)
  have h0 := h x (.head _)
  simp only [letsE,List.map_cons,List.flatten_cons,List.length_append,letE,List.length_cons,txtE_len] at this ⊢
  rw [Nat.add_mul]
  omega
structure EnJ (w1 w : World) (D : List Nat) (bv : Value) (l : List UInt8) : Prop where
 u : Upd (fun k => w1.heap.size ≤ k) w1 w
 row : Bo w w1.heap.size bv l
 o : ∀ k,bv.ownBlock = some k → k ∉ D
 d : ∀ k,k ∈ D → w1.heap.size ≤ k
section
variable {w1 w w2 wa : World} {D : List Nat} {bv bv' : Value} {l l' news : List UInt8} {H : List Blk}
theorem EnJ.hp (h : EnJ w1 w D bv l) (hq : Hp w H w2) (e : H.map Blk.b = D) : EnJ w1 w2 D bv l :=
 ⟨h.u.comp hq.upd fun k _ hs => hs.elim id fun y => h.d k (e ▸ in_off y),h.row.upd hq.upd fun k hk y => h.o k hk (e ▸ in_off y),h.o,h.d⟩
theorem EnJ.call (h : EnJ w1 w D bv l) (hD : ∀ k,k ∈ D → k < w.heap.size) (r1 : Bo w2 w1.heap.size bv' l') (r2 : Upd (fun k => bv.ownBlock = some k) w w2) (r3 : ∀ k,bv'.ownBlock = some k → bv.ownBlock = some k ∨ w.heap.size ≤ k) : EnJ w1 w2 D bv' l' :=
 ⟨h.u.comp r2 fun k _ hs => hs.elim id fun y => h.row.base y,r1,fun k hk hd => (r3 k hk).elim (fun e => h.o k e hd) fun e => by have := hD k hd;omega,h.d⟩
theorem EnJ.hpc (h : EnJ w1 w D bv l) (hq : Hp wa H w) (e : H.map Blk.b = D) (r2 : Upd (fun k => bv.ownBlock = some k) w w2) : Hp w2 H w2 ∧ ∀ k,k ∈ D → k < w.heap.size :=
 ⟨⟨Upd.refl _ _,hq.own.upd r2 fun x hx hk => h.o _ hk (e ▸ List.mem_map_of_mem hx),hq.apart⟩,fun k hk => by
  obtain ⟨x,hx,rfl⟩ := List.mem_map.1 (e ▸ hk)
  exact hq.own.lt hx⟩
theorem EnJ.new (h : EnJ w1 w D bv l) {k : Nat} (hk : w.heap.size ≤ k) : EnJ w1 w (k :: D) bv l :=
 ⟨h.u,h.row,fun j hj hd => by
  rcases List.mem_cons.1 hd with rfl | hd
  ·have := (h.row.lt j hj).2;omega
  ·exact h.o j hj hd,fun j hj => by
  rcases List.mem_cons.1 hj with rfl | hj
  ·have := h.u.size;omega
  ·exact h.d j hj⟩
theorem EnJ.pop {k : Nat} (h : EnJ w1 w (k :: D) bv l) : EnJ w1 w D bv l := ⟨h.u,h.row,fun j hj hd => h.o j hj (.tail _ hd),fun j hj => h.d j (.tail _ hj)⟩
theorem EnJ.app {v' : Value} {n : Nat} {cs : List Value} (h : EnJ w1 w D bv l) (e : H.map Blk.b = D) (a1 : w2.ownsRow w1.heap.size 5 1 v' n (byteCells l ++ cs)) (hn : n = l.length + news.length) (hc : cs = byteCells news) (a2 : Upd (fun k => bv.ownBlock = some k ∨ ¬ Off H k) w w2) (a4 : ∀ k,v'.ownBlock = some k → Off H k ∧ (bv.ownBlock = some k ∨ w.heap.size ≤ k)) : EnJ w1 w2 D v' (l ++ news) :=
 ⟨h.u.comp a2 fun k _ hs => hs.elim id fun y => y.elim h.row.base fun y => h.d k (e ▸ in_off y),Bo.of a1 hn hc,fun k hk hd => by
  obtain ⟨x,hx,e'⟩ := List.mem_map.1 (e ▸ hd)
  exact (a4 k hk).1.at hx e',h.d⟩
end
end Go.Proofs.YtabbklpalbikdaaGreatDoor
end
section
namespace Go.Pt
theorem Wl.appendG {P : Program} {N : Nat} {ops : Array Oper} {rest : List Oper} {Γ : Env} {Q : Exit → Act → World → Prop} {d : Nat} {ty : TypeId} {pos : String} {af : Array Edge} {w0 : World} {H : List Blk} {t e sz by_ n m cap c : Nat} {z : Value} {olds news : List Value} {b ad : Addr} {s x : Operand} [ht : TyD P t (.slice e)] [hs : TyS P e sz by_] [hz : TyZ P e z]
  (hd : Nat.blt d N = true) (hs' : ev Γ s = some (.slice (some b) n cap)) (hx : ev Γ x = some (.slice (some ad) m c)) (hlo : olds.length = n * sz) (holds : ∀ w,Hp w0 H w → ∀ j u,olds[j]? = some u → w.cell? (b.add j) = some u)
  (hl : news.length = m * sz) (hnews : ∀ w,Hp w0 H w → ∀ j u,news[j]? = some u → w.cell? (ad.add j) = some u) (hg : cap < n + m) (hzs : z.cells.size = sz) (hsz : 0 < sz) (h63 : n + m ≤ maxLen) (hb : (n + m) * by_ ≤ 140737488355328)
  (h : ∀ v' w1,w1.ownsRow w0.heap.size e sz v' (n + m) (olds ++ news) → Hp w0 H w1 → (∀ k,v'.ownBlock = some k → Off H k) → Wl rest P .seq ops N ((d,v') :: Γ) (Hp w1 H) Q) :
  Wl (⟨some d,.call { callee := .builtin .append,args := #[s,x],argTypes := #[t,t] },ty,pos,af,none⟩ :: rest) P .seq ops N Γ (Hp w0 H) Q :=
 Wl.eff fun a w ha hw => by
  obtain ⟨i,hi,hsz'⟩ := Option.map_eq_some_iff.1 hs.out
  have hzi : i.zero = some z := by have := hz.out;rw [hi] at this;exact this
  simp only [Prod.mk.injEq] at hsz'
  obtain ⟨v',w',hrun,ho,hgr⟩ := run_append_arg_grows (P := P) w t ty e i z sz by_ ht.out hi hzi hsz'.1 hsz'.2 hzs hsz b n cap olds hlo (holds w hw) ad m c news hl (hnews w hw) hg h63 hb
  have u : Upd (fun _ => False) w w' := Upd.grown hgr fun k hk => by cases hk
  have hw' : Hp w0 H w' := hw.step u (fun _ _ x => x) fun _ _ x => x.elim
  have ho' : w'.ownsRow w0.heap.size e sz v' (n + m) (olds ++ news) := by
   obtain ⟨h1,h2⟩ := ho
   refine ⟨h1,?_⟩
   rcases h2 with h2 | ⟨g,cap',cur,e1,hb',hx'⟩
   ·exact .inl h2
   ·exact .inr ⟨g,cap',cur,e1,Nat.le_trans hw.upd.size hb',hx'⟩
  refine ⟨v',w',.inl ?_,(h v' w' ho' hw' fun k hk => ?_).elim _ _ (ha.put hd _) hw'.rebase⟩
  ·simp [execOp,resolve,invoke,builtin,ha.ev hs',ha.ev hx,hrun]
  ·have := (ho.lt k hk).1
   exact Off.of fun y hy e => by have := hw.own.lt hy;omega
end Go.Pt
end
section
namespace Go.Pt
open Go.RowKit
theorem run_conv_mk2 {P : Program} {w : World} {t e : TypeId} {c n m : Nat} {cs : Array Value} {fr : Nat × Nat} (ht : P.underlying t = some (.slice e)) (he : P.underlying e = some (.int .u8)) (h : w.heap[c]? = some (.cells cs e fr)) :
  ∃ w' fr',(convert t t (.slice (some ⟨c,0,none⟩) n m)).run P w = .ok (.slice (some ⟨c,0,none⟩) n m) w' ∧ w'.heap[c]? = some (.cells cs e fr') ∧ Upd (· = c) w w' := by
 have hsh : w.shape? c = some (e,cs.size) := by unfold World.shape?;rw [h]
 have hlt := lt_of_block h
 refine ⟨w.freeze ⟨c,cs.size,none⟩ 1,if fr.1 == fr.2 then (cs.size,cs.size + 1) else (min fr.1 cs.size,max fr.2 (cs.size + 1)),?_,?_,?_⟩
 ·simp [convert,run_underlying ht,run_underlying he,markStringish,hsh]
 ·have h' : w.heap[c] = .cells cs e fr := by simpa [Array.getElem?_eq_getElem hlt] using h
  unfold World.freeze
  rw [if_neg ku]
  show (w.heap.modify c _)[c]? = _
  rw [Array.getElem?_eq_getElem (by simpa using hlt),Array.getElem_modify_self,h']
 ·refine ⟨rfl,rfl,rfl,by simp [World.freeze],fun k hk hs => ?_⟩
  unfold World.freeze
  rw [if_neg ku]
  show (w.heap.modify c _)[k]? = _
  rw [Array.getElem?_modify,if_neg (fun e => hs e.symm)]
theorem Wl.convMk2 {P : Program} {N : Nat} {ops : Array Oper} {rest : List Oper} {Γ : Env} {Q : Exit → Act → World → Prop} {d T : Nat} {ty : TypeId} {pos : String} {af : Array Edge} {t : TypeId} {x : Operand} {w0 : World} {H : List Blk} {c n : Nat} {cs : List Value} (l : List UInt8) [ht : TyD P t (.slice T)] [he : TyD P T (.int .u8)] (hd : Nat.blt d N = true)
  (hx : ev Γ x = some (.slice (some ⟨c,0,none⟩) n n)) (hn : n = l.length) (hcs : cs = byteCells l) (hl : l.length ≤ maxLen) (hc0 : w0.heap.size ≤ c)
  (h : ∀ w1,Bs w1 (.slice (some ⟨c,0,none⟩) n n) l → Upd (fun k => ¬ Off H k) w0 w1 → Own w1 H → Apart H → Off H c → c < w1.heap.size → Wl rest P .seq ops N ((d,.slice (some ⟨c,0,none⟩) n n) :: Γ) (Hp w1 H) Q) :
  Wl (⟨some d,.convert t t x,ty,pos,af,none⟩ :: rest) P .seq ops N Γ (Hp w0 (⟨c,cs,T⟩ :: H)) Q :=
 Wl.eff fun a w ha hw => by
  subst hcs hn
  obtain ⟨w',fr',hr,hc,hu⟩ := run_conv_mk2 (P := P) (w := w) (t := t) (n := l.length) (m := l.length) ht.out he.out hw.own.1
  have hown : Own w' H := hw.own.2.upd hu fun y hy e => (hw.apart.1).at hy (by simpa using e)
  refine ⟨_,w',.inl ?_,(h w' (Bs.ofBlk hc hl) ?_ hown hw.apart.2 hw.apart.1 (lt_of_block hc)).elim _ _ (ha.put hd _) ⟨Upd.refl _ _,hown,hw.apart.2⟩⟩
  ·simp only [execOp,ha.ev hx]
   simp [hr]
  ·exact hw.upd.comp hu fun k hk hs => hs.elim (fun y e => y ⟨fun e' => by simp only at e';omega,e⟩) fun e => by have e' : k = c := e;exact absurd e' kc
end Go.Pt
namespace Go.Proofs.YtabbklpalbikdaaGreatDoor
open Go.RowKit Go.Pt
theorem svShape {w : World} {sz n : Nat} {v : Value} {cs : List Value} (h : Sv w sz n v cs) : ∃ a cap,v = .slice a n cap := by
 obtain ⟨_,a,c,rfl,_⟩ := h
 exact ⟨a,c,rfl⟩
theorem svCells {w : World} {sz n cap : Nat} {a : Option Addr} {cs : List Value} (h : Sv w sz n (.slice a n cap) cs) (hne : cs ≠ []) : ∃ b off,a = some ⟨b,off,none⟩ ∧ b < w.heap.size ∧ ∀ (i : Nat) u,cs[i]? = some u → w.cell? ⟨b,off + i,none⟩ = some u := by
 obtain ⟨_,a',c,e,_,_,_,hc⟩ := h
 cases e
 obtain ⟨b,off,rfl,hb⟩ := hc hne
 have key : ∀ (i : Nat) u,cs[i]? = some u → w.cell? ⟨b,off + i,none⟩ = some u := fun i u hu => by
  obtain ⟨h1,h2⟩ := List.getElem?_eq_some_iff.1 hu
  rw [hb i h1,h2]
 refine ⟨b,off,rfl,?_,key⟩
 obtain ⟨x,r,rfl⟩ := List.exists_cons_of_ne_nil hne
 exact World.block_lt_of_cell? w _ (key 0 x rfl)
def bxs (ls : Nat → List (Int × List UInt8)) (n : Nat) : List (List (Int × List UInt8)) := (List.range n).map ls
theorem sEncode (base : Nat) (I : Mi) (M : Mv2) (ls : Nat → List (Int × List UInt8)) (w : World) (hM : MonS w base I M) (hb : base ≤ w.heap.size) (hbx : ∀ i,i < M.L.length → M.bx i = (ls i).map letV ∧ (ls i).length ≤ 4) (hll : M.ll.length ≤ 1000) (hn : M.L.length ≤ 16) (hFB : FB M.f) (hins : ∀ s ∈ M.ins,s.length ≤ 64)
  (hlx : ∀ i,i < M.L.length → ∀ x ∈ ls i,x.2.length ≤ 16 ∧ 0 ≤ x.1 ∧ x.1 < 256) (hly : ∀ x ∈ M.ll,x.2.length ≤ 64 ∧ 0 ≤ x.1 ∧ x.1 < 256) (hs : ∀ x ∈ M.L,0 ≤ x.s ∧ x.s < 256) (ht : -1 ≤ M.t ∧ M.t < 255) (hK : ArrAt w 1 0 .u32 64 Sha.K) (hKI : ∀ k,Zc I ls k → k ≠ 1) :
  Calls Tryz.prog 44 #[.pointer (some ⟨I.m,0,none⟩)] w fun e w' => ∃ v',e = .returned v' ∧ Bo w' w.heap.size v' (encE M.L.length (turnV M.t) M.L M.ins (bxs ls M.L.length) M.ll M.f) ∧ MonS w' base I M ∧ Upd (fun k => Zc I ls k ∨ w.heap.size ≤ k) w w' := by
 have hok := hM.ward.2.1
 have hlen := hM.len
 have hll' := hll
 refine enter (args := [_]) (Γ := [(0,_)]) Tryz.func44 Tryz.ntmps44 rfl odq (.cons rfl .nil) ?_
 repeat' first | refine Wl.move rfl rfl ?_ | refine Wl.assign rfl rfl ?_ | refine Wl.eqlPN rfl rfl rfl ?_ | apply Wl.nil | apply St.seq | apply St.region | (apply St.condF;exact rfl;exact k5) | apply St.skip | apply Gt.next
 apply Wl.callC
 ·exact rfl
 ·exact kd
 intro wq hq
 have zq := hq.upd.size
 refine (mStateL base I M ls wq (hM.upd hq.upd fun _ _ y => y trivial) kc hbx hll).mono ?_
 rintro e w1 ⟨sv,iv,bv,lv,cM,vs,rfl,hT,hcM,hM1,u1'⟩
 have u1 : Upd (fun k => Zc I ls k ∨ w.heap.size ≤ k) w w1 := Upd.comp (S := fun k => Zc I ls k ∨ w.heap.size ≤ k) (hq.upd.mono fun _ _ y => (y trivial).elim) u1' fun k _ h => h.elim id fun h => h.imp id fun h => by omega
 have z1 := u1'.size
 obtain ⟨aS,cs,rfl⟩ := svShape (Sv.ofOwn hT.s)
 obtain ⟨ai,ci,rfl⟩ := svShape (Sv.ofOwn hT.i)
 obtain ⟨ab,cb,rfl⟩ := svShape (Sv.ofOwn hT.b)
 obtain ⟨al,cl,rfl⟩ := svShape (Sv.ofOwn hT.l)
 clear hq
 refine ⟨_,_,rfl,Hp.start w1,?_⟩
 repeat' first | (apply Wl.storeA;exact rfl;exact rfl;exact rfl;exact rfl;exact kd;exact kn) | (apply Wl.alloc;exact rfl;intro c hc ho) | apply Wl.nil | apply Gt.next
 generalize c = c3 at *
 have hc3 : w1.heap.size ≤ c3 := by assumption
 refine St.cut (σ := World × Nat) (fun τ => Upd (fun k => w1.heap.size ≤ k) w1 τ.1 ∧ Bs τ.1 (.slice (some ⟨τ.2,0,none⟩) 8 8) magL ∧ w1.heap.size ≤ τ.2 ∧ τ.2 < τ.1.heap.size ∧ τ.2 ≠ c3) (fun τ => [(0,.pointer (some ⟨I.m,0,none⟩)),(2,.slice none 0 0),(3,.pointer (some ⟨c3,0,none⟩)),(4,.slice (some ⟨τ.2,0,none⟩) 8 8)]) (fun τ => Hp τ.1 [⟨c3,[.int .i64 (turnV M.t),.slice aS M.L.length cs,.slice ai M.L.length ci,.slice ab M.L.length cb,.slice al M.ll.length cl,.pointer (some ⟨cM,0,none⟩)],54⟩]) ?_ ?_
 ·repeat' first | (apply Wl.lit;exact rfl;exact kj;exact rfl;exact rfl;exact ke;intro c hc ho) | apply St.region
  apply Wl.convMk2 magL
  ·exact rfl
  ·exact rfl
  ·exact rfl
  ·exact rfl
  ·unfold maxLen;decide
  ·assumption
  intro wM hBs uM _ _ offM ltM
  repeat' first | refine Wl.assign rfl rfl ?_ | apply Wl.nil
  refine Gt.meet (wM,_) ⟨uM.mono fun k _ y => j2,hBs,by assumption,ltM,fun e => offM.1 e.symm⟩ kq (fun _ h => h)
 rintro ⟨wc,c8⟩ ⟨uC,hB8,h81,h82,h83⟩
 try simp only at uC hB8 h81 h82 h83 ⊢
 have htv : turnV M.t = -1 ∨ (0 ≤ turnV M.t ∧ turnV M.t < 255) := by unfold turnV;split <;> omega
 have hne : ([.int .u8 (M.L.length : Int),.int .u8 (IntKind.u8.wrap (turnV M.t))] : List Value) = byteCells [UInt8.ofNat M.L.length,turnE (turnV M.t)] := by
  have h1 : (UInt8.ofNat M.L.length).toNat = M.L.length := by rw [UInt8.toNat_ofNat',Nat.mod_eq_of_lt kc]
  have h2 : IntKind.u8.wrap (turnV M.t) = (((turnE (turnV M.t)).toNat : Nat) : Int) := by
   unfold turnE
   rcases htv with h | h
   ·rw [h];decide
   ·rw [if_neg kc,wrap8,show turnV M.t % 256 = turnV M.t by omega]
  simp only [byteCells,List.map_cons,List.map_nil,h1,h2]
 repeat' first | refine Wl.move rfl rfl ?_ | refine Wl.fieldAddr0 rfl rfl ?_ | refine Wl.fieldAddrZ rfl rfl ?_ | (apply Wl.loadH;exact rfl;exact rfl;exact kd;exact rfl) | (refine Wl.convU8 rfl rfl ?_ ?_;constructor <;> omega) | refine Wl.convI rfl rfl ?_ | refine Wl.len rfl rfl ?_ | (apply Wl.lit;exact rfl;exact kj;exact rfl;exact rfl;exact ke;intro c hc ho) | apply St.seq | apply St.region
 apply Wl.appendG (olds := byteCells magL) (news := [.int .u8 (M.L.length : Int),.int .u8 (IntKind.u8.wrap (turnV M.t))])
 ·exact rfl
 ·exact rfl
 ·exact rfl
 ·exact rfl
 ·intro w' hw' j u hj
  have hb' : Bs w' (.slice (some ⟨c8,0,none⟩) 8 8) magL := hB8.upd hw'.upd fun k hk _ _ y => by
   have h8 : k = c8 := by cases hk;rfl
   have := in_off y
   simp only [List.map_cons,List.map_nil,List.mem_cons,List.not_mem_nil,or_false] at this
   omega
  obtain ⟨g,og,e,hc'⟩ := hb'.cells ku
  cases e
  obtain ⟨h1,h2⟩ := List.getElem?_eq_some_iff.1 hj
  rw [addLit,hc' j (by simpa [byteCells] using h1),← h2]
  simp [byteCells]
 ·exact rfl
 ·intro w' hw' j u hj
  rw [addLit]
  exact hw'.cell (.head _) (by simpa using hj)
 ·omega
 ·exact rfl
 ·decide
 ·unfold maxLen;decide
 ·decide
 intro v' w5 a1 h5 a4
 repeat' first | refine Wl.move rfl rfl ?_ | refine Wl.assign rfl rfl ?_ | refine Wl.fieldAddrZ rfl rfl ?_ | (apply Wl.loadH;exact rfl;exact rfl;exact kd;exact rfl) | refine Wl.len rfl rfl ?_ | apply Wl.nil | apply St.seq | apply St.block | apply St.region | apply Gt.next
 refine St.reb (H' := [⟨c3,[.int .i64 (turnV M.t),.slice aS M.L.length cs,.slice ai M.L.length ci,.slice ab M.L.length cb,.slice al M.ll.length cl,.pointer (some ⟨cM,0,none⟩)],54⟩]) fun wd hd => ⟨hd.own.2,hd.apart.2,?_⟩
 have hJ : EnJ w1 wd [c3] v' (headE M.L.length (turnV M.t)) := by
  have hoff : ∀ {xs t ys t'} (k : Nat),¬ Off [(⟨c,xs,t⟩ : Blk),⟨c3,ys,t'⟩] k → k = c ∨ k = c3 := fun k y => by
   have := in_off y
   simpa only [List.map_cons,List.map_nil,List.mem_cons,List.not_mem_nil,or_false] using this
  refine ⟨(uC.comp h5.upd (T := fun k => w1.heap.size ≤ k) fun k _ h => h.elim id fun y => by have := hoff k y;have := uC.size;omega).comp hd.upd fun k _ h => h.elim id fun y => by have := hoff k y;have := uC.size;omega,?_,fun k hk hm => ?_,fun k hk => by simp at hk;omega⟩
  ·have := (Bo.of (l := magL) a1 rfl hne).upd hd.upd fun k hk y => y (a4 k hk)
   exact World.ownsRow.baseLe this uC.size
  ·simp at hm
   subst hm
   exact (a4 _ hk).2.1 rfl
 have hbl : (bxs ls M.L.length).length = M.L.length := by simp [bxs]
 have hLn : M.L ≠ [] := fun h => by have := hM.ward.2.2;rw [h] at this;simp at this
 obtain ⟨gs,os,rfl,hgs,hsta⟩ := svCells (Sv.ofOwn hT.s) (fun h => by
  have h1 : ((stas M.L).flatten).length = 0 := by rw [h];rfl
  obtain ⟨x,r,e⟩ := List.exists_cons_of_ne_nil hLn
  rw [e] at h1
  simp [stas,Sta.cells] at h1)
 obtain ⟨gi,oi,rfl,hgi,hinp⟩ := svCells (Sv.ofOwn hT.i) (fun h => by
  have h1 : (M.ins.map strV).length = 0 := by rw [h];rfl
  obtain ⟨x,r,e⟩ := List.exists_cons_of_ne_nil hLn
  have := hlen.2
  rw [e] at this
  simp at h1
  rw [h1] at this
  simp at this)
 obtain ⟨gb,ob,rfl,hgb,hbox⟩ := svCells (Sv.ofOwn hT.b) (fun h => by
  have h1 := hT.bl.1
  obtain ⟨x,r,e⟩ := List.exists_cons_of_ne_nil hLn
  rw [h,e] at h1
  simp at h1)
 have hat : ∀ (i : Nat) x,M.L[i]? = some x → ∀ q u,x.cells[q]? = some u → w1.cell? (Addr.add ⟨gs,os + i * 35,none⟩ q) = some u := fun i x hx q u hq => by
  have hq35 : q < 35 := by have := (List.getElem?_eq_some_iff.1 hq).1;rw [(hok x (List.mem_of_getElem? hx)).len] at this;exact this
  have := hsta (i * 35 + q) u qw
  rw [addLit,Nat.add_assoc]
  exact this
 refine St.loop (σ := Nat × World × Value) (fun τ => τ.1 ≤ M.L.length ∧ EnJ w1 τ.2.1 [c3] τ.2.2 (headE M.L.length (turnV M.t) ++ rowsE (M.L.take τ.1) (M.ins.take τ.1) ((bxs ls M.L.length).take τ.1)) ∧ (headE M.L.length (turnV M.t) ++ rowsE (M.L.take τ.1) (M.ins.take τ.1) ((bxs ls M.L.length).take τ.1)).length ≤ 10 + 300 * τ.1)
  (fun τ => [(0,.pointer (some ⟨I.m,0,none⟩)),(2,.slice none 0 0),(3,.pointer (some ⟨c3,0,none⟩)),(4,τ.2.2),(32,.slice (some ⟨gs,os,none⟩) M.L.length cs),(33,.int .i64 (M.L.length : Int)),(34,.int .i64 (τ.1 : Int))]) (fun τ => Hp τ.2.1 [⟨c3,[.int .i64 (turnV M.t),.slice (some ⟨gs,os,none⟩) M.L.length cs,.slice (some ⟨gi,oi,none⟩) M.L.length ci,.slice (some ⟨gb,ob,none⟩) M.L.length cb,.slice al M.ll.length cl,.pointer (some ⟨cM,0,none⟩)],54⟩]) (fun τ => M.L.length - τ.1)
  (0,wd,v') ⟨Nat.zero_le _,by simpa [rowsE] using hJ,by simp [rowsE,headE,magL]⟩ kq (fun _ h => h) ?_
 clear hJ
 rintro ⟨k,wk,bv4⟩ ⟨hk,hJ,hl0n⟩
 try simp only at hk hJ hl0n ⊢
 generalize hl0 : headE M.L.length (turnV M.t) ++ rowsE (M.L.take k) (M.ins.take k) ((bxs ls M.L.length).take k) = l0 at *
 by_cases hlt : k < M.L.length
 ·have hd : decide ((k : Int) < (M.L.length : Int)) = true := decide_eq_true kc
  obtain ⟨x,hx⟩ : ∃ x,M.L[k]? = some x := ⟨_,List.getElem?_eq_getElem hlt⟩
  obtain ⟨s,hs'⟩ : ∃ s,M.ins[k]? = some s := ⟨_,List.getElem?_eq_getElem (by have := hlen.2;omega)⟩
  have hxo := hok x (List.mem_of_getElem? hx)
  have hx3 := hs x (List.mem_of_getElem? hx)
  have hxc := hxo.2
  have hat' : ∀ q u,x.cells[q]? = some u → w1.cell? (Addr.add ⟨gs,os + (k : Int).toNat * 35,none⟩ q) = some u := fun q u hq => by rw [Int.toNat_natCast];exact hat k x hx q u hq
  have hatk : ∀ {H : List Blk} {w' : World},Hp wk H w' → H.map Blk.b = [c3] → ∀ q u,x.cells[q]? = some u → w'.cell? (Addr.add ⟨gs,os + (k : Int).toNat * 35,none⟩ q) = some u := fun hq e q u hu => (hJ.hp hq e).u.cell (hat' q u hu) (fun h => by rw [addLit] at h;simp only at h;omega)
  repeat' first | (apply Wl.storeA (xs := x.cells);exact rfl;exact rfl;exact hxo.len;exact hxo.one;exact kd;exact .z (LOver.whole qj)) | (apply Wl.loadAF (xs := x.cells);exact rfl;exact rfl;exact hxo.len;(intro w' h' q u hq';exact hatk h' rfl q u hq')) | refine Wl.move rfl rfl ?_ | refine Wl.assign rfl rfl ?_ | refine Wl.fieldAddr0 rfl rfl ?_ | (apply Wl.loadH;exact rfl;exact rfl;exact kd;exact rfl) | refine Wl.lss rfl rfl rfl ?_ | (refine Wl.convU8 rfl rfl ?_ ?_;constructor <;> omega) | (apply Wl.lit;exact rfl;exact kj;exact rfl;exact rfl;exact ke;intro c hc ho) | (apply Wl.alloc;exact rfl;intro c hc ho) | (refine Wl.indexAddr rfl rfl rfl ?_ ?_;constructor <;> omega) | apply Wl.nil | apply St.seq | apply St.block | apply St.region | (apply St.condT;exact rfl;exact k5) | apply St.skip | apply Gt.next
  rename_i c6 hc6 ho6
  have hJ := hJ.new hc6
  have hs1 : x.cells[0]? = some (.int .i64 x.s) := rfl
  have hs8 : ([.int .u8 x.s] : List Value) = byteCells [UInt8.ofNat x.s.toNat] := by
   simp only [byteCells,List.map_cons,List.map_nil,UInt8.toNat_ofNat',List.cons.injEq,and_true,Value.int.injEq,true_and]
   omega
  apply Wl.appendT (base := w1.heap.size) (n := l0.length) (m := 1) (sz := 1) (e := 5) (xs := byteCells l0)
  ·exact rfl
  ·exact rfl
  ·exact rfl
  ·assumption
  ·exact rfl
  ·exact hJ.row
  ·exact fun k hk => off_in (hJ.o k hk)
  ·exact rfl
  ·exact rfl
  ·decide
  ·unfold maxLen;omega
  ·omega
  ·exact hJ.u.size
  intro bv5 w5 a1 a2 a3 a4
  have hJ := hJ.app (news := [UInt8.ofNat x.s.toNat]) rfl a1 rfl hs8 a2 a4
  have z5 := a2.size
  clear a1 a2 a3 a4
  repeat' first | refine Wl.assign rfl rfl ?_ | apply Wl.nil | apply St.seq | apply Gt.next
  refine St.tree (fun w' => w'.heap[c6]? = some (.cells x.cells.toArray 44 (0,0))) mixed (fun _ h' => ⟨Hp.drew h',(Hp.drew h').own.at (.head _)⟩) ?_
  refine Mt.pm 0 ?_
  refine Mt.pz 1 ?_
  refine Mt.pz 4 ?_
  refine Mt.pu 2 ?_
  apply Wl.loadF;exact rfl;exact rfl;(intro w' h';exact cell_of h' rfl);apply Wl.nilB
  refine Mt.pu 5 ?_
  apply Wl.loadF;exact rfl;exact rfl;(intro w' h';exact cell_of h' rfl);apply Wl.nilB
  refine Mt.e1 3 ?_
  apply Wl.callC
  ·exact rfl
  ·exact kd
  intro wq hq
  have hJ := hJ.hp hq rfl
  have zq := hJ.u.size
  refine (p32X w1.heap.size _ _ x.c ⟨by omega,by omega⟩ wq hJ.row kc zg).mono ?_
  rintro e w2 ⟨bv2,rfl,r1,r2,r3⟩
  obtain ⟨hH,hD⟩ := hJ.hpc hq rfl r2
  have hJ := hJ.call hD r1 r2 r3
  refine ⟨_,_,rfl,hH,?_⟩
  clear hq r1 r2 r3 hH hD
  try simp only at hJ
  apply Wl.nil
  refine Mt.backE (fun _ h' => h'.own.at (.head _)) ?_
  refine Mt.e1 6 ?_
  apply Wl.callC
  ·exact rfl
  ·exact kd
  intro wq hq
  have hJ := hJ.hp hq rfl
  have zq := hJ.u.size
  refine (p32X w1.heap.size _ _ x.p ⟨by omega,by omega⟩ wq hJ.row kc zg).mono ?_
  rintro e w2 ⟨bv2,rfl,r1,r2,r3⟩
  obtain ⟨hH,hD⟩ := hJ.hpc hq rfl r2
  have hJ := hJ.call hD r1 r2 r3
  refine ⟨_,_,rfl,hH,?_⟩
  clear hq r1 r2 r3 hH hD
  try simp only at hJ
  apply Wl.nil
  refine Mt.backE (fun _ h' => h'.own.at (.head _)) ?_
  refine Mt.pu 7 ?_
  refine Wl.assign rfl rfl (Wl.nilB ?_)
  refine Mt.toGt kb ?_
  repeat' first | (apply Wl.loadAH;exact rfl;exact rfl;exact (.head _);exact (.s (.s (.s (LSub.whole hxo.1.1))))) | refine Wl.move rfl rfl ?_ | refine Wl.fieldAddrZ rfl rfl ?_ | apply Wl.nil | apply St.seq | apply St.block | apply St.region | apply Gt.next
  have hreg : ∀ m z,x.xs[m]? = some (.int .u32 z) → ((x.xs.take (m + 1)).map fun v => leB 4 (wordV v)).flatten = ((x.xs.take m).map fun v => leB 4 (wordV v)).flatten ++ leB 4 z.toNat := fun m z hz => by
   rw [List.take_add_one,hz]
   simp [wordV]
  generalize hl1 : l0 ++ [UInt8.ofNat x.s.toNat] ++ leB 4 x.c.toNat ++ leB 4 x.p.toNat = l1 at *
  have hl1n : l1.length = l0.length + 9 := by rw [← hl1];simp [leB_length]
  refine St.loop (σ := Nat × World × Value) (fun τ => τ.1 ≤ 32 ∧ EnJ w1 τ.2.1 [c6,c3] τ.2.2 (l1 ++ ((x.xs.take τ.1).map fun v => leB 4 (wordV v)).flatten) ∧ (((x.xs.take τ.1).map fun v => leB 4 (wordV v)).flatten).length = 4 * τ.1)
   (fun τ => [(0,.pointer (some ⟨I.m,0,none⟩)),(2,.slice none 0 0),(3,.pointer (some ⟨c3,0,none⟩)),(4,τ.2.2),(5,.int .i64 (k : Int)),(6,.pointer (some ⟨c6,0,none⟩)),(32,.slice (some ⟨gs,os,none⟩) M.L.length cs),(33,.int .i64 (M.L.length : Int)),(34,.int .i64 (k : Int)),(53,.agg x.xs.toArray),(54,.int .i64 (τ.1 : Int))])
   (fun τ => Hp τ.2.1 [⟨c6,x.cells,44⟩,⟨c3,[.int .i64 (turnV M.t),.slice (some ⟨gs,os,none⟩) M.L.length cs,.slice (some ⟨gi,oi,none⟩) M.L.length ci,.slice (some ⟨gb,ob,none⟩) M.L.length cb,.slice al M.ll.length cl,.pointer (some ⟨cM,0,none⟩)],54⟩]) (fun τ => 32 - τ.1) (0,_,_) ⟨Nat.zero_le _,by simpa using hJ,rfl⟩ kq (fun _ h => h) ?_
  clear hJ
  rintro ⟨m,wm,bvm⟩ ⟨hm,hJ,hmn⟩
  try simp only at hm hJ hmn ⊢
  by_cases hm32 : m < 32
  ·have hdm : decide ((m : Int) < 32) = true := decide_eq_true kc
   obtain ⟨z,hz,hz0,hz1⟩ := hxo.1.2 m hm32
   repeat' first | (apply Wl.indexVS;exact rfl;exact rfl;exact rfl;exact hz;exact hm32) | refine Wl.move rfl rfl ?_ | refine Wl.assign rfl rfl ?_ | refine Wl.lss rfl rfl rfl ?_ | apply Wl.nil | apply St.seq | apply St.block | apply St.region | (apply St.condT;exact rfl;exact k5) | apply St.skip | apply Gt.next
   apply Wl.callC
   ·exact rfl
   ·exact kd
   intro wq hq
   have hJ := hJ.hp hq rfl
   have zq := hJ.u.size
   refine (p32X w1.heap.size _ _ z ⟨by omega,by omega⟩ wq hJ.row kc zg).mono ?_
   rintro e w2 ⟨bv2,rfl,r1,r2,r3⟩
   obtain ⟨hH,hD⟩ := hJ.hpc hq rfl r2
   have hJ := hJ.call hD r1 r2 r3
   refine ⟨_,_,rfl,hH,?_⟩
   clear hq r1 r2 r3 hH hD
   try simp only at hJ
   repeat' first | refine Wl.move rfl rfl ?_ | refine Wl.assign rfl rfl ?_ | (refine Wl.addI rfl rfl rfl ?_ ?_;constructor <;> omega) | apply Wl.nil | apply St.region | apply Gt.next | apply Gt.inNormal
   exact Gt.round (m + 1,w2,bv2) ⟨hm32,(by rw [hreg m z hz,← List.append_assoc];exact hJ),(by rw [hreg m z hz,List.length_append,hmn,leB_length];omega)⟩ ky kq (fun _ h => h)
  ·obtain rfl : m = 32 := by omega
   have hdm : decide (((32 : Nat) : Int) < 32) = false := by decide
   have hxt : x.xs.take 32 = x.xs := List.take_of_length_le (by rw [hxo.1.1];exact Nat.le_refl _)
   rw [hxt] at hJ hmn
   have hl2n : (l1 ++ (x.xs.map fun v => leB 4 (wordV v)).flatten).length = l0.length + 137 := by rw [List.length_append,hmn,hl1n]
   generalize hl2 : l1 ++ (x.xs.map fun v => leB 4 (wordV v)).flatten = l2 at *
   have g6 := hJ.d c6 zd
   have g3 := hJ.d c3 zd
   have hsl : s.length ≤ 64 := hins s (List.mem_of_getElem? hs')
   have hik : wm.cell? ⟨gi,oi + (k : Int).toNat,none⟩ = some (strV s) := hJ.u.cell (by rw [Int.toNat_natCast];exact hinp k _ (by rw [List.getElem?_map,hs'];rfl)) ky
   repeat' first | (apply Wl.loadO;exact rfl;exact rfl;exact hik;exact qr) | refine Wl.move rfl rfl ?_ | refine Wl.fieldAddrZ rfl rfl ?_ | (apply Wl.loadH;exact rfl;exact rfl;exact kd;exact rfl) | refine Wl.lss rfl rfl rfl ?_ | (refine Wl.indexAddr1 rfl rfl rfl ?_ ?_;constructor <;> omega) | apply Wl.nil | apply St.seq | apply St.region | (apply St.condF;exact rfl;exact k5) | apply St.exit | apply Gt.next | apply Gt.thenExit | apply Gt.inExit
   apply Wl.callC
   ·exact rfl
   ·exact kd
   intro wq hq
   have hJ := hJ.hp hq rfl
   have zq := hJ.u.size
   refine (sText w1.heap.size _ _ s wq hJ.row kc zg kc).mono ?_
   rintro e w2 ⟨bv2,rfl,r1,r2,r3⟩
   obtain ⟨hH,hD⟩ := hJ.hpc hq rfl r2
   have hJ := hJ.call hD r1 r2 r3
   refine ⟨_,_,rfl,hH,?_⟩
   clear hq r1 r2 r3 hH hD
   try simp only at hJ
   obtain ⟨vk,ek,hvk⟩ := hT.bl.2 k hlt
   obtain ⟨ak,ck,rfl⟩ := svShape (Sv.ofOwn hvk)
   have hbk := (hbx k hlt).2
   have hbc : w2.cell? ⟨gb,ob + (k : Int).toNat,none⟩ = some (.slice ak (ls k).length ck) := hJ.u.cell (by rw [Int.toNat_natCast];exact hbox k _ ek) ky
   have hu8 : IntKind.u8.wrap ((ls k).length : Int) = ((ls k).length : Int) := by rw [wrap8,UInt8.toNat_ofNat'];omega
   repeat' first | (apply Wl.loadO;exact rfl;exact rfl;exact hbc;exact qr) | refine Wl.move rfl rfl ?_ | refine Wl.assign rfl rfl ?_ | refine Wl.fieldAddrZ rfl rfl ?_ | (apply Wl.loadH;exact rfl;exact rfl;exact kd;exact rfl) | (refine Wl.convU8 rfl rfl ?_ ?_;constructor <;> omega) | refine Wl.len rfl rfl ?_ | (apply Wl.lit;exact rfl;exact kj;exact rfl;exact rfl;exact ke;intro c hc ho) | (refine Wl.indexAddr1 rfl rfl rfl ?_ ?_;constructor <;> omega) | apply Wl.nil | apply St.seq | apply St.region | apply Gt.next
   have hs9 : ([.int .u8 ((ls k).length : Int)] : List Value) = byteCells [UInt8.ofNat (ls k).length] := by
    simp only [byteCells,List.map_cons,List.map_nil,UInt8.toNat_ofNat',List.cons.injEq,and_true,Value.int.injEq,true_and]
    omega
   have hl3m : (l2 ++ txtE s).length = l0.length + 139 + s.length := by rw [List.length_append,txtE_len,hl2n];omega
   apply Wl.appendT (base := w1.heap.size) (n := (l2 ++ txtE s).length) (m := 1) (sz := 1) (e := 5) (xs := byteCells (l2 ++ txtE s))
   ·exact rfl
   ·exact rfl
   ·exact rfl
   ·assumption
   ·exact rfl
   ·exact hJ.row
   ·exact fun k hk => off_in (hJ.o k hk)
   ·exact rfl
   ·exact rfl
   ·decide
   ·unfold maxLen;omega
   ·omega
   ·exact hJ.u.size
   intro bv5 w5 a1 a2 a3 a4
   have hJ := hJ.app (news := [UInt8.ofNat (ls k).length]) rfl a1 rfl hs9 a2 a4
   have z5 := a2.size
   clear a1 a2 a3 a4
   have hl3n : (l2 ++ txtE s ++ [UInt8.ofNat (ls k).length]).length ≤ l0.length + 204 := by rw [List.length_append,hl3m];simp only [List.length_cons,List.length_nil];omega
   generalize hl3 : l2 ++ txtE s ++ [UInt8.ofNat (ls k).length] = l3 at *
   have hbc5 : w5.cell? ⟨gb,ob + (k : Int).toNat,none⟩ = some (.slice ak (ls k).length ck) := hJ.u.cell (by rw [Int.toNat_natCast];exact hbox k _ ek) ky
   repeat' first | (apply Wl.loadO;exact rfl;exact rfl;exact hbc5;exact qr) | refine Wl.move rfl rfl ?_ | refine Wl.assign rfl rfl ?_ | refine Wl.fieldAddrZ rfl rfl ?_ | (apply Wl.loadH;exact rfl;exact rfl;exact kd;exact rfl) | refine Wl.len rfl rfl ?_ | (refine Wl.indexAddr1 rfl rfl rfl ?_ ?_;constructor <;> omega) | apply Wl.nil | apply St.seq | apply St.block | apply St.region | apply Gt.next
   have hlk := hlx k hlt
   have hdrop : ∀ (i : Nat) y,(ls k)[i]? = some y → letsE ((ls k).take (i + 1)) = letsE ((ls k).take i) ++ letE y := fun i y hy => by
    unfold letsE
    rw [List.take_add_one,hy]
    simp
   refine St.loop (σ := Nat × World × Value) (fun τ => τ.1 ≤ (ls k).length ∧ EnJ w1 τ.2.1 [c6,c3] τ.2.2 (l3 ++ letsE ((ls k).take τ.1)) ∧ (l3 ++ letsE ((ls k).take τ.1)).length ≤ l3.length + 19 * τ.1)
    (fun τ => [(0,.pointer (some ⟨I.m,0,none⟩)),(2,.slice none 0 0),(3,.pointer (some ⟨c3,0,none⟩)),(4,τ.2.2),(5,.int .i64 (k : Int)),(6,.pointer (some ⟨c6,0,none⟩)),(32,.slice (some ⟨gs,os,none⟩) M.L.length cs),(33,.int .i64 (M.L.length : Int)),(34,.int .i64 (k : Int)),(82,.slice ak (ls k).length ck),(83,.int .i64 ((ls k).length : Int)),(84,.int .i64 (τ.1 : Int))])
    (fun τ => Hp τ.2.1 [⟨c6,x.cells,44⟩,⟨c3,[.int .i64 (turnV M.t),.slice (some ⟨gs,os,none⟩) M.L.length cs,.slice (some ⟨gi,oi,none⟩) M.L.length ci,.slice (some ⟨gb,ob,none⟩) M.L.length cb,.slice al M.ll.length cl,.pointer (some ⟨cM,0,none⟩)],54⟩]) (fun τ => (ls k).length - τ.1) (0,_,_) ⟨Nat.zero_le _,by simpa [letsE] using hJ,by simp [letsE]⟩ kq (fun _ h => h) ?_
   clear hJ
   rintro ⟨i,wi,bvi⟩ ⟨hi,hJ,hin⟩
   try simp only at hi hJ hin ⊢
   by_cases hil : i < (ls k).length
   ·have hdi : decide ((i : Int) < ((ls k).length : Int)) = true := decide_eq_true kc
    obtain ⟨y,hy⟩ : ∃ y,(ls k)[i]? = some y := ⟨_,List.getElem?_eq_getElem hil⟩
    have hyb := hlk y (List.mem_of_getElem? hy)
    obtain ⟨gx,ox,rfl,hgx,hxc⟩ := svCells (Sv.ofOwn hvk) (fun h => by
     obtain ⟨y0,r0,e0⟩ := List.exists_cons_of_ne_nil (l := ls k) (fun e => by rw [e] at hil;simp at hil)
     rw [e0] at h
     simp [lineC] at h)
    have hay : ∀ q u,(lineC y)[q]? = some u → w1.cell? (Addr.add ⟨gx,ox + (i : Int).toNat * 2,none⟩ q) = some u := fun q u hq => by
     have hq2 : q < 2 := (List.getElem?_eq_some_iff.1 hq).1
     have := hxc (i * 2 + q) u zh
     rw [addLit,Int.toNat_natCast,Nat.add_assoc]
     exact this
    have hayk : ∀ {H : List Blk} {w' : World},Hp wi H w' → H.map Blk.b = [c6,c3] → ∀ q u,(lineC y)[q]? = some u → w'.cell? (Addr.add ⟨gx,ox + (i : Int).toNat * 2,none⟩ q) = some u := fun hq e q u hu => (hJ.hp hq e).u.cell (hay q u hu) (fun h => by rw [addLit] at h;simp only at h;omega)
    repeat' first | (apply Wl.loadAF (xs := lineC y);exact rfl;exact rfl;exact rfl;(intro w' h' q u hq';exact hayk h' rfl q u hq')) | refine Wl.lss rfl rfl rfl ?_ | (apply Wl.storeA;exact rfl;exact rfl;exact rfl;exact rfl;exact kd;exact kn) | (apply Wl.alloc;exact rfl;intro c hc ho) | (refine Wl.indexAddr rfl rfl rfl ?_ ?_;constructor <;> omega) | apply Wl.nil | apply St.seq | apply St.block | apply St.region | (apply St.condT;exact rfl;exact k5) | apply St.skip | apply Gt.next
    generalize c = c10 at *
    have hc10 : wi.heap.size ≤ c10 := by assumption
    have hJ := hJ.new hc10
    have hsA : ([.int .u8 y.1] : List Value) = byteCells [UInt8.ofNat y.1.toNat] := by
     simp only [byteCells,List.map_cons,List.map_nil,UInt8.toNat_ofNat',List.cons.injEq,and_true,Value.int.injEq,true_and]
     omega
    have hl0b : l0.length ≤ 10 + 300 * 16 := by omega
    generalize hl4 : l3 ++ letsE ((ls k).take i) = l4 at *
    refine St.tree (fun w' => w'.heap[c10]? = some (.cells (lineC y).toArray 78 (0,0))) mixed (fun _ h' => ⟨Hp.drew h',own_c (Hp.drew h').own (.head _)⟩) ?_
    refine Mt.pm 0 ?_
    refine Mt.pf 1 ?_
    refine Mt.pz 6 ?_
    refine Mt.pu 2 ?_
    apply Wl.loadF;exact rfl;exact rfl;(intro w' h';exact cell_of h' rfl);apply Wl.nilB
    refine Mt.pu 7 ?_
    apply Wl.loadF;exact rfl;exact rfl;(intro w' h';exact cell_of h' rfl);apply Wl.nilB
    refine Mt.pu 3 ?_
    refine Wl.convU8 rfl rfl ?_ ?_;constructor <;> omega;apply Wl.nilB
    refine Mt.e1 4 ?_
    repeat' first | (apply Wl.lit;exact rfl;exact kj;exact rfl;exact rfl;exact ke;intro c hc ho) | apply Wl.nil
    refine Mt.backE (fun _ h' => own_c h'.own (.tail _ (.head _))) ?_
    refine Mt.e1 5 ?_
    apply Wl.appendT (base := w1.heap.size) (n := l4.length) (m := 1) (sz := 1) (e := 5) (xs := byteCells l4)
    ·exact rfl
    ·exact rfl
    ·exact rfl
    ·assumption
    ·exact rfl
    ·exact hJ.row
    ·exact fun k hk => off_in (hJ.o k hk)
    ·exact rfl
    ·exact rfl
    ·decide
    ·unfold maxLen;omega
    ·omega
    ·exact hJ.u.size
    intro bv5 w5 a1 a2 a3 a4
    have hJ := hJ.app (news := [UInt8.ofNat y.1.toNat]) rfl a1 rfl hsA a2 a4
    have z5 := a2.size
    clear a1 a2 a3 a4
    have hl5n : (l4 ++ [UInt8.ofNat y.1.toNat]).length = l4.length + 1 := by simp
    apply Wl.nil
    refine Mt.backE (fun _ h' => own_c h'.own (.head _)) ?_
    refine Mt.e1 8 ?_
    apply Wl.callC
    ·exact rfl
    ·exact kd
    intro wq hq
    have hJ := hJ.hp hq rfl
    have zq := hJ.u.size
    refine (sText w1.heap.size _ _ y.2 wq hJ.row kc zg kc).mono ?_
    rintro e w2 ⟨bv2,rfl,r1,r2,r3⟩
    obtain ⟨hH,hD⟩ := hJ.hpc hq rfl r2
    have hJ := hJ.call hD r1 r2 r3
    refine ⟨_,_,rfl,hH,?_⟩
    clear hq r1 r2 r3 hH hD
    try simp only at hJ
    apply Wl.nil
    refine Mt.backE (fun _ h' => own_c h'.own (.head _)) ?_
    refine Mt.pu 9 ?_
    refine Wl.assign rfl rfl (Wl.nilB ?_)
    refine Mt.toGt kb ?_
    repeat' first | refine Wl.move rfl rfl ?_ | (refine Wl.addI rfl rfl rfl ?_ ?_;constructor <;> omega) | apply Wl.nil | apply St.region | apply Gt.next | apply Gt.inNormal
    refine Gt.reb (H' := [⟨c6,x.cells,44⟩,⟨c3,[.int .i64 (turnV M.t),.slice (some ⟨gs,os,none⟩) M.L.length cs,.slice (some ⟨gi,oi,none⟩) M.L.length ci,.slice (some ⟨gb,ob,none⟩) M.L.length cb,.slice al M.ll.length cl,.pointer (some ⟨cM,0,none⟩)],54⟩]) fun w6 h6 => ⟨h6.own.2,h6.apart.2,?_⟩
    have hJ := (hJ.hp h6 rfl).pop
    have el : l4 ++ [UInt8.ofNat y.1.toNat] ++ txtE y.2 = l3 ++ letsE ((ls k).take (i + 1)) := by rw [hdrop i y hy,← List.append_assoc,hl4];simp [letE]
    exact Gt.round (i + 1,w6,bv2) ⟨hil,(by rw [← el];exact hJ),(by rw [← el,List.length_append,hl5n,txtE_len];omega)⟩ ky kq (fun _ h => h)
   ·obtain rfl : i = (ls k).length := by omega
    have hdi : decide (((ls k).length : Int) < ((ls k).length : Int)) = false := decide_eq_false kc
    rw [List.take_length] at hJ hin
    have hbk' : (bxs ls M.L.length)[k]? = some (ls k) := by unfold bxs;rw [List.getElem?_map,List.getElem?_range hlt];rfl
    have er : l3 ++ letsE (ls k) = headE M.L.length (turnV M.t) ++ rowsE (M.L.take (k + 1)) (M.ins.take (k + 1)) ((bxs ls M.L.length).take (k + 1)) := by
     rw [List.take_add_one,List.take_add_one,List.take_add_one,hx,hs',hbk']
     simp only [Option.toList_some]
     rw [rowsE_snoc _ _ _ _ _ _ (by rw [List.length_take,List.length_take,hlen.2]) (by rw [List.length_take,List.length_take,hbl]),← List.append_assoc,hl0,← hl3,← hl2,← hl1]
     simp [rowE,staE]
    repeat' first | refine Wl.move rfl rfl ?_ | refine Wl.lss rfl rfl rfl ?_ | (refine Wl.addI rfl rfl rfl ?_ ?_;constructor <;> omega) | apply Wl.nil | apply St.seq | apply St.region | (apply St.condF;exact rfl;exact k5) | apply St.exit | apply Gt.next | apply Gt.thenExit | apply Gt.inNormal | apply Gt.inExit
    refine Gt.reb (H' := [⟨c3,[.int .i64 (turnV M.t),.slice (some ⟨gs,os,none⟩) M.L.length cs,.slice (some ⟨gi,oi,none⟩) M.L.length ci,.slice (some ⟨gb,ob,none⟩) M.L.length cb,.slice al M.ll.length cl,.pointer (some ⟨cM,0,none⟩)],54⟩]) fun w6 h6 => ⟨h6.own.2,h6.apart.2,?_⟩
    have hJ := (hJ.hp h6 rfl).pop
    exact Gt.round (k + 1,w6,bvi) ⟨hlt,(by rw [← er];exact hJ),(by rw [← er];omega)⟩ ky kq (fun _ h => h)
 ·have hke : k = M.L.length := by omega
  subst hke
  have hd : decide ((M.L.length : Int) < (M.L.length : Int)) = false := decide_eq_false kc
  have t1 : M.L.take M.L.length = M.L := List.take_length
  have t2 : M.ins.take M.L.length = M.ins := List.take_of_length_le (by rw [hlen.2];exact Nat.le_refl _)
  have t3 : (bxs ls M.L.length).take M.L.length = bxs ls M.L.length := List.take_of_length_le (by rw [hbl];exact Nat.le_refl _)
  rw [t1,t2,t3] at hl0
  repeat' first | refine Wl.move rfl rfl ?_ | refine Wl.fieldAddrZ rfl rfl ?_ | (apply Wl.loadH;exact rfl;exact rfl;exact kd;exact rfl) | refine Wl.lss rfl rfl rfl ?_ | refine Wl.len rfl rfl ?_ | apply Wl.nil | apply St.seq | apply St.region | (apply St.condF;exact rfl;exact k5) | apply St.exit | apply Gt.next | apply Gt.thenExit | apply Gt.inExit
  apply Wl.callC
  ·exact rfl
  ·exact kd
  intro wq hq
  have hJ := hJ.hp hq rfl
  have zq := hJ.u.size
  refine (p16X w1.heap.size _ _ (M.ll.length : Int) wq hJ.row kc zg).mono ?_
  rintro e w2 ⟨bv2,rfl,r1,r2,r3⟩
  obtain ⟨hH,hD⟩ := hJ.hpc hq rfl r2
  have hJ := hJ.call hD r1 r2 r3
  refine ⟨_,_,rfl,hH,?_⟩
  clear hq r1 r2 r3 hH hD
  try simp only at hJ
  have h16 : ((M.ll.length : Int) % 65536).toNat = M.ll.length := by omega
  rw [h16] at hJ
  have hl6n : (l0 ++ leB 2 M.ll.length).length = l0.length + 2 := by rw [List.length_append,leB_length]
  generalize hl6 : l0 ++ leB 2 M.ll.length = l6 at *
  repeat' first | refine Wl.move rfl rfl ?_ | refine Wl.assign rfl rfl ?_ | refine Wl.fieldAddrZ rfl rfl ?_ | (apply Wl.loadH;exact rfl;exact rfl;exact kd;exact rfl) | refine Wl.len rfl rfl ?_ | apply Wl.nil | apply St.seq | apply St.block | apply St.region | apply Gt.next
  have hdrop : ∀ (i : Nat) y,M.ll[i]? = some y → letsE (M.ll.take (i + 1)) = letsE (M.ll.take i) ++ letE y := fun i y hy => by
   unfold letsE
   rw [List.take_add_one,hy]
   simp
  refine St.loop (σ := Nat × World × Value) (fun τ => τ.1 ≤ M.ll.length ∧ EnJ w1 τ.2.1 [c3] τ.2.2 (l6 ++ letsE (M.ll.take τ.1)) ∧ (l6 ++ letsE (M.ll.take τ.1)).length ≤ l6.length + 67 * τ.1)
   (fun τ => [(0,.pointer (some ⟨I.m,0,none⟩)),(2,.slice none 0 0),(3,.pointer (some ⟨c3,0,none⟩)),(4,τ.2.2),(105,.slice al M.ll.length cl),(106,.int .i64 (M.ll.length : Int)),(107,.int .i64 (τ.1 : Int))])
   (fun τ => Hp τ.2.1 [⟨c3,[.int .i64 (turnV M.t),.slice (some ⟨gs,os,none⟩) M.L.length cs,.slice (some ⟨gi,oi,none⟩) M.L.length ci,.slice (some ⟨gb,ob,none⟩) M.L.length cb,.slice al M.ll.length cl,.pointer (some ⟨cM,0,none⟩)],54⟩]) (fun τ => M.ll.length - τ.1) (0,_,_) ⟨Nat.zero_le _,by simpa [letsE] using hJ,by simp [letsE]⟩ kq (fun _ h => h) ?_
  clear hJ
  rintro ⟨i,wi,bvi⟩ ⟨hi,hJ,hin⟩
  try simp only at hi hJ hin ⊢
  have g3 := hJ.d c3 zd
  by_cases hil : i < M.ll.length
  ·have hdi : decide ((i : Int) < (M.ll.length : Int)) = true := decide_eq_true kc
   obtain ⟨y,hy⟩ : ∃ y,M.ll[i]? = some y := ⟨_,List.getElem?_eq_getElem hil⟩
   have hyb := hly y (List.mem_of_getElem? hy)
   obtain ⟨gx,ox,rfl,hgx,hxc⟩ := svCells (Sv.ofOwn hT.l) (fun h => by
    obtain ⟨y0,r0,e0⟩ := List.exists_cons_of_ne_nil (l := M.ll) (fun e => by rw [e] at hil;simp at hil)
    rw [e0] at h
    simp [lineC] at h)
   have hay : ∀ q u,(lineC y)[q]? = some u → w1.cell? (Addr.add ⟨gx,ox + (i : Int).toNat * 2,none⟩ q) = some u := fun q u hq => by
    have hq2 : q < 2 := (List.getElem?_eq_some_iff.1 hq).1
    have := hxc (i * 2 + q) u zh
    rw [addLit,Int.toNat_natCast,Nat.add_assoc]
    exact this
   have hayk : ∀ {H : List Blk} {w' : World},Hp wi H w' → H.map Blk.b = [c3] → ∀ q u,(lineC y)[q]? = some u → w'.cell? (Addr.add ⟨gx,ox + (i : Int).toNat * 2,none⟩ q) = some u := fun hq e q u hu => (hJ.hp hq e).u.cell (hay q u hu) (fun h => by rw [addLit] at h;simp only at h;omega)
   repeat' first | (apply Wl.loadAF (xs := lineC y);exact rfl;exact rfl;exact rfl;(intro w' h' q u hq';exact hayk h' rfl q u hq')) | refine Wl.lss rfl rfl rfl ?_ | (apply Wl.storeA;exact rfl;exact rfl;exact rfl;exact rfl;exact kd;exact kn) | (apply Wl.alloc;exact rfl;intro c hc ho) | (refine Wl.indexAddr rfl rfl rfl ?_ ?_;constructor <;> omega) | apply Wl.nil | apply St.seq | apply St.block | apply St.region | (apply St.condT;exact rfl;exact k5) | apply St.skip | apply Gt.next
   generalize c = c10 at *
   have hc10 : wi.heap.size ≤ c10 := by assumption
   have hJ := hJ.new hc10
   have hsA : ([.int .u8 y.1] : List Value) = byteCells [UInt8.ofNat y.1.toNat] := by
    simp only [byteCells,List.map_cons,List.map_nil,UInt8.toNat_ofNat',List.cons.injEq,and_true,Value.int.injEq,true_and]
    omega
   generalize hl4 : l6 ++ letsE (M.ll.take i) = l4 at *
   refine St.tree (fun w' => w'.heap[c10]? = some (.cells (lineC y).toArray 111 (0,0))) mixed (fun _ h' => ⟨Hp.drew h',own_c (Hp.drew h').own (.head _)⟩) ?_
   refine Mt.pm 0 ?_
   refine Mt.pf 1 ?_
   refine Mt.pz 6 ?_
   refine Mt.pu 2 ?_
   apply Wl.loadF;exact rfl;exact rfl;(intro w' h';exact cell_of h' rfl);apply Wl.nilB
   refine Mt.pu 7 ?_
   apply Wl.loadF;exact rfl;exact rfl;(intro w' h';exact cell_of h' rfl);apply Wl.nilB
   refine Mt.pu 3 ?_
   refine Wl.convU8 rfl rfl ?_ ?_;constructor <;> omega;apply Wl.nilB
   refine Mt.e1 4 ?_
   repeat' first | (apply Wl.lit;exact rfl;exact kj;exact rfl;exact rfl;exact ke;intro c hc ho) | apply Wl.nil
   refine Mt.backE (fun _ h' => own_c h'.own (.tail _ (.head _))) ?_
   refine Mt.e1 5 ?_
   apply Wl.appendT (base := w1.heap.size) (n := l4.length) (m := 1) (sz := 1) (e := 5) (xs := byteCells l4)
   ·exact rfl
   ·exact rfl
   ·exact rfl
   ·assumption
   ·exact rfl
   ·exact hJ.row
   ·exact fun k hk => off_in (hJ.o k hk)
   ·exact rfl
   ·exact rfl
   ·decide
   ·unfold maxLen;omega
   ·omega
   ·exact hJ.u.size
   intro bv5 w5 a1 a2 a3 a4
   have hJ := hJ.app (news := [UInt8.ofNat y.1.toNat]) rfl a1 rfl hsA a2 a4
   have z5 := a2.size
   clear a1 a2 a3 a4
   have hl5n : (l4 ++ [UInt8.ofNat y.1.toNat]).length = l4.length + 1 := by simp
   apply Wl.nil
   refine Mt.backE (fun _ h' => own_c h'.own (.head _)) ?_
   refine Mt.e1 8 ?_
   apply Wl.callC
   ·exact rfl
   ·exact kd
   intro wq hq
   have hJ := hJ.hp hq rfl
   have zq := hJ.u.size
   refine (sText w1.heap.size _ _ y.2 wq hJ.row kc zg kc).mono ?_
   rintro e w2 ⟨bv2,rfl,r1,r2,r3⟩
   obtain ⟨hH,hD⟩ := hJ.hpc hq rfl r2
   have hJ := hJ.call hD r1 r2 r3
   refine ⟨_,_,rfl,hH,?_⟩
   clear hq r1 r2 r3 hH hD
   try simp only at hJ
   apply Wl.nil
   refine Mt.backE (fun _ h' => own_c h'.own (.head _)) ?_
   refine Mt.pu 9 ?_
   refine Wl.assign rfl rfl (Wl.nilB ?_)
   refine Mt.toGt kb ?_
   repeat' first | refine Wl.move rfl rfl ?_ | (refine Wl.addI rfl rfl rfl ?_ ?_;constructor <;> omega) | apply Wl.nil | apply St.region | apply Gt.next | apply Gt.inNormal
   refine Gt.reb (H' := [⟨c3,[.int .i64 (turnV M.t),.slice (some ⟨gs,os,none⟩) M.L.length cs,.slice (some ⟨gi,oi,none⟩) M.L.length ci,.slice (some ⟨gb,ob,none⟩) M.L.length cb,.slice (some ⟨gx,ox,none⟩) M.ll.length cl,.pointer (some ⟨cM,0,none⟩)],54⟩]) fun w6 h6 => ⟨h6.own.2,h6.apart.2,?_⟩
   have hJ := (hJ.hp h6 rfl).pop
   have el : l4 ++ [UInt8.ofNat y.1.toNat] ++ txtE y.2 = l6 ++ letsE (M.ll.take (i + 1)) := by rw [hdrop i y hy,← List.append_assoc,hl4];simp [letE]
   exact Gt.round (i + 1,w6,bv2) ⟨hil,(by rw [← el];exact hJ),(by rw [← el,List.length_append,hl5n,txtE_len];omega)⟩ ky kq (fun _ h => h)
  ·have hie : i = M.ll.length := by omega
   subst hie
   have hdi : decide ((M.ll.length : Int) < (M.ll.length : Int)) = false := decide_eq_false kc
   rw [List.take_length] at hJ hin
   repeat' first | refine Wl.fieldAddrZ rfl rfl ?_ | (apply Wl.loadH;exact rfl;exact rfl;exact kd;exact rfl) | refine Wl.lss rfl rfl rfl ?_ | apply Wl.nil | apply St.seq | apply St.region | (apply St.condF;exact rfl;exact k5) | apply St.exit | apply Gt.next | apply Gt.thenExit | apply Gt.inExit
   apply Wl.callC
   ·exact rfl
   ·exact kd
   intro wq hq
   have hJ := hJ.hp hq rfl
   have lq3 : c3 < wq.heap.size := lt_of_block (own_c hq.own (.head _))
   have zq := hJ.u.size
   have lcM := lt_of_block hT.m
   have hmq : memH wq cM M.f := hJ.u.heap hT.m fun h => by omega
   refine (mgetX cM M.f (2147483648) 65536 wq hmq hFB ⟨by omega,by omega⟩ ⟨by omega,by omega⟩ (by unfold inM;omega)).mono ?_
   rintro e w2 ⟨vm,rfl,hvm,hvo,um⟩
   have zm := um.size
   have hH : Hp w2 _ w2 := ⟨Upd.refl _ _,hq.own.upd um q9,hq.apart⟩
   have hrl : ∀ k,bvi.ownBlock = some k → k < wq.heap.size := fun k hk => (hJ.row.lt k hk).2
   have hJ : EnJ w1 w2 [c3] bvi (l6 ++ letsE M.ll) := ⟨hJ.u.comp um fun k _ h => h.elim id fun h => by omega,hJ.row.upd um fun k hk h => by have := (hJ.row.lt k hk).2;omega,hJ.o,hJ.d⟩
   refine ⟨_,_,rfl,hH,?_⟩
   clear hq hH
   have em : memL M.f ((2147483648 : Int) - 2147483648).toNat (65536 : Int).toNat = memL M.f 0 65536 := rfl
   rw [em] at hvm
   generalize hr0 : memL M.f 0 65536 = r0 at *
   have hr0n : r0.length = 65536 := by rw [← hr0,memL_len]
   have hvl : ∀ k,vm.ownBlock = some k → k < w2.heap.size := by
    obtain ⟨a,cap,rfl,_,_⟩ := hvm.shape
    obtain ⟨b,off,rfl,hc⟩ := hvm.cells (fun e => by rw [e] at hr0n;simp at hr0n)
    intro k hk
    have := World.block_lt_of_cell? w2 _ (hc 0 kc)
    cases hk
    exact this
   have h0c : 1 < w.heap.size := hK.lt ku
   have zw := u1.size
   have hK1 := hK.upd u1 (fun h => h.elim (fun h => hKI _ h rfl) fun h => by omega)
   repeat' first | refine Wl.move rfl rfl ?_ | refine Wl.assign rfl rfl ?_ | refine Wl.extract rfl rfl rfl ?_ | apply Wl.nil | apply St.seq | apply St.region | apply Gt.next
   apply Wl.callC
   ·exact rfl
   ·exact kd
   intro wq2 hq2
   have zq2 := hq2.upd.size
   have hJ := hJ.hp hq2 rfl
   have k3 : ∀ {cs t} (k : Nat),¬ Off [(⟨c3,cs,t⟩ : Blk)] k → k = c3 := fun k y => by have := in_off y;simpa using this
   refine (sPack w1.heap.size bvi vm _ r0 wq2 hJ.row kc (hvm.upd hq2.upd fun k hk _ _ y => by have := k3 k y;have := hvo k hk;omega) (fun k hk e => by have := hrl k hk;have := hvo k e;omega) kc kc (fun k hk => by have := hvl k hk;omega) (hK1.upd hJ.u fun h => by omega) kc).mono ?_
   rintro e w4 ⟨v4,rfl,hb4,u4⟩
   have hH : Hp w4 _ w4 := ⟨Upd.refl _ _,hq2.own.upd u4 (fun x hx hk => hJ.o _ hk (by simp only [List.mem_cons,List.not_mem_nil,or_false] at hx;subst hx;simp)),hq2.apart⟩
   have n4 := row_neB hb4 (own_c hH.own (.head _)) ku
   refine ⟨_,_,rfl,hH,?_⟩
   clear hq2 hH
   repeat' first | refine Wl.assign rfl rfl ?_ | apply Wl.nil | apply St.ret | apply Gt.next | (apply Gt.out1;exact rfl;exact rfl;intro w' hp)
   have U : Upd (fun k => w1.heap.size ≤ k) w1 w' := (hJ.u.comp u4 (T := fun k => w1.heap.size ≤ k) fun k _ h => h.elim id fun h => hJ.row.base h).comp hp.upd fun k _ h => h.elim id fun y => by have := k3 k y;omega
   have eb : l6 ++ letsE M.ll ++ runsE r0.length r0 = bodyE M.L.length (turnV M.t) M.L M.ins (bxs ls M.L.length) M.ll M.f := by
    unfold bodyE linesE
    rw [hr0,hr0n,← hl6,← hl0]
    simp only [List.append_assoc]
   rw [eb] at hb4
   refine ⟨v4,rfl,World.ownsRow.baseLe (hb4.upd hp.upd fun k hk y => n4 k hk (k3 k y)) zw,hM1.new U (Nat.le_refl _),u1.comp U fun k _ h => h.elim id fun h => .inr kc⟩
abbrev cok (l : List UInt8) : Cu := ⟨l,false⟩
theorem take_app (l m : List UInt8) (n : Int) (h : n = l.length) : (cok (l ++ m)).take n = (l,cok m) := by
 unfold Cu.take
 rw [cTake_app l m n h]
theorem u_app (l m : List UInt8) (n : Nat) (h : n = l.length) : (cok (l ++ m)).u n = (leN l,cok m) := by
 unfold Cu.u
 rw [take_app l m n (by rw [h])]
theorem u_leB (k x : Nat) (m : List UInt8) (hx : x < 256 ^ k) : (cok (leB k x ++ m)).u k = (x,cok m) := by
 rw [u_app _ _ _ (leB_length k x).symm,leN_leB,Nat.mod_eq_of_lt hx]
theorem u_one (b : UInt8) (m : List UInt8) : (cok (b :: m)).u 1 = (b.toNat,cok m) := by
 have := u_app [b] m 1 rfl
 simpa [leN] using this
theorem get_txt (s m : List UInt8) (most : Nat) (h : s.length ≤ most) (h2 : s.length < 65536) : getC (cok (txtE s ++ m)) most = ((s,true),cok m) := by
 have e : (cok (txtE s ++ m)).u 2 = (s.length,cok (s ++ m)) := by
  unfold txtE
  rw [List.append_assoc]
  exact u_leB 2 _ _ kc
 unfold getC
 rw [e]
 simp only
 rw [if_neg kc,take_app s m _ rfl]
 rfl
def regsE (xs : List Value) : List UInt8 := (xs.map fun v => leB 4 (wordV v)).flatten
theorem regs_back (m : List UInt8) : ∀ (xs : List Value) (k : Nat),k ≤ xs.length → (∀ v ∈ xs,wordV v < 4294967296) → regsC (cok (regsE xs ++ m)) k = ((xs.take k).map wordV,cok (regsE (xs.drop k) ++ m))
 | xs,0,_,_ => by simp [regsC]
 | xs,k + 1,hk,hw => by
  unfold regsC
  rw [regs_back m xs k kc hw]
  obtain ⟨v,hv⟩ : ∃ v,xs[k]? = some v := ⟨_,List.getElem?_eq_getElem kc⟩
  have hlt : k < xs.length := by omega
  have e : xs.drop k = v :: xs.drop (k + 1) := by rw [List.drop_eq_getElem_cons hlt];rw [List.getElem?_eq_getElem hlt] at hv;cases hv;rfl
  simp only
  rw [e]
  have e2 : regsE (v :: xs.drop (k + 1)) ++ m = leB 4 (wordV v) ++ (regsE (xs.drop (k + 1)) ++ m) := by simp [regsE]
  rw [e2,u_leB 4 _ _ (hw v (List.mem_of_getElem? hv)),List.take_add_one,hv]
  simp
theorem regV_back {xs : List Value} (h : Rg xs) : regV (xs.map wordV) = xs ∧ ∀ v ∈ xs,wordV v < 4294967296 := by
 have key : ∀ v ∈ xs,(.int .u32 ((wordV v : Nat) : Int) : Value) = v ∧ wordV v < 4294967296 := fun v hv => by
  obtain ⟨i,hi,rfl⟩ := List.mem_iff_getElem.1 hv
  obtain ⟨z,hz,h0,h1⟩ := h.2 i (by rw [← h.1];exact hi)
  rw [List.getElem?_eq_getElem hi] at hz
  cases hz' : xs[i] with
  | int k n =>
   rw [hz'] at hz
   cases hz
   simp only [wordV]
   exact ⟨by rw [Int.toNat_of_nonneg h0],by omega⟩
  | _ => rw [hz'] at hz;cases hz
 refine ⟨?_,fun v hv => (key v hv).2⟩
 unfold regV
 rw [List.map_map]
 conv => rhs;rw [← List.map_id xs]
 exact List.map_congr_left fun v hv => (key v hv).1
def StaFit (x : Sta) : Prop := StaOk x ∧ 0 ≤ x.s ∧ x.s < 256
theorem sta_back {x : Sta} (h : StaFit x) (m : List UInt8) : staC (cok (staE x ++ m)) = x ∧ cuD (cok (staE x ++ m)) = cok m := by
 obtain ⟨⟨hr,hc,hp⟩,hs0,hs1⟩ := h
 obtain ⟨r1,r2⟩ := regV_back hr
 have e0 : staE x ++ m = UInt8.ofNat x.s.toNat :: (leB 4 x.c.toNat ++ (leB 4 x.p.toNat ++ (regsE x.xs ++ m))) := by simp [staE,regsE]
 have hA : (cok (staE x ++ m)).u 1 = (x.s.toNat,cok (leB 4 x.c.toNat ++ (leB 4 x.p.toNat ++ (regsE x.xs ++ m)))) := by
  rw [e0,u_one,UInt8.toNat_ofNat',Nat.mod_eq_of_lt kc]
 have eA : cuA (cok (staE x ++ m)) = cok (leB 4 x.c.toNat ++ (leB 4 x.p.toNat ++ (regsE x.xs ++ m))) := by unfold cuA;rw [hA]
 have hB : (cuA (cok (staE x ++ m))).u 4 = (x.c.toNat,cok (leB 4 x.p.toNat ++ (regsE x.xs ++ m))) := by rw [eA,u_leB 4 _ _ kc]
 have eB : cuB (cok (staE x ++ m)) = cok (leB 4 x.p.toNat ++ (regsE x.xs ++ m)) := by unfold cuB;rw [hB]
 have hC : (cuB (cok (staE x ++ m))).u 4 = (x.p.toNat,cok (regsE x.xs ++ m)) := by rw [eB,u_leB 4 _ _ kc]
 have eC : cuC (cok (staE x ++ m)) = cok (regsE x.xs ++ m) := by unfold cuC;rw [hC]
 have hD := regs_back m x.xs 32 (by rw [hr.1];exact Nat.le_refl _) r2
 have hxt : x.xs.take 32 = x.xs := List.take_of_length_le (by rw [hr.1];exact Nat.le_refl _)
 have hxd : x.xs.drop 32 = [] := List.drop_of_length_le (by rw [hr.1];exact Nat.le_refl _)
 rw [hxt,hxd] at hD
 constructor
 ·unfold staC
  rw [hA,hB,hC,eC,hD]
  simp only
  rw [r1,Int.toNat_of_nonneg hs0,Int.toNat_of_nonneg hc.1,Int.toNat_of_nonneg hp.1]
 ·unfold cuD
  rw [eC,hD]
  simp [regsE]
def LetFit (n m : Nat) (l : List (Int × List UInt8)) : Prop := ∀ x ∈ l,(0 ≤ x.1 ∧ x.1 < n) ∧ x.2 ≠ [] ∧ x.2.length ≤ m
theorem let_u {n : Nat} (hn : n ≤ 256) {y : Int × List UInt8} (h : 0 ≤ y.1 ∧ y.1 < n) (m : List UInt8) : (cok (letE y ++ m)).u 1 = (y.1.toNat,cok (txtE y.2 ++ m)) := by
 unfold letE
 rw [List.cons_append,u_one,UInt8.toNat_ofNat',Nat.mod_eq_of_lt kc]
theorem box_back {n : Nat} (hn : n ≤ 256) (m : List UInt8) : ∀ (l b : List (Int × List UInt8)),LetFit n 16 l → boxC n l.length b (cok (letsE l ++ m)) = some (b ++ l,cok m)
 | [],b,_ => by simp [boxC,letsE]
 | y :: l,b,h => by
  obtain ⟨h1,h2,h3⟩ := h y (.head _)
  have e : letsE (y :: l) ++ m = letE y ++ (letsE l ++ m) := by simp [letsE]
  have hu := let_u hn h1 (letsE l ++ m)
  rw [List.length_cons,e]
  have hg : getC ((cok (letE y ++ (letsE l ++ m))).u 1).2 16 = ((y.2,true),cok (letsE l ++ m)) := by rw [hu];exact get_txt _ _ _ h3 kc
  rw [boxC_so hg ⟨by rw [hu];simp only;omega,h2⟩,hu]
  have hy : ((y.1.toNat : Int),y.2) = y := by rw [Int.toNat_of_nonneg h1.1]
  simp only
  rw [hy,box_back hn m l _ fun x hx => h x (.tail _ hx)]
  simp
theorem row_back {n : Nat} (hn : n ≤ 256) {x : Sta} {s : List UInt8} {l : List (Int × List UInt8)} (hx : StaFit x) (hs : s.length ≤ 64) (hl : l.length ≤ 4) (hf : LetFit n 16 l) (m : List UInt8) : rowC n (cok (rowE x s l ++ m)) = some ((x,s,l),cok m) := by
 have e : rowE x s l ++ m = staE x ++ (txtE s ++ (UInt8.ofNat l.length :: (letsE l ++ m))) := by simp [rowE]
 obtain ⟨h1,h2⟩ := sta_back hx (txtE s ++ (UInt8.ofNat l.length :: (letsE l ++ m)))
 have hg : getC (cuD (cok (rowE x s l ++ m))) 64 = ((s,true),cok (UInt8.ofNat l.length :: (letsE l ++ m))) := by rw [e,h2];exact get_txt _ _ _ hs kc
 have hu : (cok (UInt8.ofNat l.length :: (letsE l ++ m))).u 1 = (l.length,cok (letsE l ++ m)) := by rw [u_one,UInt8.toNat_ofNat',Nat.mod_eq_of_lt kc]
 rw [rowC_bx hg (by rw [hu];exact hl),hu]
 simp only
 rw [box_back hn m l [] hf]
 simp only [List.nil_append]
 rw [e,h1]
theorem rows_back {n : Nat} (hn : n ≤ 256) (m : List UInt8) : ∀ (L : List Sta) (ins : List (List UInt8)) (bx : List (List (Int × List UInt8))) (r : Rws),ins.length = L.length → bx.length = L.length → (∀ x ∈ L,StaFit x) → (∀ s ∈ ins,s.length ≤ 64) → (∀ l ∈ bx,l.length ≤ 4 ∧ LetFit n 16 l) →
  rowsC n L.length r (cok (rowsE L ins bx ++ m)) = some (⟨r.L ++ L,r.ins ++ ins,r.bx ++ bx⟩,cok m)
 | [],[],[],r,_,_,_,_,_ => by
  have e : rowsC n ([] : List Sta).length r (cok (rowsE [] [] [] ++ m)) = some (r,cok (rowsE [] [] [] ++ m)) := rfl
  rw [e]
  simp [rowsE]
 | x :: L,s :: ins,l :: bx,r,h1,h2,h3,h4,h5 => by
  have e : rowsE (x :: L) (s :: ins) (l :: bx) ++ m = rowE x s l ++ (rowsE L ins bx ++ m) := by simp [rowsE]
  obtain ⟨h6,h7⟩ := h5 l (.head _)
  rw [List.length_cons,e,rowsC_so (row_back hn (h3 x (.head _)) (h4 s (.head _)) h6 h7 _)]
  simp only
  rw [rows_back hn m L ins bx _ (by simpa using h1) (by simpa using h2) (fun y hy => h3 y (.tail _ hy)) (fun y hy => h4 y (.tail _ hy)) fun y hy => h5 y (.tail _ hy)]
  simp
def usedN : List (Int × List UInt8) → Nat
 | [] => 0
 | y :: l => y.2.length + usedN l
theorem lin_back {n : Nat} (hn : n ≤ 256) (m : List UInt8) : ∀ (l b : List (Int × List UInt8)) (u : Nat),LetFit n 64 l → u + usedN l ≤ 256 → linC n l.length u b (cok (letsE l ++ m)) = some (b ++ l,cok m)
 | [],b,u,_,_ => by simp [linC,letsE]
 | y :: l,b,u,h,hu' => by
  obtain ⟨h1,h2,h3⟩ := h y (.head _)
  have e : letsE (y :: l) ++ m = letE y ++ (letsE l ++ m) := by simp [letsE]
  have hu := let_u hn h1 (letsE l ++ m)
  have hN : usedN (y :: l) = y.2.length + usedN l := rfl
  rw [List.length_cons,e]
  have hg : getC ((cok (letE y ++ (letsE l ++ m))).u 1).2 64 = ((y.2,true),cok (letsE l ++ m)) := by rw [hu];exact get_txt _ _ _ h3 kc
  rw [linC_so hg ⟨by rw [hu];simp only;omega,h2,by omega⟩,hu]
  have hy : ((y.1.toNat : Int),y.2) = y := by rw [Int.toNat_of_nonneg h1.1]
  simp only
  rw [hy,lin_back hn m l _ _ (fun x hx => h x (.tail _ hx)) kc]
  simp
theorem tw_get {p : UInt8 → Bool} : ∀ (r : List UInt8) (j : Nat),j < (r.takeWhile p).length → ∃ c,r[j]? = some c ∧ p c = true
 | [],j,h => by simp at h
 | c :: r,j,h => by
  by_cases hc : p c = true
  ·simp only [List.takeWhile,hc,List.length_cons] at h
   cases j with
   | zero => exact ⟨c,rfl,hc⟩
   | succ j => exact tw_get r j kc
  ·have : p c = false := by simpa using hc
   simp [List.takeWhile,this] at h
theorem unp_eq (m at_ : Nat) (f : Nat → Int) (c : Cu) (h : at_ < 65536) (h1 : (c.u 4).1 ≤ 65536 - at_ ∧ ((c.u 4).2.u 4).1 ≤ 65536 - at_ - (c.u 4).1 ∧ ((c.u 4).2.u 4).2.bad = false ∧ (c.u 4).1 + ((c.u 4).2.u 4).1 ≠ 0) (h2 : (((c.u 4).2.u 4).2.take (((c.u 4).2.u 4).1 : Int)).2.bad = false) :
  unpC (m + 1) at_ f c = unpC m (at_ + (c.u 4).1 + ((c.u 4).2.u 4).1) (putF f (at_ + (c.u 4).1) (((c.u 4).2.u 4).2.take (((c.u 4).2.u 4).1 : Int)).1) (((c.u 4).2.u 4).2.take (((c.u 4).2.u 4).1 : Int)).2 := by
 conv => lhs;unfold unpC
 rw [if_pos h,if_pos h1,if_pos h2]
theorem unp_back (tl : List UInt8) : ∀ (m1 m2 : Nat) (r : List UInt8) (at_ : Nat) (f : Nat → Int),r.length ≤ m1 → r.length ≤ m2 → at_ + r.length = 65536 → (∀ j,at_ ≤ j → f j = 0) →
  ∃ f',unpC m1 at_ f (cok (runsE m2 r ++ tl)) = some (f',cok tl) ∧ (∀ j,j < at_ → f' j = f j) ∧ ∀ (j : Nat) c,r[j]? = some c → f' (at_ + j) = (c.toNat : Int) := by
 intro m1
 induction m1 with
 | zero =>
  intro m2 r at_ f h1 h2 h3 h4
  have hr : r = [] := List.length_eq_zero_iff.1 kc
  subst hr
  refine ⟨f,?_,fun _ _ => rfl,fun j c h => by simp at h⟩
  have e : runsE m2 [] = [] := by cases m2 <;> simp [runsE]
  rw [e]
  unfold unpC
  rw [if_neg (by simp at h3;omega)]
  rfl
 | succ m1 ih =>
  intro m2 r at_ f h1 h2 h3 h4
  by_cases hr : r = []
  ·subst hr
   refine ⟨f,?_,fun _ _ => rfl,fun j c h => by simp at h⟩
   have e : runsE m2 [] = [] := by cases m2 <;> simp [runsE]
   rw [e]
   unfold unpC
   rw [if_neg (by simp at h3;omega)]
   rfl
  ·have hrl : 0 < r.length := List.length_pos_iff.2 hr
   obtain ⟨m2,rfl⟩ : ∃ m,m2 = m + 1 := ⟨m2 - 1,by omega⟩
   have hp := run_pos hr
   have hz := tw_le (fun c : UInt8 => decide (c = 0)) r
   change zN r ≤ r.length at hz
   have hk := tw_le (fun c : UInt8 => decide (c ≠ 0)) (r.drop (zN r))
   change nN (r.drop (zN r)) ≤ (r.drop (zN r)).length at hk
   rw [List.length_drop] at hk
   have hzz : ∀ j,j < zN r → r[j]? = some 0 := fun j hj => by
    obtain ⟨c,hc,hc0⟩ := tw_get (p := fun c : UInt8 => decide (c = 0)) r j hj
    rw [hc]
    simp at hc0
    rw [hc0]
   have e1 : runsE (m2 + 1) r = leB 4 (zN r) ++ leB 4 (nN (r.drop (zN r))) ++ (r.drop (zN r)).take (nN (r.drop (zN r))) ++ runsE m2 (r.drop (zN r + nN (r.drop (zN r)))) := by
    conv => lhs;unfold runsE
    rw [if_neg hr]
   generalize zN r = z at *
   generalize nN (r.drop z) = k at *
   have hpl : ((r.drop z).take k).length = k := by rw [List.length_take,List.length_drop];omega
   have hu1 : (cok (runsE (m2 + 1) r ++ tl)).u 4 = (z,cok (leB 4 k ++ ((r.drop z).take k ++ (runsE m2 (r.drop (z + k)) ++ tl)))) := by
    rw [e1]
    simp only [List.append_assoc]
    exact u_leB 4 _ _ kc
   have hu2 : (cok (leB 4 k ++ ((r.drop z).take k ++ (runsE m2 (r.drop (z + k)) ++ tl)))).u 4 = (k,cok ((r.drop z).take k ++ (runsE m2 (r.drop (z + k)) ++ tl))) := u_leB 4 _ _ kc
   have ht : (cok ((r.drop z).take k ++ (runsE m2 (r.drop (z + k)) ++ tl))).take (k : Int) = ((r.drop z).take k,cok (runsE m2 (r.drop (z + k)) ++ tl)) := take_app _ _ _ (by rw [hpl])
   have hst := unp_eq m1 at_ f (cok (runsE (m2 + 1) r ++ tl)) kc (by rw [hu1];simp only;rw [hu2];exact ⟨by (try simp only);omega,by (try simp only);omega,rfl,by (try simp only);omega⟩) (by rw [hu1];simp only;rw [hu2];simp only;rw [ht])
   rw [hu1] at hst
   simp only at hst
   rw [hu2] at hst
   simp only at hst
   rw [ht] at hst
   simp only at hst
   have hfa : ∀ j,¬ (at_ + z ≤ j ∧ j < at_ + z + k) → putF f (at_ + z) ((r.drop z).take k) j = f j := fun j hj => by
    unfold putF
    by_cases h5 : at_ + z ≤ j
    ·rw [if_pos h5,List.getElem?_eq_none (by rw [hpl];omega)]
    ·rw [if_neg h5]
   have hfb : ∀ j (c : UInt8),at_ + z ≤ j → ((r.drop z).take k)[j - (at_ + z)]? = some c → putF f (at_ + z) ((r.drop z).take k) j = (c.toNat : Int) := fun j c h5 hc => by
    unfold putF
    rw [if_pos h5,hc]
   obtain ⟨f',g1,g2,g3⟩ := ih m2 (r.drop (z + k)) (at_ + z + k) (putF f (at_ + z) ((r.drop z).take k)) j3 j3 j3 (fun j hj => by rw [hfa _ kc];exact h4 j kc)
   refine ⟨f',by rw [hst];exact g1,fun j hj => by rw [g2 j kc,hfa _ kc],fun j c hj => ?_⟩
   by_cases h5 : j < z
   ·have := hzz j h5
    rw [hj] at this
    cases this
    rw [g2 _ kc,hfa _ kc,h4 _ kc]
    rfl
   ·by_cases h6 : j < z + k
    ·rw [g2 _ kc]
     exact hfb _ _ kc (by rw [List.getElem?_take_of_lt kc,List.getElem?_drop,show z + (at_ + j - (at_ + z)) = j by omega,hj])
    ·have := g3 (j - (z + k)) c (by rw [List.getElem?_drop,show z + k + (j - (z + k)) = j by omega];exact hj)
     rw [show at_ + z + k + (j - (z + k)) = at_ + j by omega] at this
     exact this
structure SnFit (n : Nat) (t : Int) (L : List Sta) (ins : List (List UInt8)) (bx : List (List (Int × List UInt8))) (ll : List (Int × List UInt8)) (f : Nat → Int) : Prop where
 hn : L.length = n ∧ n ≤ 255
 ht : t = -1 ∨ (0 ≤ t ∧ t < 255)
 hL : ∀ x ∈ L,StaFit x
 hi : ins.length = n ∧ ∀ s ∈ ins,s.length ≤ 64
 hb : bx.length = n ∧ ∀ l ∈ bx,l.length ≤ 4 ∧ LetFit n 16 l
 hl : LetFit n 64 ll ∧ usedN ll ≤ 256 ∧ ll.length ≤ 1000
 hf : FB f
section
variable {n : Nat} {t : Int} {L : List Sta} {ins : List (List UInt8)} {bx : List (List (Int × List UInt8))} {ll : List (Int × List UInt8)} {f : Nat → Int}
theorem body_split : bodyE n t L ins bx ll f = magL ++ (UInt8.ofNat n :: turnE t :: (rowsE L ins bx ++ (linesE ll ++ runsE 65536 (memL f 0 65536)))) := by
 simp [bodyE,headE]
theorem turn_back (h : t = -1 ∨ (0 ≤ t ∧ t < 255)) : turnC (turnE t).toNat = t := by
 unfold turnC turnE
 rcases h with rfl | h
 ·rfl
 ·have e : (if t < 0 then 255 else t.toNat) = t.toNat := if_neg kc
  have e2 : (UInt8.ofNat t.toNat).toNat = t.toNat := by rw [UInt8.toNat_ofNat',Nat.mod_eq_of_lt kc]
  rw [e,e2,if_neg kc]
  omega
theorem state_back (h : SnFit n t L ins bx ll f) : ∃ f',stateC n (cok (UInt8.ofNat n :: turnE t :: (rowsE L ins bx ++ (linesE ll ++ runsE 65536 (memL f 0 65536))))) = some ⟨t,⟨L,ins,bx⟩,ll,f'⟩ ∧ ∀ j,j < 65536 → f' j = f j := by
 obtain ⟨⟨h1,h1'⟩,h2,h3,⟨h4,h4'⟩,⟨h5,h5'⟩,⟨h6,h7,h7'⟩,h8⟩ := h
 obtain ⟨f',g1,_,g3⟩ := unp_back [] 65536 65536 (memL f 0 65536) 0 (fun _ => 0) (by rw [memL_len];exact Nat.le_refl _) (by rw [memL_len];exact Nat.le_refl _) (by rw [memL_len]) (fun _ _ => rfl)
 rw [List.append_nil] at g1
 refine ⟨f',?_,fun j hj => ?_⟩
 ·have e1 : (cok (UInt8.ofNat n :: turnE t :: (rowsE L ins bx ++ (linesE ll ++ runsE 65536 (memL f 0 65536))))).u 1 = (n,cok (turnE t :: (rowsE L ins bx ++ (linesE ll ++ runsE 65536 (memL f 0 65536))))) := by
   rw [u_one,UInt8.toNat_ofNat',Nat.mod_eq_of_lt kc]
  have e2 : (cok (turnE t :: (rowsE L ins bx ++ (linesE ll ++ runsE 65536 (memL f 0 65536))))).u 1 = ((turnE t).toNat,cok (rowsE L ins bx ++ (linesE ll ++ runsE 65536 (memL f 0 65536)))) := u_one _ _
  have e3 := rows_back (n := n) kc (linesE ll ++ runsE 65536 (memL f 0 65536)) L ins bx ⟨[],[],[]⟩ (by rw [h4,h1]) (by rw [h5,h1]) h3 h4' h5'
  rw [h1] at e3
  simp only [List.nil_append] at e3
  have e4 : (cok (linesE ll ++ runsE 65536 (memL f 0 65536))).u 2 = (ll.length,cok (letsE ll ++ runsE 65536 (memL f 0 65536))) := by
   unfold linesE
   rw [List.append_assoc]
   exact u_leB 2 _ _ kc
  have e5 := lin_back (n := n) kc (runsE 65536 (memL f 0 65536)) ll [] 0 h6 kc
  rw [List.nil_append] at e5
  unfold stateC
  rw [e1]
  show (if n = n then _ else none) = _
  rw [if_pos rfl,e2]
  simp only
  rw [e3,turn_back h2]
  simp only
  unfold tailC
  rw [e4]
  simp only
  rw [e5]
  simp only
  rw [g1]
  rfl
 ·have := g3 j (UInt8.ofNat (f (0 + j)).toNat) (by unfold memL;rw [List.getElem?_map,List.getElem?_range hj];rfl)
  rw [Nat.zero_add] at this
  rw [this]
  have := h8 j
  rw [UInt8.toNat_ofNat',Nat.mod_eq_of_lt kc]
  omega
theorem state_other {n' : Nat} (hn : n ≤ 255) (h : n' ≠ n) (r : List UInt8) : stateC n' (cok (UInt8.ofNat n :: r)) = none := by
 unfold stateC
 rw [u_one,UInt8.toNat_ofNat',Nat.mod_eq_of_lt kc]
 exact if_neg fun e => h e.symm
theorem dec_enc {n' : Nat} : decC n' (encE n t L ins bx ll f) = stateC n' (cok (UInt8.ofNat n :: turnE t :: (rowsE L ins bx ++ (linesE ll ++ runsE 65536 (memL f 0 65536))))) := by
 have hd : (digE (bodyE n t L ins bx ll f)).length = 32 := by simp [digE]
 have e1 : (encE n t L ins bx ll f).length - 32 = (bodyE n t L ins bx ll f).length := by unfold encE;rw [List.length_append,hd];omega
 have e2 : (encE n t L ins bx ll f).take (bodyE n t L ins bx ll f).length = bodyE n t L ins bx ll f := by unfold encE;exact List.take_left
 have e3 : (encE n t L ins bx ll f).drop (bodyE n t L ins bx ll f).length = digE (bodyE n t L ins bx ll f) := by unfold encE;exact List.drop_left
 have e4 : (cok (bodyE n t L ins bx ll f)).take 8 = (magL,cok (UInt8.ofNat n :: turnE t :: (rowsE L ins bx ++ (linesE ll ++ runsE 65536 (memL f 0 65536))))) := by
  rw [body_split]
  exact take_app magL _ 8 rfl
 unfold decC
 rw [if_neg (by unfold encE;rw [List.length_append,hd];omega),e1,e2,e3,if_neg (fun h => h rfl),e4,if_neg (fun h => h rfl)]
end
theorem usedN_eq : ∀ l : List (Int × List UInt8),usedN l = usedL l
 | [] => rfl
 | y :: l => by
  have h1 : usedN (y :: l) = y.2.length + usedN l := rfl
  have h2 : usedL (y :: l) = y.2.length + usedL l := by simp [usedL]
  rw [h1,h2,usedN_eq l]
structure BackS (M M' : Mv2) (t : Int) (L : List Sta) (ins : List (List UInt8)) (bx : List (List (Int × List UInt8))) (ll : List (Int × List UInt8)) (f : Nat → Int) : Prop where
 L : M'.L = L ∧ M'.t = t ∧ M'.ins = ins ∧ M'.ll = ll
 b : M'.bx = bxK (fun j => bx.getD j []) M.L.length
 f : ∀ j,j < 65536 → M'.f j = f j
 p : M'.pv = M.pv ∧ M'.ev = M.ev
theorem sDecEnc (base : Nat) (I : Mi) (M : Mv2) (a1 a2 : Option Addr) (c1 c2 : Nat) (v : Value) (n' : Nat) (t : Int) (L : List Sta) (ins : List (List UInt8)) (bx : List (List (Int × List UInt8))) (ll : List (Int × List UInt8)) (f : Nat → Int) (w : World) (hM : MonS w base I M) (hb : base ≤ w.heap.size) (hn : M.L.length ≤ 255)
  (hpv : M.pv = .slice a1 M.L.length c1) (hev : M.ev = .slice a2 M.L.length c2) (hv : Bs w v (encE n' t L ins bx ll f)) (hvb : ∀ k,v.ownBlock = some k → k < w.heap.size) (hl : (encE n' t L ins bx ll f).length ≤ 10000000) (hf : SnFit n' t L ins bx ll f) (hset : SetOk L t) (hK : ArrAt w 1 0 .u32 64 Sha.K) :
  Calls Tryz.prog 47 #[v,.pointer (some ⟨I.m,0,none⟩)] w fun e w' => Upd (fun k => w.heap.size ≤ k) w w' ∧
   ((n' ≠ M.L.length ∧ ∃ z : Int,z ≠ 0 ∧ e = .returned (.tuple #[.pointer none,.int .i64 z])) ∨
   (n' = M.L.length ∧ ∃ I' M' b',e = .returned (.tuple #[.pointer (some ⟨I'.m,0,none⟩),.int .i64 0]) ∧ MonS w' b' I' M' ∧ (w.heap.size ≤ b' ∧ b' ≤ w'.heap.size) ∧ BackS M M' t L ins bx ll f)) := by
 obtain ⟨f',hback,hff⟩ := state_back hf
 refine (sDecode (fun ws e w' => ∃ I' M',e = .returned (.tuple #[.pointer (some ⟨I'.m,0,none⟩),.int .i64 0]) ∧ MonS w' ws.heap.size I' M' ∧ BackS M M' t L ins bx ll f) base I M v _ w hM kc hv (fun k hk _ => hvb k hk) hl hK ?_).mono ?_
 ·intro S hS ws sv iv bv lv cM vs hT hcM uS hMs
  rw [dec_enc] at hS
  have hnn : n' = M.L.length := Classical.byContradiction fun h => by
   rw [state_other hf.hn.2 (fun e => h e.symm)] at hS
   cases hS
  rw [← hnn,hback] at hS
  cases hS
  have hLl : L.length = M.L.length := by rw [hf.hn.1,hnn]
  have hil : ins.length = M.L.length := by rw [hf.hi.1,hnn]
  have hbl : bx.length = M.L.length := by rw [hf.hb.1,hnn]
  have hget : ∀ j,j < M.L.length → ∃ l,bx[j]? = some l ∧ bx.getD j [] = l := fun j hj => ⟨_,List.getElem?_eq_getElem kc,by rw [List.getD_eq_getElem?_getD,List.getElem?_eq_getElem kc];rfl⟩
  have hA := Sv.ofOwn hT.s
  have hI := Sv.ofOwn hT.i
  have hB := Sv.ofOwn hT.b
  have hLn := Sv.ofOwn hT.l
  simp only at hA hI hB hLn
  rw [hLl] at hA
  rw [hil] at hI
  rw [hbl] at hB
  refine (mWithL base I M L t a1 a2 c1 c2 cM sv iv bv lv vs ins (fun j => bx.getD j []) ll f' ws hMs (by have := uS.size;omega) hpv hev hA hLl (fun x hx => (hf.hL x hx).1) (.inl hset) hI (fun s hs => by have := hf.hi.2 s hs;omega) hB ?_ ?_ hLn ?_ (by rw [← usedN_eq];exact hf.hl.2.1) hf.hl.2.2 hT.m).mono ?_
  ·intro j hj
   obtain ⟨l,e1,e2⟩ := hget j hj
   obtain ⟨v',e3,e4⟩ := hT.bl.2 j l e1
   exact ⟨v',e3,by rw [e2];exact Sv.ofOwn e4⟩
  ·intro j hj
   obtain ⟨l,e1,e2⟩ := hget j hj
   obtain ⟨h1,h2⟩ := hf.hb.2 l (List.mem_of_getElem? e1)
   rw [e2]
   exact ⟨by omega,fun x hx => by obtain ⟨⟨q1,q2⟩,q3,q4⟩ := h2 x hx;exact ⟨⟨q1,by omega⟩,q4⟩⟩
  ·intro x hx
   obtain ⟨⟨q1,q2⟩,q3,q4⟩ := hf.hl.1 x hx
   exact ⟨⟨q1,by omega⟩,q3,q4⟩
  ·rintro e w' (⟨_,I',M',rfl,hM',hMe,uW,_⟩ | ⟨hno,_⟩)
   ·refine ⟨⟨_,_,rfl⟩,uW,I',M',rfl,hM',?_⟩
    rw [hMe]
    exact ⟨⟨rfl,rfl,rfl,rfl⟩,rfl,hff,rfl,rfl⟩
   ·refine (hno hset (fun i s hi hs => ?_) fun j hj => ?_).elim
    ·exact hf.hi.2 s (List.mem_of_getElem? hs)
    ·obtain ⟨l,e1,e2⟩ := hget j hj
     obtain ⟨h1,h2⟩ := hf.hb.2 l (List.mem_of_getElem? e1)
     try simp only
     rw [e2]
     exact ⟨h1,fun x hx => by obtain ⟨⟨q1,q2⟩,q3,q4⟩ := h2 x hx;exact ⟨by omega,q3⟩⟩
 ·rintro e w' (⟨h0,u,z,hz,rfl⟩ | ⟨S,hS,ws,w1,u1,u2,⟨I',M',rfl,hM',hB'⟩,u3⟩)
  ·refine ⟨u,.inl ⟨fun h => ?_,z,hz,rfl⟩⟩
   rw [dec_enc,← h,hback] at h0
   cases h0
  ·have z1 := u1.size
   have z2 := u2.size
   have z3 := u3.size
   have hnn : n' = M.L.length := Classical.byContradiction fun h => by
    rw [dec_enc,state_other hf.hn.2 (fun e => h e.symm)] at hS
    cases hS
   exact ⟨(u1.comp u2 (T := fun k => w.heap.size ≤ k) fun k _ h => h.elim id fun h => by omega).comp u3 fun k _ h => h.elim id fun h => h.1,.inr ⟨hnn,I',M',ws.heap.size,rfl,hM'.upd u3 (fun b hb' hs => by have := (hM'.lt b hb').1;omega),⟨by omega,by omega⟩,hB'⟩⟩
end Go.Proofs.YtabbklpalbikdaaGreatDoor
end
