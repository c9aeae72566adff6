/-
 8 texts,one behind the other;each says what it proves. Conditions: as each text says.
-/
import Derived.Test.YtabbklpalbikdaaGreatDoorM03
import Derived.Test.YtabbklpalbikdaaGreatDoorM04
import Derived.Test.YtabbklpalbikdaaGreatDoorM02
import Derived.Test.YtabbklpalbikdaaGreatDoorM01
set_option maxHeartbeats 32000000
set_option linter.unusedVariables false
set_option linter.unusedSimpArgs false
section
namespace Go.Proofs.YtabbklpalbikdaaGreatDoor
open Go.RowKit Go.Pt
def SetNo (L : List Sta) (t : Int) : Prop := (L.length : Int) ≤ t ∨ ((-1 ≤ t ∧ t < L.length) ∧ ∃ x g,L[0]? = some x ∧ (0 ≤ x.s ∧ x.s ≤ 2) ∧ x.xs[0]? = some (.int .u32 g) ∧ g ≠ 0)
theorem SetNo.not {L : List Sta} {t : Int} (h : SetNo L t) : ¬ SetOk L t := by
 rintro ⟨h1,h2,_⟩
 rcases h with h | ⟨_,x,g,hx,_,hg,h0⟩
 ·omega
 ·have := (h1 x (List.mem_of_getElem? hx)).2.2.1
  rw [hg] at this
  cases this
  exact h0 rfl
theorem wSetNo (wd sa : Nat) (L L' : List Sta) (t t' : Int) (v : Value) (w : World) (hW : WardS w wd sa L t) (hA : Sv w 35 L'.length v (stas L').flatten) (hl' : L'.length = L.length) (hok : ∀ x ∈ L',StaOk x) (h : SetNo L' t') :
  Calls Tryz.prog 79 #[.pointer (some ⟨wd,0,none⟩),v,.int .i64 t'] w fun e w' => e = .returned (.int .i64 3) ∧ Hp w [] w' := by
 rcases h with h | ⟨ht,x,g,hx,hs,hg,h0⟩
 ·exact wSetT wd sa L L'.length t t' v _ w hW hA hl' h
 ·exact wSetX wd sa L L' t t' g x v w hW hA hl' hok ht hx hs hg h0
theorem pSendOk (pp pa : Nat) (cs : List Nat) (bx : Nat → List Value) (i ch : Nat) (x : Int × List UInt8) (w : World) (hP : PostS w pp pa cs bx) (hi : cs[i]? = some ch) (hx : x.2 ≠ [] ∧ x.2.length ≤ 16) (h4 : (bx i).length < 4) :
  Calls Tryz.prog 80 #[.pointer (some ⟨pp,0,none⟩),.int .i64 i,letV x] w fun e w' => e = .returned (.int .i64 0) ∧ PostS w' pp pa cs (fun j => if j = i then bx i ++ [letV x] else bx j) ∧ Upd (fun k => k = ch) w w' := by
 refine (pSend pp pa cs bx i ch x w hP hi ⟨List.length_pos_iff.2 hx.1,hx.2⟩).mono ?_
 rintro e w' (⟨_,h⟩ | ⟨h,_⟩)
 ·exact h
 ·omega
theorem pSendRef (pp pa : Nat) (cs : List Nat) (bx : Nat → List Value) (i ch : Nat) (x : Int × List UInt8) (w : World) (hP : PostS w pp pa cs bx) (hi : cs[i]? = some ch) (hx : x.2.length ≤ 16) (h : x.2 = [] ∨ 4 ≤ (bx i).length) :
  Calls Tryz.prog 80 #[.pointer (some ⟨pp,0,none⟩),.int .i64 i,letV x] w fun e w' => (∃ r,decide (r ≠ 0) = true ∧ e = .returned (.int .i64 r)) ∧ Hp w [] w' := by
 by_cases h0 : x.2 = []
 ·refine (pSendNo pp pa cs bx i ch x w hP hi h0).mono ?_
  rintro e w' ⟨rfl,h⟩
  exact ⟨⟨1,by decide,rfl⟩,h⟩
 ·refine (pSend pp pa cs bx i ch x w hP hi ⟨List.length_pos_iff.2 h0,hx⟩).mono ?_
  rintro e w' (⟨h',_⟩ | ⟨_,rfl,h'⟩)
  ·exact absurd (h.resolve_left h0) kf
  ·exact ⟨⟨16,by decide,rfl⟩,h'⟩
theorem MonF.lv {I : Mi} {M : Mv2} {lv' : Value} {ll' : List (Int × List UInt8)} {u' : Int} {b : Nat} (h : MonF I {M with lv := lv',ll := ll',used := u'} b) : MonF I M b ∨ lv'.ownBlock = some b := by
 rcases h with h | h | h | h | h | h | h | h | h | h | h | h | h
 ·exact .inl (.inl h)
 ·exact .inl (.inr (.inl h))
 ·exact .inl (.inr (.inr (.inl h)))
 ·exact .inl (.inr (.inr (.inr (.inl h))))
 ·exact .inl (.inr (.inr (.inr (.inr (.inl h)))))
 ·exact .inl (.inr (.inr (.inr (.inr (.inr (.inl h))))))
 ·exact .inl (.inr (.inr (.inr (.inr (.inr (.inr (.inl h)))))))
 ·exact .inl (.inr (.inr (.inr (.inr (.inr (.inr (.inr (.inl h))))))))
 ·exact .inl (.inr (.inr (.inr (.inr (.inr (.inr (.inr (.inr (.inl h)))))))))
 ·exact .inl (.inr (.inr (.inr (.inr (.inr (.inr (.inr (.inr (.inr (.inl h))))))))))
 ·exact .inl (.inr (.inr (.inr (.inr (.inr (.inr (.inr (.inr (.inr (.inr (.inl h)))))))))))
 ·exact .inr h
 ·exact .inl (.inr (.inr (.inr (.inr (.inr (.inr (.inr (.inr (.inr (.inr (.inr (.inr h))))))))))))
def bxK (ls : Nat → List (Int × List UInt8)) (k : Nat) : Nat → List Value := fun j => if j < k then (ls j).map letV else []
theorem mWithL (base : Nat) (I : Mi) (M : Mv2) (L' : List Sta) (t' : Int) (a1 a2 : Option Addr) (c1 c2 cM' : Nat) (sv iv bv lv : Value) (vs : List Value) (ins' : List (List UInt8)) (ls : Nat → List (Int × List UInt8)) (ll : List (Int × List UInt8)) (f' : Nat → Int) (w : World) (hM : MonS w base I M) (hb : base ≤ w.heap.size) (hpv : M.pv = .slice a1 M.L.length c1) (hev : M.ev = .slice a2 M.L.length c2)
  (hA : Sv w 35 M.L.length sv (stas L').flatten) (hl' : L'.length = M.L.length) (hokA : ∀ x ∈ L',StaOk x) (hset : SetOk L' t' ∨ SetNo L' t')
  (hI : Sv w 1 M.L.length iv (ins'.map strV)) (hins : ∀ s ∈ ins',s.length ≤ 100000)
  (hB : Sv w 1 M.L.length bv vs) (hBl : ∀ j,j < M.L.length → ∃ v,vs[j]? = some v ∧ Sv w 2 (ls j).length v ((ls j).map lineC).flatten) (hBt : ∀ j,j < M.L.length → (ls j).length ≤ 1000 ∧ ∀ x ∈ ls j,(0 ≤ x.1 ∧ x.1 ≤ 1000) ∧ x.2.length ≤ 16)
  (hL : Sv w 2 ll.length lv (ll.map lineC).flatten) (hll : ∀ x ∈ ll,(0 ≤ x.1 ∧ x.1 < M.L.length) ∧ x.2 ≠ [] ∧ x.2.length ≤ 64) (hlu : usedL ll ≤ 256) (hln : ll.length ≤ 1000) (hm' : memH w cM' f') :
  Calls Tryz.prog 29 #[.pointer (some ⟨I.m,0,none⟩),.agg #[.int .i64 t',sv,iv,bv,lv,.pointer (some ⟨cM',0,none⟩)]] w fun e w' =>
   ((SetOk L' t' ∧ (∀ i s,i < M.L.length → ins'[i]? = some s → s.length ≤ 64) ∧ ∀ j,j < M.L.length → BoxOk M.L.length (ls j)) ∧ ∃ I' M',e = .returned (.tuple #[.pointer (some ⟨I'.m,0,none⟩),.int .i64 0]) ∧ MonS w' w.heap.size I' M' ∧ M' = ⟨M.pv,M.ev,.slice none 0 0,M'.lv,0,[],L',t',bxK ls M.L.length,ll,usedL ll,ins',f',xz,0,M'.cf⟩ ∧ Upd (fun k => w.heap.size ≤ k) w w' ∧ (ll = [] → M'.lv = .slice none 0 0)) ∨
   ((SetOk L' t' → (∀ i s,i < M.L.length → ins'[i]? = some s → s.length ≤ 64) → (∀ j,j < M.L.length → BoxOk M.L.length (ls j)) → False) ∧ e = .returned (.tuple #[.pointer none,.int .i64 3]) ∧ Upd (fun k => w.heap.size ≤ k) w w') := by
 have hM0 := hM
 have hn1 := hM.ward.2.2
 have hA0 := hA
 have hcnt := fun wq (k : MonS wq base I M) => wCount I.wd I.sa M.L M.t wq k.ward
 obtain ⟨_,sa0,sc0,rfl,_⟩ := hA
 obtain ⟨il,ia0,ic0,rfl,_,_,_,hi2⟩ := hI
 obtain ⟨bl,ba0,bc0,rfl,_,_,_,hb2⟩ := hB
 obtain ⟨_,la,lc,rfl,_,_,_,hlc⟩ := hL
 obtain ⟨ib,io,rfl,hic⟩ := hi2 (fun e => by rw [e] at il;simp at il;omega)
 obtain ⟨bb,bo,rfl,hbc⟩ := hb2 (fun e => by rw [e] at bl;simp at bl;omega)
 clear hi2 hb2
 have hil : ins'.length = M.L.length := by simpa using il
 have hvl : vs.length = M.L.length := by simpa using bl
 have q0 : w.cell? ⟨I.m,2,none⟩ = some (.pointer (some ⟨I.wd,0,none⟩)) := cell_of hM.mm rfl
 have l0 := (hM.lt I.m (.inl rfl)).2
 have lM' := lt_of_block hm'
 have hdd : ∀ w',MonS w' base I M → w'.heap[I.d]? = some (.cells #[.slice a1 M.L.length c1,.slice a2 M.L.length c2,.pointer (some ⟨I.cM,0,none⟩),.pointer (some ⟨I.pp,0,none⟩),.pointer (some ⟨I.bd,0,none⟩)] 139 (0,0)) := fun w' k => by
  have h := k.dd
  rw [hpv,hev] at h
  exact h
 have dl : decide ((M.L.length : Int) ≠ (M.L.length : Int)) = false := decide_eq_false kf
 refine enter (args := [_,_]) (Γ := [(0,_),(1,_)]) Tryz.func29 Tryz.ntmps29 rfl odq (.cons rfl (.cons rfl .nil)) ?_
 repeat' first | (apply Wl.loadO;exact rfl;exact rfl;exact zs;exact km) | refine Wl.move rfl rfl ?_ | refine Wl.assign rfl rfl ?_ | refine Wl.nilCheck rfl rfl ?_ | refine Wl.fieldAddrZ rfl rfl ?_ | refine Wl.eqlPN rfl rfl rfl ?_ | (apply Wl.boxA;exact rfl;exact rfl;intro c hc ho) | apply Wl.nil | apply St.seq | apply St.region | (apply St.condF;exact rfl;exact k5) | apply St.skip | apply Gt.next
 apply Wl.callQ
 exact rfl
 (focus repeat constructor)
 ·intro wq hq
  exact hq.q (hcnt wq (hM.hp0 hM0 hq k6))
 repeat' first | refine Wl.move rfl rfl ?_ | refine Wl.assign rfl rfl ?_ | (apply Wl.on;exact rfl;exact rfl;exact k5) | (apply Wl.pickF;exact rfl;exact rfl;exact k5;exact rfl) | refine Wl.fieldAddrZ rfl rfl ?_ | (apply Wl.loadH;exact rfl;exact rfl;exact kd;exact rfl) | refine Wl.eqlPN rfl rfl rfl ?_ | (apply Wl.neqIs;exact rfl;exact rfl;exact rfl;exact kw) | refine Wl.len rfl rfl ?_ | apply Wl.nil | apply St.seq | apply St.region | (apply St.condF;exact rfl;exact k5) | apply St.skip | apply Gt.next
 apply Wl.makeSlice (n := M.L.length)
 ·exact rfl
 ·exact rfl
 ·exact rfl
 ·rw [Nat.ble_eq];omega
 ·omega
 intro st hst host
 have hst1 : w.heap.size ≤ st ∧ c ≠ st := ⟨hst,host.1⟩
 rw [mZ M.L.length kf]
 repeat' first | refine Wl.assign rfl rfl ?_ | apply Wl.nil | apply St.seq | apply Gt.next
 refine St.tree (fun w' => MonS w' base I M ∧ w'.heap[c]? = some (.cells #[.int .i64 t',.slice sa0 M.L.length sc0,.slice (some ⟨ib,io,none⟩) M.L.length ic0,.slice (some ⟨bb,bo,none⟩) M.L.length bc0,.slice la ll.length lc,.pointer (some ⟨cM',0,none⟩)] 54 (0,0))) mixed (fun _ h' => ⟨Hp.drew h',hM.hp0 hM0 (Hp.drew h') k6,(Hp.drew h').own.at (.tail _ (.head _))⟩) ?_
 refine Mt.pm 0 ?_
 refine Mt.pm 7 ?_
 refine Mt.pm 14 ?_
 refine Mt.pz 15 ?_
 refine Mt.pn 1 ?_
 refine Mt.pn 8 ?_
 refine Mt.pu 16 ?_
 apply Wl.loadF;exact rfl;exact rfl;(intro w' h';first | exact cell_of h'.1.mm rfl | exact cell_of (hdd _ h'.1) rfl | exact cell_of h'.2 rfl);apply Wl.nilB
 refine Mt.pz 2 ?_
 refine Mt.pz 9 ?_
 refine Mt.pu 3 ?_
 apply Wl.loadF;exact rfl;exact rfl;(intro w' h';first | exact cell_of h'.1.mm rfl | exact cell_of (hdd _ h'.1) rfl | exact cell_of h'.2 rfl);apply Wl.nilB
 refine Mt.pu 10 ?_
 apply Wl.loadF;exact rfl;exact rfl;(intro w' h';first | exact cell_of h'.1.mm rfl | exact cell_of (hdd _ h'.1) rfl | exact cell_of h'.2 rfl);apply Wl.nilB
 refine Mt.pn 4 ?_
 refine Mt.pn 11 ?_
 refine Mt.pf 5 ?_
 refine Mt.pz 12 ?_
 refine Mt.pu 6 ?_
 apply Wl.loadF;exact rfl;exact rfl;(intro w' h';first | exact cell_of h'.1.mm rfl | exact cell_of (hdd _ h'.1) rfl | exact cell_of h'.2 rfl);apply Wl.nilB
 refine Mt.pu 13 ?_
 apply Wl.loadF;exact rfl;exact rfl;(intro w' h';first | exact cell_of h'.1.mm rfl | exact cell_of (hdd _ h'.1) rfl | exact cell_of h'.2 rfl);apply Wl.nilB
 refine Mt.e1 17 ?_
 apply Wl.callC
 ·exact rfl
 ·exact kd
 intro wq2 hq2
 have hMq := hM.hp0 hM0 hq2 k6
 have zq2 := hq2.upd.size
 have hltC : ∀ x : Blk,x ∈ _ → x.b < wq2.heap.size := fun x hx => hq2.own.lt hx
 simp only [List.mem_cons,List.not_mem_nil,or_false,forall_eq_or_imp,forall_eq] at hltC
 refine (mcopy cM' f' wq2 (hq2.upd.heap hm' fun y => y km)).mono ?_
 rintro e wC ⟨cC,rfl,hcC,hmC,uC⟩
 have hqC := hq2.newer uC
 have zC := uC.size
 have hwC : Upd (fun k => w.heap.size ≤ k) w wC := hqC.on (Upd.refl _ _) k6
 have hM := hMq.new uC (Nat.le_refl _)
 have lmC := lt_of_block hmC
 refine ⟨_,_,rfl,hqC.rb,?_⟩
 clear hMq
 apply Wl.nil
 refine Mt.backE (fun _ h' => ⟨hM.hp0 hM0 h' k6,h'.own.at (.tail _ (.head _))⟩) ?_
 refine Mt.e1 18 ?_
 apply Wl.callC
 ·exact rfl
 ·exact kd
 intro wq3 hq3
 have hMq := hM.hp0 hM0 hq3 k6
 have zq3 := hq3.upd.size
 have hltN : ∀ x : Blk,x ∈ _ → x.b < wq3.heap.size := fun x hx => hq3.own.lt hx
 simp only [List.mem_cons,List.not_mem_nil,or_false,forall_eq_or_imp,forall_eq] at hltN
 refine (monNew a1 a2 (some ⟨st,0,none⟩) M.L.length c1 c2 _ cC (fun _ => 0) f' wq3 hn1 (wordZ (hq3.own.at (.head _))) (hq3.upd.heap hmC fun y => y km) w.heap.size kf kf).mono ?_
 rintro e wN ⟨I',M',rfl,hN,hNc,hNM,hNf,uN⟩
 have hqN := hq3.newer uN
 have zN := uN.size
 have hwN : Upd (fun k => w.heap.size ≤ k) w wN := hqN.on hwC k6
 have hM := hMq.new uN (Nat.le_refl _)
 refine ⟨_,_,rfl,hqN.rb,?_⟩
 clear hMq
 apply Wl.nil
 refine Mt.backE (fun _ h' => ⟨hM.hp0 hM0 h' k6,h'.own.at (.tail _ (.head _))⟩) ?_
 refine Mt.pm 19 ?_
 refine Mt.pu 20 ?_
 refine Wl.extract rfl rfl rfl (Wl.nilB ?_)
 refine Mt.pu 21 ?_
 refine Wl.extract rfl rfl rfl (Wl.nilB ?_)
 refine Mt.pu 22 ?_
 refine Wl.assign rfl rfl (Wl.nilB ?_)
 refine Mt.pu 23 ?_
 refine Wl.assign rfl rfl (Wl.nilB ?_)
 refine Mt.toGt ka ?_
 repeat' first | apply St.seq | apply Gt.next
 obtain ⟨pv',ev',seen',lv',sn',sx',L0,t0,bx',ll',used',ins0,f0,xs',pc',cf'⟩ := M'
 cases hNM
 have hof : ∀ b,MonF I' _ b → Off [⟨st,List.replicate M.L.length (Value.int .u32 0),25⟩,⟨c,[.int .i64 t',.slice sa0 M.L.length sc0,.slice (some ⟨ib,io,none⟩) M.L.length ic0,.slice (some ⟨bb,bo,none⟩) M.L.length bc0,.slice la ll.length lc,.pointer (some ⟨cM',0,none⟩)],54⟩] b := fun b hb => by
  by_cases e : b = cC
  ·exact ⟨by simp only;omega,by simp only;omega,trivial⟩
  ·have := hNf b hb e;exact ⟨by simp only;omega,by simp only;omega,trivial⟩
 have hlN := hN.lts
 have lcN : c < wN.heap.size ∧ st < wN.heap.size := by omega
 clear hM hq2 hq3 hqC hqN
 skip
 refine St.tree (fun w' => WiB w w' I' ⟨.slice a1 M.L.length c1,.slice a2 M.L.length c2,.slice none 0 0,.slice none 0 0,0,[],newL (fun _ => 0) M.L.length,0,fun _ => [],[],0,List.replicate M.L.length [],f',xz,0,cf'⟩ c [.int .i64 t',.slice sa0 M.L.length sc0,.slice (some ⟨ib,io,none⟩) M.L.length ic0,.slice (some ⟨bb,bo,none⟩) M.L.length bc0,.slice la ll.length lc,.pointer (some ⟨cM',0,none⟩)]) mixed (fun _ h' => ⟨Hp.drew h',have k := hN.upd (Hp.drew h').upd fun b hb y => y (hof b hb);⟨k.mm,k.dd,(Hp.drew h').own.at (.tail _ (.head _)),(Hp.drew h').on hwN k6⟩⟩) ?_
 rcases hset with hset | hno
 rotate_left
 ·skip
  refine Mt.pm 0 ?_
  refine Mt.pz 4 ?_
  refine Mt.pf 6 ?_
  refine Mt.pn 1 ?_
  refine Mt.pu 5 ?_
  apply Wl.loadF;exact rfl;exact rfl;(intro w' h';first | exact cell_of h'.mm rfl | exact cell_of h'.dd rfl | exact cell_of h'.cc rfl);apply Wl.nilB
  refine Mt.pu 7 ?_
  apply Wl.loadF;exact rfl;exact rfl;(intro w' h';first | exact cell_of h'.mm rfl | exact cell_of h'.dd rfl | exact cell_of h'.cc rfl);apply Wl.nilB
  refine Mt.pz 2 ?_
  refine Mt.pu 3 ?_
  apply Wl.loadF;exact rfl;exact rfl;(intro w' h';first | exact cell_of h'.mm rfl | exact cell_of h'.dd rfl | exact cell_of h'.cc rfl);apply Wl.nilB
  refine Mt.e1 8 ?_
  apply Wl.callQ
  ·exact rfl
  ·exact kd
  ·intro wq hq
   refine (wSetNo I'.wd I'.sa _ L' _ t' _ wq (hN.upd hq.upd fun b hb y => y (hof b hb)).ward (hl'.symm ▸ hA0.upd (hq.on hwN k6) fun k _ hk _ => by omega) (by rw [hl'];exact (newL_len _ _).symm) hokA hno).mono ?_
   rintro e wr ⟨rfl,hr'⟩
   exact ⟨rfl,hq.keep hr'⟩
  apply Wl.nil
  refine Mt.backE (fun _ h' => have k := hN.upd h'.upd fun b hb y => y (hof b hb);⟨k.mm,k.dd,h'.own.at (.tail _ (.head _)),h'.on hwN k6⟩) ?_
  refine Mt.pu 9 ?_
  refine Wl.neq rfl rfl rfl (Wl.nilB ?_)
  refine Mt.toGt ka ?_
  repeat' first | refine Wl.assign rfl rfl ?_ | apply Wl.nil | apply St.seq | apply St.region | (apply St.condT;exact rfl;exact k5) | apply St.ret | apply Gt.next | apply Gt.thenRet | (apply Gt.out2;exact rfl;exact rfl;exact rfl;intro w' hp)
  exact .inr ⟨fun h => (hno.not h).elim,rfl,hp.on hwN k6⟩
 have hset0 := hset
 obtain ⟨hok,ht,hany,hr⟩ := hset
 refine Mt.pm 0 ?_
 refine Mt.pz 4 ?_
 refine Mt.pf 6 ?_
 refine Mt.pn 1 ?_
 refine Mt.pu 5 ?_
 apply Wl.loadF;exact rfl;exact rfl;(intro w' h';first | exact cell_of h'.mm rfl | exact cell_of h'.dd rfl | exact cell_of h'.cc rfl);apply Wl.nilB
 refine Mt.pu 7 ?_
 apply Wl.loadF;exact rfl;exact rfl;(intro w' h';first | exact cell_of h'.mm rfl | exact cell_of h'.dd rfl | exact cell_of h'.cc rfl);apply Wl.nilB
 refine Mt.pz 2 ?_
 refine Mt.pu 3 ?_
 apply Wl.loadF;exact rfl;exact rfl;(intro w' h';first | exact cell_of h'.mm rfl | exact cell_of h'.dd rfl | exact cell_of h'.cc rfl);apply Wl.nilB
 refine Mt.e1 8 ?_
 apply Wl.callC
 ·exact rfl
 ·exact kd
 intro wq4 hq4
 have hMq := hN.upd hq4.upd fun b hb y => y (hof b hb)
 have zq4 := hq4.upd.size
 have uq4 : Upd (fun k => w.heap.size ≤ k) w wq4 := hq4.on hwN k6
 refine (wSetOk I'.wd I'.sa _ L' _ t' _ wq4 hMq.ward (hl'.symm ▸ hA0.upd uq4 fun k _ hk _ => by omega) (by rw [hl'];exact (newL_len _ _).symm) hok ht hany hr).mono ?_
 rintro e wS ⟨sa',rfl,hWS,gS,uS⟩
 have zS := uS.size
 have hS := hMq.set hWS (by rw [hl'];exact (newL_len _ _).symm) kf (uS.mono fun k _ h => h)
 have hwS : Upd (fun k => w.heap.size ≤ k) w wS := uq4.comp uS fun k hk hs => by have := (hMq.lt I'.wd (.inr (.inr (.inr (.inl rfl))))).1;rcases hs with h | rfl | h <;> omega
 have hqS := Hp.restT hq4 uS (by simp only [List.mem_cons,List.not_mem_nil,or_false,forall_eq_or_imp,forall_eq];exact ⟨fun h => by rcases h with h | h;exact (hof I'.wd (.inr (.inr (.inr (.inl rfl))))).1 h;omega,fun h => by rcases h with h | h;exact (hof I'.wd (.inr (.inr (.inr (.inl rfl))))).2.1 h;omega⟩)
 have hof2 : ∀ b,MonF {I' with sa := sa'} {(⟨.slice a1 M.L.length c1,.slice a2 M.L.length c2,.slice none 0 0,.slice none 0 0,0,[],newL (fun _ => 0) M.L.length,0,fun _ => [],[],0,List.replicate M.L.length [],f',xz,0,cf'⟩ : Mv2) with L := L',t := t'} b → Off [⟨st,List.replicate M.L.length (Value.int .u32 0),25⟩,⟨c,[.int .i64 t',.slice sa0 M.L.length sc0,.slice (some ⟨ib,io,none⟩) M.L.length ic0,.slice (some ⟨bb,bo,none⟩) M.L.length bc0,.slice la ll.length lc,.pointer (some ⟨cM',0,none⟩)],54⟩] b := fun b hb => (MonF.with hb).elim (hof b) fun e => ⟨by simp only;omega,by simp only;omega,trivial⟩
 refine ⟨_,_,rfl,hqS,?_⟩
 apply Wl.nil
 refine Mt.backE (fun _ h' => have k := hS.upd h'.upd fun b hb y => y (hof2 b hb);⟨k.mm,k.dd,h'.own.at (.tail _ (.head _)),h'.on hwS k6⟩) ?_
 refine Mt.pu 9 ?_
 apply Wl.neqIs;exact rfl;exact rfl;exact rfl;exact kw;apply Wl.nilB
 refine Mt.toGt ka ?_
 repeat' first | refine Wl.move rfl rfl ?_ | apply Wl.nil | apply St.seq | apply St.block | apply St.region | (apply St.condF;exact rfl;exact k5) | apply St.skip | apply Gt.next
 have hil0 : insK ins' 0 M.L.length = List.replicate M.L.length [] := insK_0 _ _
 have hbx0 : bxK ls 0 = fun _ => [] := funext fun j => if_neg (Nat.not_lt_zero _)
 have hSz : MonS wS w.heap.size {I' with sa := sa'} (⟨.slice a1 M.L.length c1,.slice a2 M.L.length c2,.slice none 0 0,.slice none 0 0,0,[],L',t',(bxK ls 0),[],0,insK ins' 0 M.L.length,f',xz,0,cf'⟩ : Mv2) := by rw [hil0,hbx0];exact hS
 clear hS hN hWS
 refine St.loop (σ := Nat × World) (fun τ => τ.1 ≤ M.L.length ∧ MonS τ.2 w.heap.size {I' with sa := sa'} (⟨.slice a1 M.L.length c1,.slice a2 M.L.length c2,.slice none 0 0,.slice none 0 0,0,[],L',t',(bxK ls τ.1),[],0,insK ins' τ.1 M.L.length,f',xz,0,cf'⟩ : Mv2) ∧ ((∀ k s,k < τ.1 → ins'[k]? = some s → s.length ≤ 64) ∧ (∀ j,j < τ.1 → BoxOk M.L.length (ls j))) ∧ Upd (fun k => w.heap.size ≤ k) w τ.2)
  (fun τ => [(3,.pointer (some ⟨c,0,none⟩)),(6,.int .i64 M.L.length),(8,.pointer (some ⟨I'.m,0,none⟩)),(80,.int .i64 M.L.length),(81,.int .i64 (τ.1 : Int))])
  (fun τ => Hp τ.2 [⟨st,List.replicate M.L.length (Value.int .u32 0),25⟩,⟨c,[.int .i64 t',.slice sa0 M.L.length sc0,.slice (some ⟨ib,io,none⟩) M.L.length ic0,.slice (some ⟨bb,bo,none⟩) M.L.length bc0,.slice la ll.length lc,.pointer (some ⟨cM',0,none⟩)],54⟩]) (fun τ => M.L.length - τ.1) (0,wS) ⟨Nat.zero_le _,hSz,⟨fun _ _ h => (Nat.not_lt_zero _ h).elim,fun _ h => (Nat.not_lt_zero _ h).elim⟩,hwS⟩ kq (fun _ h => h) ?_
 clear hSz hwS hwN hwC
 rintro ⟨i,wc⟩ ⟨hi,hM,hok1,hwc⟩
 simp only at hi hM hok1 hwc ⊢
 have zwc := hwc.size
 by_cases hlt : i < M.L.length
 ·have hd : decide ((i : Int) < (M.L.length : Int)) = true := decide_eq_true kf
  obtain ⟨s,hs⟩ : ∃ s,ins'[i]? = some s := ⟨_,List.getElem?_eq_getElem kf⟩
  have hsl := hins s (List.mem_of_getElem? hs)
  obtain ⟨bi,hvi,hbi⟩ := hBl i hlt
  obtain ⟨hbt1,hbt2⟩ := hBt i hlt
  have hbi0 := hbi
  obtain ⟨_,av,cv,rfl,_,_,_,hav⟩ := hbi
  have hsC : w.cell? ⟨ib,io + (i : Int).toNat,none⟩ = some (strV s) := by
   rw [Int.toNat_natCast,hic i (by rw [List.length_map];omega)]
   obtain ⟨hj,e⟩ := List.getElem?_eq_some_iff.1 hs
   rw [List.getElem_map,e]
  have hbC : w.cell? ⟨bb,bo + (i : Int).toNat,none⟩ = some (.slice av (ls i).length cv) := by
   obtain ⟨hj,e⟩ := List.getElem?_eq_some_iff.1 hvi
   rw [Int.toNat_natCast,hbc i hj,e]
  have hib := World.block_lt_of_cell? w _ hsC
  have hbb := World.block_lt_of_cell? w _ hbC
  simp only at hib hbb
  repeat' first | refine Wl.move rfl rfl ?_ | refine Wl.assign rfl rfl ?_ | refine Wl.lss rfl rfl rfl ?_ | apply Wl.nil | apply St.seq | apply St.block | apply St.region | (apply St.condT;exact rfl;exact k5) | apply St.skip | apply Gt.next
  refine St.tree (fun w' => WiB w w' {I' with sa := sa'} (⟨.slice a1 M.L.length c1,.slice a2 M.L.length c2,.slice none 0 0,.slice none 0 0,0,[],L',t',(bxK ls i),[],0,insK ins' i M.L.length,f',xz,0,cf'⟩ : Mv2) c [.int .i64 t',.slice sa0 M.L.length sc0,.slice (some ⟨ib,io,none⟩) M.L.length ic0,.slice (some ⟨bb,bo,none⟩) M.L.length bc0,.slice la ll.length lc,.pointer (some ⟨cM',0,none⟩)]) mixed (fun _ h' => ⟨Hp.drew h',have k := hM.upd (Hp.drew h').upd fun b hb y => y (hof2 b hb);⟨k.mm,k.dd,(Hp.drew h').own.at (.tail _ (.head _)),(Hp.drew h').on hwc k6⟩⟩) ?_
  by_cases hs64 : s.length ≤ 64
  rotate_left
  ·skip
   refine Mt.pm 0 ?_
   refine Mt.pm 7 ?_
   refine Mt.pz 8 ?_
   refine Mt.pm 10 ?_
   refine Mt.pn 1 ?_
   refine Mt.pu 9 ?_
   apply Wl.loadF;exact rfl;exact rfl;(intro w' h';first | exact cell_of h'.mm rfl | exact cell_of h'.dd rfl | exact cell_of h'.cc rfl | exact h'.u.cell hsC zy);apply Wl.nilB
   refine Mt.pz 2 ?_
   refine Mt.pu 11 ?_
   refine Wl.indexAddr1 rfl rfl rfl ?_ ?_;constructor <;> omega;apply Wl.nilB
   refine Mt.pu 3 ?_
   apply Wl.loadF;exact rfl;exact rfl;(intro w' h';first | exact cell_of h'.mm rfl | exact cell_of h'.dd rfl | exact cell_of h'.cc rfl | exact h'.u.cell hsC zy);apply Wl.nilB
   refine Mt.pu 12 ?_
   apply Wl.loadF;exact rfl;exact rfl;(intro w' h';first | exact cell_of h'.mm rfl | exact cell_of h'.dd rfl | exact cell_of h'.cc rfl | exact h'.u.cell hsC zy);apply Wl.nilB
   refine Mt.pn 4 ?_
   refine Mt.pz 5 ?_
   refine Mt.pu 6 ?_
   apply Wl.loadF;exact rfl;exact rfl;(intro w' h';first | exact cell_of h'.mm rfl | exact cell_of h'.dd rfl | exact cell_of h'.cc rfl | exact h'.u.cell hsC zy);apply Wl.nilB
   refine Mt.e1 13 ?_
   apply Wl.callQ
   ·exact rfl
   ·exact kd
   ·intro wq hq
    refine (bFeedNo _ _ _ _ _ _ _ i [] s wq (hM.upd hq.upd fun b hb y => y (hof2 b hb)).board (insK_at ins' hlt kf) (by simp only [List.length_nil];omega)).mono ?_
    rintro e wr ⟨rfl,hr'⟩
    exact ⟨rfl,hq.keep hr'⟩
   apply Wl.nil
   refine Mt.backE (fun _ h' => have k := hM.upd h'.upd fun b hb y => y (hof2 b hb);⟨k.mm,k.dd,h'.own.at (.tail _ (.head _)),h'.on hwc k6⟩) ?_
   refine Mt.pu 14 ?_
   refine Wl.neq rfl rfl rfl (Wl.nilB ?_)
   refine Mt.toGt ka ?_
   repeat' first | refine Wl.assign rfl rfl ?_ | apply Wl.nil | apply St.seq | apply St.region | (apply St.condT;exact rfl;exact k5) | apply St.ret | apply Gt.next | apply Gt.thenRet | apply Gt.inRet | (apply Gt.out2;exact rfl;exact rfl;exact rfl;intro w' hp)
   exact .inr ⟨fun _ h2 _ => hs64 (h2 i s hlt hs),rfl,hp.on hwc k6⟩
  refine Mt.pm 0 ?_
  refine Mt.pm 7 ?_
  refine Mt.pz 8 ?_
  refine Mt.pm 10 ?_
  refine Mt.pn 1 ?_
  refine Mt.pu 9 ?_
  apply Wl.loadF;exact rfl;exact rfl;(intro w' h';first | exact cell_of h'.mm rfl | exact cell_of h'.dd rfl | exact cell_of h'.cc rfl | exact h'.u.cell hsC zy);apply Wl.nilB
  refine Mt.pz 2 ?_
  refine Mt.pu 11 ?_
  refine Wl.indexAddr1 rfl rfl rfl ?_ ?_;constructor <;> omega;apply Wl.nilB
  refine Mt.pu 3 ?_
  apply Wl.loadF;exact rfl;exact rfl;(intro w' h';first | exact cell_of h'.mm rfl | exact cell_of h'.dd rfl | exact cell_of h'.cc rfl | exact h'.u.cell hsC zy);apply Wl.nilB
  refine Mt.pu 12 ?_
  apply Wl.loadF;exact rfl;exact rfl;(intro w' h';first | exact cell_of h'.mm rfl | exact cell_of h'.dd rfl | exact cell_of h'.cc rfl | exact h'.u.cell hsC zy);apply Wl.nilB
  refine Mt.pn 4 ?_
  refine Mt.pz 5 ?_
  refine Mt.pu 6 ?_
  apply Wl.loadF;exact rfl;exact rfl;(intro w' h';first | exact cell_of h'.mm rfl | exact cell_of h'.dd rfl | exact cell_of h'.cc rfl | exact h'.u.cell hsC zy);apply Wl.nilB
  refine Mt.e1 13 ?_
  apply Wl.callC
  ·exact rfl
  ·exact kd
  intro wq5 hq5
  have hMq := hM.upd hq5.upd fun b hb y => y (hof2 b hb)
  have zq5 := hq5.upd.size
  have uq5 : Upd (fun k => w.heap.size ≤ k) w wq5 := hq5.on hwc k6
  refine (bFeed _ _ _ _ _ _ _ i [] s wq5 hMq.board (insK_at ins' hlt kf) (by simpa using hs64)).mono ?_
  rintro e wF ⟨rfl,hBF,uF⟩
  have zF := uF.size
  have hF0 := hMq.feed hBF (List.length_set ..) uF
  have hbx1 : (fun j => if j = i then ((ls i).take 0).map letV else bxK ls i j) = bxK ls i := funext fun j => by by_cases e : j = i;(rw [if_pos e,e];simp [bxK]);rw [if_neg e]
  have hF : MonS wF w.heap.size {I' with sa := sa'} (⟨.slice a1 M.L.length c1,.slice a2 M.L.length c2,.slice none 0 0,.slice none 0 0,0,[],L',t',(fun j => if j = i then ((ls i).take 0).map letV else bxK ls i j),[],0,insK ins' (i + 1) M.L.length,f',xz,0,cf'⟩ : Mv2) := by rw [hbx1,← insK_set kf hs];exact hF0
  have hwF : Upd (fun k => w.heap.size ≤ k) w wF := uq5.comp uF fun k hk hs => by have := (hMq.lt I'.ia (.inr (.inr (.inr (.inr (.inr (.inr (.inr (.inr (.inl rfl)))))))))).1;rcases hs with h | rfl;exact h;exact this
  have hqF := Hp.restT hq5 uF (by simp only [List.mem_cons,List.not_mem_nil,or_false,forall_eq_or_imp,forall_eq];exact ⟨(hof I'.ia (.inr (.inr (.inr (.inr (.inr (.inr (.inr (.inr (.inl rfl)))))))))).1,(hof I'.ia (.inr (.inr (.inr (.inr (.inr (.inr (.inr (.inr (.inl rfl)))))))))).2.1⟩)
  have hbF : wF.cell? ⟨bb,bo + (i : Int).toNat,none⟩ = some (.slice av (ls i).length cv) := hwF.cell hbC (by show ¬ w.heap.size ≤ bb;omega)
  refine ⟨_,_,rfl,hqF,?_⟩
  apply Wl.nil
  refine Mt.backE (fun _ h' => have k := hF.upd h'.upd fun b hb y => y (hof2 b hb);⟨k.mm,k.dd,h'.own.at (.tail _ (.head _)),h'.on hwF k6⟩) ?_
  refine Mt.pu 14 ?_
  apply Wl.neqIs;exact rfl;exact rfl;exact rfl;exact kw;apply Wl.nilB
  refine Mt.toGt ka ?_
  repeat' first | (apply Wl.loadO;exact rfl;exact rfl;exact zs;exact km) | refine Wl.move rfl rfl ?_ | refine Wl.fieldAddrZ rfl rfl ?_ | (apply Wl.loadH;exact rfl;exact rfl;exact kd;exact rfl) | refine Wl.len rfl rfl ?_ | (refine Wl.indexAddr1 rfl rfl rfl ?_ ?_;constructor <;> omega) | apply Wl.nil | apply St.seq | apply St.block | apply St.region | (apply St.condF;exact rfl;exact k5) | apply St.skip | apply Gt.next
  refine St.loop (σ := Nat × World) (fun τ => τ.1 ≤ (ls i).length ∧ MonS τ.2 w.heap.size {I' with sa := sa'} (⟨.slice a1 M.L.length c1,.slice a2 M.L.length c2,.slice none 0 0,.slice none 0 0,0,[],L',t',(fun j => if j = i then ((ls i).take τ.1).map letV else bxK ls i j),[],0,insK ins' (i + 1) M.L.length,f',xz,0,cf'⟩ : Mv2) ∧ (τ.1 ≤ 4 ∧ ∀ x ∈ (ls i).take τ.1,x.1 < (M.L.length : Int) ∧ x.2 ≠ []) ∧ Upd (fun k => w.heap.size ≤ k) w τ.2) (fun τ => [(3,.pointer (some ⟨c,0,none⟩)),(6,.int .i64 M.L.length),(8,.pointer (some ⟨I'.m,0,none⟩)),(80,.int .i64 M.L.length),(81,.int .i64 (i : Int)),(10,.int .i64 (i : Int)),(103,.slice av (ls i).length cv),(104,.int .i64 ((ls i).length : Int)),(105,.int .i64 (τ.1 : Int))]) (fun τ => Hp τ.2 [⟨st,List.replicate M.L.length (Value.int .u32 0),25⟩,⟨c,[.int .i64 t',.slice sa0 M.L.length sc0,.slice (some ⟨ib,io,none⟩) M.L.length ic0,.slice (some ⟨bb,bo,none⟩) M.L.length bc0,.slice la ll.length lc,.pointer (some ⟨cM',0,none⟩)],54⟩]) (fun τ => (ls i).length - τ.1) (0,wF) ⟨Nat.zero_le _,hF,⟨Nat.zero_le _,fun _ h => by simp at h⟩,hwF⟩ kq (fun _ h => h) ?_
  clear hF hwF hbF hqF
  rintro ⟨k,wk⟩ ⟨hk,hK,hkok,hwk⟩
  simp only at hk hK hkok hwk ⊢
  have zwk := hwk.size
  by_cases hkl : k < (ls i).length
  ·skip
   have hd2 : decide ((k : Int) < ((ls i).length : Int)) = true := decide_eq_true kf
   obtain ⟨x,hx⟩ : ∃ x,(ls i)[k]? = some x := ⟨_,List.getElem?_eq_getElem hkl⟩
   obtain ⟨⟨hx0,hx1⟩,hx16⟩ := hbt2 x (List.mem_of_getElem? hx)
   have hgx : ∀ (q : Nat) (u : Value),(lineC x)[q]? = some u → ((ls i).map lineC).flatten[k * 2 + q]? = some u := fun q u hq => by
    rw [flat_get (k := 2) (fun y hy => by obtain ⟨z,_,rfl⟩ := List.mem_map.1 hy;rfl) (by rw [List.getElem?_map,hx];rfl) ((List.getElem?_eq_some_iff.1 hq).1)]
    exact hq
   obtain ⟨lb,lo,rfl,hlcs⟩ := hav (fun e => by have := hgx 0 _ rfl;rw [e] at this;cases this)
   have hlx : ∀ (q : Nat) (u : Value),(lineC x)[q]? = some u → w.cell? (Addr.add ⟨lb,lo + (k : Int).toNat * 2,none⟩ q) = some u := fun q u hq => by
    obtain ⟨hj,e⟩ := List.getElem?_eq_some_iff.1 (hgx q u hq)
    rw [addLit,Int.toNat_natCast,Nat.add_assoc,hlcs _ hj,e]
   have hlb := World.block_lt_of_cell? w _ (hlx 0 _ rfl)
   rw [addLit] at hlb
   simp only at hlb
   have hlk : ∀ (q : Nat) (u : Value),(lineC x)[q]? = some u → wk.cell? (Addr.add ⟨lb,lo + (k : Int).toNat * 2,none⟩ q) = some u := fun q u hq => hwk.cell (hlx q u hq) (by rw [addLit];show ¬ w.heap.size ≤ lb;omega)
   obtain ⟨cS,hcS⟩ : ∃ cS,cS = c := ⟨_,rfl⟩
   subst hcS
   repeat' first | (apply Wl.loadAF (xs := lineC x);exact rfl;exact rfl;exact rfl;(intro wq hq q u hq';exact hq.old (hlk q u hq') q9)) | refine Wl.lss rfl rfl rfl ?_ | (apply Wl.storeA;exact rfl;exact rfl;exact rfl;exact rfl;exact kd;exact kj) | (apply Wl.alloc;exact rfl;intro c hc ho) | (refine Wl.indexAddr rfl rfl rfl ?_ ?_;constructor <;> omega) | apply Wl.nil | apply St.seq | apply St.block | apply St.region | (apply St.condT;exact rfl;exact k5) | apply St.skip | apply Gt.next
   have lkc : wk.heap.size ≤ c := by assumption
   have hof3 : ∀ b,MonF {I' with sa := sa'} (⟨.slice a1 M.L.length c1,.slice a2 M.L.length c2,.slice none 0 0,.slice none 0 0,0,[],L',t',(fun j => if j = i then ((ls i).take k).map letV else bxK ls i j),[],0,insK ins' (i + 1) M.L.length,f',xz,0,cf'⟩ : Mv2) b → Off [⟨c,[.int .i64 x.1,strV x.2],78⟩,⟨st,List.replicate M.L.length (Value.int .u32 0),25⟩,⟨cS,[.int .i64 t',.slice sa0 M.L.length sc0,.slice (some ⟨ib,io,none⟩) M.L.length ic0,.slice (some ⟨bb,bo,none⟩) M.L.length bc0,.slice la ll.length lc,.pointer (some ⟨cM',0,none⟩)],54⟩] b := fun b hb => ⟨fun e => by have := (hK.lt b hb).2;simp only at e;omega,hof2 b hb⟩
   refine St.tree (fun w' => WiB w w' {I' with sa := sa'} (⟨.slice a1 M.L.length c1,.slice a2 M.L.length c2,.slice none 0 0,.slice none 0 0,0,[],L',t',(fun j => if j = i then ((ls i).take k).map letV else bxK ls i j),[],0,insK ins' (i + 1) M.L.length,f',xz,0,cf'⟩ : Mv2) cS [.int .i64 t',.slice sa0 M.L.length sc0,.slice (some ⟨ib,io,none⟩) M.L.length ic0,.slice (some ⟨bb,bo,none⟩) M.L.length bc0,.slice la ll.length lc,.pointer (some ⟨cM',0,none⟩)] ∧ w'.heap[c]? = some (.cells #[.int .i64 x.1,strV x.2] 78 (0,0))) mixed (fun _ h' => ⟨Hp.drew h',⟨have kk := hK.upd (Hp.drew h').upd fun b hb y => y (hof3 b hb);⟨kk.mm,kk.dd,(Hp.drew h').own.at (.tail _ (.tail _ (.head _))),(Hp.drew h').on hwk k6⟩,(Hp.drew h').own.at (.head _)⟩⟩) ?_
   have dx0 : decide (x.1 < 0) = false := decide_eq_false kf
   by_cases hfr : x.1 < (M.L.length : Int)
   ·have dx1 : decide (x.1 ≥ (M.L.length : Int)) = false := decide_eq_false kf
    obtain ⟨ch,hch⟩ : ∃ ch,I'.cs[i]? = some ch := ⟨_,List.getElem?_eq_getElem (by have := hK.len.1;simp only at this;omega)⟩
    by_cases hgo : k < 4 ∧ x.2 ≠ []
    ·skip
     refine Mt.pf 0 ?_
     refine Mt.pu 1 ?_
     apply Wl.loadF;exact rfl;exact rfl;(intro w' h';first | exact cell_of h'.1.mm rfl | exact cell_of h'.1.dd rfl | exact cell_of h'.2 rfl);apply Wl.nilB
     refine Mt.pu 2 ?_
     refine Wl.lss rfl rfl rfl (Wl.nilB ?_)
     refine Mt.pm 3 ?_
     refine Mt.pu 4 ?_
     repeat' first | (apply Wl.on;exact rfl;exact rfl;exact k5) | refine Wl.fieldAddr0 rfl rfl ?_ | apply Wl.nilB
     refine Mt.pu 6 ?_
     repeat' first | refine Wl.move rfl rfl ?_ | (apply Wl.on;exact rfl;exact rfl;exact k5) | apply Wl.nilB
     refine Mt.pu 5 ?_
     repeat' first | (apply Wl.loadF;exact rfl;exact rfl;(intro w' h';first | exact cell_of h'.1.mm rfl | exact cell_of h'.1.dd rfl | exact cell_of h'.2 rfl)) | (apply Wl.on;exact rfl;exact rfl;exact k5) | apply Wl.nilB
     refine Mt.pu 7 ?_
     repeat' first | (apply Wl.on;exact rfl;exact rfl;exact k5) | refine Wl.geq rfl rfl rfl ?_ | apply Wl.nilB
     refine Mt.pu 8 ?_
     apply Wl.pickF;exact rfl;exact rfl;exact k5;exact rfl;apply Wl.nilB
     refine Mt.pm 9 ?_
     refine Mt.pu 10 ?_
     repeat' first | refine Wl.move rfl rfl ?_ | (apply Wl.on;exact rfl;exact rfl;exact k5) | apply Wl.nilB
     refine Mt.pu 17 ?_
     repeat' first | refine Wl.move rfl rfl ?_ | (apply Wl.on;exact rfl;exact rfl;exact k5) | apply Wl.nilB
     refine Mt.pu 18 ?_
     repeat' first | (apply Wl.loadAF (xs := lineC x);exact rfl;exact rfl;exact rfl;(intro w' h' q u hq';rw [addLit];exact cell_of h'.2 (by rw [Nat.zero_add];exact hq'))) | (apply Wl.on;exact rfl;exact rfl;exact k5) | apply Wl.nilB
     refine Mt.pu 11 ?_
     repeat' first | (apply Wl.on;exact rfl;exact rfl;exact k5) | refine Wl.nilCheck rfl rfl ?_ | apply Wl.nilB
     refine Mt.pu 12 ?_
     repeat' first | (apply Wl.on;exact rfl;exact rfl;exact k5) | refine Wl.fieldAddrZ rfl rfl ?_ | apply Wl.nilB
     refine Mt.pu 13 ?_
     repeat' first | (apply Wl.loadF;exact rfl;exact rfl;(intro w' h';first | exact cell_of h'.1.mm rfl | exact cell_of h'.1.dd rfl | exact cell_of h'.2 rfl)) | (apply Wl.on;exact rfl;exact rfl;exact k5) | apply Wl.nilB
     refine Mt.pu 14 ?_
     repeat' first | (apply Wl.on;exact rfl;exact rfl;exact k5) | refine Wl.nilCheck rfl rfl ?_ | apply Wl.nilB
     refine Mt.pu 15 ?_
     repeat' first | (apply Wl.on;exact rfl;exact rfl;exact k5) | refine Wl.fieldAddrZ rfl rfl ?_ | apply Wl.nilB
     refine Mt.pu 16 ?_
     repeat' first | (apply Wl.loadF;exact rfl;exact rfl;(intro w' h';first | exact cell_of h'.1.mm rfl | exact cell_of h'.1.dd rfl | exact cell_of h'.2 rfl)) | (apply Wl.on;exact rfl;exact rfl;exact k5) | apply Wl.nilB
     refine Mt.e1 19 ?_
     refine Wl.on rfl rfl (by first | exact rfl | (simp [dx0];omega)) ?_
     apply Wl.callC
     ·exact rfl
     ·exact kd
     intro wq6 hq6
     have hMq := hK.upd hq6.upd fun b hb y => y (hof3 b hb)
     have zq6 := hq6.upd.size
     have uq6 : Upd (fun k => w.heap.size ≤ k) w wq6 := hq6.on hwk k6
     have hcF : MonF {I' with sa := sa'} (⟨.slice a1 M.L.length c1,.slice a2 M.L.length c2,.slice none 0 0,.slice none 0 0,0,[],L',t',(fun j => if j = i then ((ls i).take k).map letV else bxK ls i j),[],0,insK ins' (i + 1) M.L.length,f',xz,0,cf'⟩ : Mv2) ch := .inr (.inr (.inr (.inr (.inr (.inr (.inr (.inr (.inr (.inr (.inl (List.mem_of_getElem? hch)))))))))))
     have hlk4 : ((fun j => if j = i then ((ls i).take k).map letV else bxK ls i j) i).length < 4 := by show (ite _ _ _ : List Value).length < 4;rw [if_pos rfl,List.length_map,List.length_take];omega
     refine (pSendOk _ _ _ _ i ch x wq6 hMq.post hch ⟨hgo.2,hx16⟩ hlk4).mono ?_
     rintro e wP ⟨rfl,hPP,uP⟩
     have zP := uP.size
     have hP0 := hMq.snd (List.mem_of_getElem? hch) hPP uP
     have hbx3 : (fun j => if j = i then (fun j => if j = i then ((ls i).take k).map letV else bxK ls i j) i ++ [letV x] else (fun j => if j = i then ((ls i).take k).map letV else bxK ls i j) j) = (fun j => if j = i then ((ls i).take (k + 1)).map letV else bxK ls i j) := funext fun j => by
      by_cases e : j = i
      ·simp only [if_pos e,if_pos True.intro];rw [take_snoc hx,List.map_append];rfl
      ·simp only [if_neg e]
     have hP : MonS wP w.heap.size {I' with sa := sa'} (⟨.slice a1 M.L.length c1,.slice a2 M.L.length c2,.slice none 0 0,.slice none 0 0,0,[],L',t',(fun j => if j = i then ((ls i).take (k + 1)).map letV else bxK ls i j),[],0,insK ins' (i + 1) M.L.length,f',xz,0,cf'⟩ : Mv2) := by rw [← hbx3];exact hP0
     have hwP : Upd (fun k => w.heap.size ≤ k) w wP := uq6.comp uP fun k' hk' hs => by rcases hs with h | h;exact h;rw [h];exact (hMq.lt ch hcF).1
     have hqP0 := Hp.restT hq6 uP (by simp only [List.mem_cons,List.not_mem_nil,or_false,forall_eq_or_imp,forall_eq];exact ⟨(hof3 ch hcF).1,(hof3 ch hcF).2.1,(hof3 ch hcF).2.2.1⟩)
     have hqP : Hp wP [⟨st,List.replicate M.L.length (Value.int .u32 0),25⟩,⟨cS,[.int .i64 t',.slice sa0 M.L.length sc0,.slice (some ⟨ib,io,none⟩) M.L.length ic0,.slice (some ⟨bb,bo,none⟩) M.L.length bc0,.slice la ll.length lc,.pointer (some ⟨cM',0,none⟩)],54⟩] wP := ⟨Upd.refl _ _,hqP0.own.2,hqP0.apart.2⟩
     have hcP := hqP0.own.at (.head _)
     have hofc : Off [⟨st,List.replicate M.L.length (Value.int .u32 0),25⟩,⟨cS,[.int .i64 t',.slice sa0 M.L.length sc0,.slice (some ⟨ib,io,none⟩) M.L.length ic0,.slice (some ⟨bb,bo,none⟩) M.L.length bc0,.slice la ll.length lc,.pointer (some ⟨cM',0,none⟩)],54⟩] c := hqP0.apart.1
     simp only at hcP
     refine ⟨_,_,rfl,hqP,?_⟩
     apply Wl.nil
     refine Mt.backE (fun _ h' => have kk := hP.upd h'.upd fun b hb y => y (hof2 b hb);⟨⟨kk.mm,kk.dd,h'.own.at (.tail _ (.head _)),h'.on hwP k6⟩,h'.upd.heap hcP fun y => y hofc⟩) ?_
     refine Mt.pu 20 ?_
     repeat' first | (apply Wl.on;exact rfl;exact rfl;exact k5) | (apply Wl.neqIs;exact rfl;exact rfl;exact rfl;exact kw) | apply Wl.nilB
     refine Mt.pu 21 ?_
     apply Wl.pickF;exact rfl;exact rfl;exact k5;exact rfl;apply Wl.nilB
     refine Mt.toGt ka ?_
     repeat' first | refine Wl.move rfl rfl ?_ | (refine Wl.addI rfl rfl rfl ?_ ?_;constructor <;> omega) | apply Wl.nil | apply St.region | (apply St.condF;exact rfl;exact k5) | apply St.skip | apply Gt.next | apply Gt.inNormal
     apply Gt.round (k + 1,wP)
     rotate_left
     ·simp only;omega
     ·exact kd
     ·exact fun _ h' => h'
     ·exact ⟨hkl,hP,⟨by omega,fun y hy => by rw [take_snoc hx] at hy;rcases List.mem_append.1 hy with h | h;exact hkok.2 y h;rw [List.mem_singleton.1 h];exact ⟨hfr,hgo.2⟩⟩,hwP⟩
    ·skip
     refine Mt.pf 0 ?_
     refine Mt.pu 1 ?_
     apply Wl.loadF;exact rfl;exact rfl;(intro w' h';first | exact cell_of h'.1.mm rfl | exact cell_of h'.1.dd rfl | exact cell_of h'.2 rfl);apply Wl.nilB
     refine Mt.pu 2 ?_
     refine Wl.lss rfl rfl rfl (Wl.nilB ?_)
     refine Mt.pm 3 ?_
     refine Mt.pu 4 ?_
     repeat' first | (apply Wl.on;exact rfl;exact rfl;exact k5) | refine Wl.fieldAddr0 rfl rfl ?_ | apply Wl.nilB
     refine Mt.pu 6 ?_
     repeat' first | refine Wl.move rfl rfl ?_ | (apply Wl.on;exact rfl;exact rfl;exact k5) | apply Wl.nilB
     refine Mt.pu 5 ?_
     repeat' first | (apply Wl.loadF;exact rfl;exact rfl;(intro w' h';first | exact cell_of h'.1.mm rfl | exact cell_of h'.1.dd rfl | exact cell_of h'.2 rfl)) | (apply Wl.on;exact rfl;exact rfl;exact k5) | apply Wl.nilB
     refine Mt.pu 7 ?_
     repeat' first | (apply Wl.on;exact rfl;exact rfl;exact k5) | refine Wl.geq rfl rfl rfl ?_ | apply Wl.nilB
     refine Mt.pu 8 ?_
     apply Wl.pickF;exact rfl;exact rfl;exact k5;exact rfl;apply Wl.nilB
     refine Mt.pm 9 ?_
     refine Mt.pu 10 ?_
     repeat' first | refine Wl.move rfl rfl ?_ | (apply Wl.on;exact rfl;exact rfl;exact k5) | apply Wl.nilB
     refine Mt.pu 17 ?_
     repeat' first | refine Wl.move rfl rfl ?_ | (apply Wl.on;exact rfl;exact rfl;exact k5) | apply Wl.nilB
     refine Mt.pu 18 ?_
     repeat' first | (apply Wl.loadAF (xs := lineC x);exact rfl;exact rfl;exact rfl;(intro w' h' q u hq';rw [addLit];exact cell_of h'.2 (by rw [Nat.zero_add];exact hq'))) | (apply Wl.on;exact rfl;exact rfl;exact k5) | apply Wl.nilB
     refine Mt.pu 11 ?_
     repeat' first | (apply Wl.on;exact rfl;exact rfl;exact k5) | refine Wl.nilCheck rfl rfl ?_ | apply Wl.nilB
     refine Mt.pu 12 ?_
     repeat' first | (apply Wl.on;exact rfl;exact rfl;exact k5) | refine Wl.fieldAddrZ rfl rfl ?_ | apply Wl.nilB
     refine Mt.pu 13 ?_
     repeat' first | (apply Wl.loadF;exact rfl;exact rfl;(intro w' h';first | exact cell_of h'.1.mm rfl | exact cell_of h'.1.dd rfl | exact cell_of h'.2 rfl)) | (apply Wl.on;exact rfl;exact rfl;exact k5) | apply Wl.nilB
     refine Mt.pu 14 ?_
     repeat' first | (apply Wl.on;exact rfl;exact rfl;exact k5) | refine Wl.nilCheck rfl rfl ?_ | apply Wl.nilB
     refine Mt.pu 15 ?_
     repeat' first | (apply Wl.on;exact rfl;exact rfl;exact k5) | refine Wl.fieldAddrZ rfl rfl ?_ | apply Wl.nilB
     refine Mt.pu 16 ?_
     repeat' first | (apply Wl.loadF;exact rfl;exact rfl;(intro w' h';first | exact cell_of h'.1.mm rfl | exact cell_of h'.1.dd rfl | exact cell_of h'.2 rfl)) | (apply Wl.on;exact rfl;exact rfl;exact k5) | apply Wl.nilB
     refine Mt.e1 19 ?_
     refine Wl.on rfl rfl (by first | exact rfl | (simp [dx0];omega)) ?_
     apply Wl.callC
     ·exact rfl
     ·exact kd
     intro wq6 hq6
     refine (pSendRef _ _ _ _ i ch x wq6 (hK.upd hq6.upd fun b hb y => y (hof3 b hb)).post hch hx16 (by by_cases h0 : x.2 = [];exact .inl h0;exact .inr (by show 4 ≤ (ite _ _ _ : List Value).length;rw [if_pos rfl,List.length_map,List.length_take];have : ¬ k < 4 := fun h => hgo ⟨h,h0⟩;omega))).mono ?_
     rintro e wr ⟨⟨r,hr0,rfl⟩,hr'⟩
     refine ⟨_,_,rfl,hq6.keep hr',?_⟩
     apply Wl.nil
     refine Mt.backE (fun _ h' => ⟨have kk := hK.upd h'.upd fun b hb y => y (hof3 b hb);⟨kk.mm,kk.dd,h'.own.at (.tail _ (.tail _ (.head _))),h'.on hwk k6⟩,h'.own.at (.head _)⟩) ?_
     refine Mt.pu 20 ?_
     repeat' first | (apply Wl.on;exact rfl;exact rfl;exact k5) | refine Wl.neq rfl rfl rfl ?_ | apply Wl.nilB
     refine Mt.pu 21 ?_
     apply Wl.pickF;exact rfl;exact rfl;exact k5;exact rfl;apply Wl.nilB
     refine Mt.toGt ka ?_
     repeat' first | refine Wl.assign rfl rfl ?_ | apply Wl.nil | apply St.seq | apply St.region | (apply St.condT;exact rfl;exact k5) | apply St.ret | apply Gt.next | apply Gt.thenRet | apply Gt.inRet | (apply Gt.out2;exact rfl;exact rfl;exact rfl;intro w' hp)
     exact .inr ⟨fun _ _ h3 => hgo ⟨by have := (h3 i hlt).1;omega,((h3 i hlt).2 x (List.mem_of_getElem? hx)).2⟩,rfl,hp.on hwk k6⟩
   ·have dx1 : decide (x.1 ≥ (M.L.length : Int)) = true := decide_eq_true kf
    refine Mt.pf 0 ?_
    refine Mt.pu 1 ?_
    apply Wl.loadF;exact rfl;exact rfl;(intro w' h';first | exact cell_of h'.1.mm rfl | exact cell_of h'.1.dd rfl | exact cell_of h'.2 rfl);apply Wl.nilB
    refine Mt.pu 2 ?_
    refine Wl.lss rfl rfl rfl (Wl.nilB ?_)
    refine Mt.pm 3 ?_
    refine Mt.pu 4 ?_
    repeat' first | (apply Wl.on;exact rfl;exact rfl;exact k5) | refine Wl.fieldAddr0 rfl rfl ?_ | apply Wl.nilB
    refine Mt.pu 6 ?_
    repeat' first | refine Wl.move rfl rfl ?_ | (apply Wl.on;exact rfl;exact rfl;exact k5) | apply Wl.nilB
    refine Mt.pu 5 ?_
    repeat' first | (apply Wl.loadF;exact rfl;exact rfl;(intro w' h';first | exact cell_of h'.1.mm rfl | exact cell_of h'.1.dd rfl | exact cell_of h'.2 rfl)) | (apply Wl.on;exact rfl;exact rfl;exact k5) | apply Wl.nilB
    refine Mt.pu 7 ?_
    repeat' first | (apply Wl.on;exact rfl;exact rfl;exact k5) | refine Wl.geq rfl rfl rfl ?_ | apply Wl.nilB
    refine Mt.pu 8 ?_
    apply Wl.pickF;exact rfl;exact rfl;exact k5;exact rfl;apply Wl.nilB
    refine Mt.pm 9 ?_
    refine Mt.po 10 ?_
    refine Mt.po 17 ?_
    refine Mt.po 18 ?_
    refine Mt.po 11 ?_
    refine Mt.po 12 ?_
    refine Mt.po 13 ?_
    refine Mt.po 14 ?_
    refine Mt.po 15 ?_
    refine Mt.po 16 ?_
    refine Mt.e1 19 ?_
    repeat' first | (apply Wl.off;exact rfl;exact rfl;exact rfl;exact ki) | apply Wl.nil
    refine Mt.backE (fun _ h' => ⟨have kk := hK.upd h'.upd fun b hb y => y (hof3 b hb);⟨kk.mm,kk.dd,h'.own.at (.tail _ (.tail _ (.head _))),h'.on hwk k6⟩,h'.own.at (.head _)⟩) ?_
    refine Mt.po 20 ?_
    refine Mt.pu 21 ?_
    apply Wl.pickT;exact rfl;exact rfl;exact k5;exact rfl;apply Wl.nilB
    refine Mt.toGt ka ?_
    repeat' first | refine Wl.assign rfl rfl ?_ | apply Wl.nil | apply St.seq | apply St.region | (apply St.condT;exact rfl;exact k5) | apply St.ret | apply Gt.next | apply Gt.thenRet | apply Gt.inRet | (apply Gt.out2;exact rfl;exact rfl;exact rfl;intro w' hp)
    exact .inr ⟨fun _ _ h3 => hfr ((h3 i hlt).2 x (List.mem_of_getElem? hx)).1,rfl,hp.on hwk k6⟩
  ·obtain rfl : k = (ls i).length := by omega
   have hd2 : decide (((ls i).length : Int) < ((ls i).length : Int)) = false := decide_eq_false kf
   rw [List.take_length] at hK hkok
   have hbx2 : (fun j => if j = i then (ls i).map letV else bxK ls i j) = bxK ls (i + 1) := funext fun j => by
    by_cases e : j = i
    ·rw [if_pos e,e];simp [bxK]
    ·rw [if_neg e];unfold bxK;by_cases h : j < i;(rw [if_pos h,if_pos kf]);rw [if_neg h,if_neg kf]
   rw [hbx2] at hK
   repeat' first | refine Wl.move rfl rfl ?_ | refine Wl.lss rfl rfl rfl ?_ | (refine Wl.addI rfl rfl rfl ?_ ?_;constructor <;> omega) | apply Wl.nil | apply St.seq | apply St.region | (apply St.condF;exact rfl;exact k5) | apply St.exit | apply Gt.next | apply Gt.thenExit | apply Gt.inNormal | apply Gt.inExit
   apply Gt.round (i + 1,wk)
   rotate_left
   ·simp only;omega
   ·exact kd
   ·exact fun _ h' => h'
   ·exact ⟨hlt,hK,⟨fun k' s' hk' hs' => by rcases Nat.lt_succ_iff_lt_or_eq.1 hk' with h | rfl;exact hok1.1 k' s' h hs';rw [hs] at hs';cases hs';exact hs64,fun j hj => by rcases Nat.lt_succ_iff_lt_or_eq.1 hj with h | rfl;exact hok1.2 j h;exact hkok⟩,hwk⟩
 ·obtain rfl : i = M.L.length := by omega
  have hd : decide ((M.L.length : Int) < (M.L.length : Int)) = false := decide_eq_false kf
  rw [insK_n ins' hil] at hM
  repeat' first | refine Wl.move rfl rfl ?_ | refine Wl.fieldAddrZ rfl rfl ?_ | (apply Wl.loadH;exact rfl;exact rfl;exact kd;exact rfl) | refine Wl.lss rfl rfl rfl ?_ | refine Wl.len rfl rfl ?_ | apply Wl.nil | apply St.seq | apply St.block | apply St.region | (apply St.condF;exact rfl;exact k5) | apply St.exit | apply Gt.next | apply Gt.thenExit | apply Gt.inExit
  have hMz : MonS wc w.heap.size {I' with sa := sa'} (⟨.slice a1 M.L.length c1,.slice a2 M.L.length c2,.slice none 0 0,.slice none 0 0,0,[],L',t',(bxK ls M.L.length),(ll.take 0),((usedL (ll.take 0) : Nat) : Int),ins',f',xz,0,cf'⟩ : Mv2) := by rw [List.take_zero];exact hM
  obtain ⟨cS,hcS⟩ : ∃ cS,cS = c := ⟨_,rfl⟩
  subst hcS
  refine St.loop (σ := Nat × World × Value) (fun τ => τ.1 ≤ ll.length ∧ MonS τ.2.1 w.heap.size {I' with sa := sa'} (⟨.slice a1 M.L.length c1,.slice a2 M.L.length c2,.slice none 0 0,τ.2.2,0,[],L',t',(bxK ls M.L.length),(ll.take τ.1),((usedL (ll.take τ.1) : Nat) : Int),ins',f',xz,0,cf'⟩ : Mv2) ∧ (∀ b,τ.2.2.ownBlock = some b → Off [⟨st,List.replicate M.L.length (Value.int .u32 0),25⟩,⟨cS,[.int .i64 t',.slice sa0 M.L.length sc0,.slice (some ⟨ib,io,none⟩) M.L.length ic0,.slice (some ⟨bb,bo,none⟩) M.L.length bc0,.slice la ll.length lc,.pointer (some ⟨cM',0,none⟩)],54⟩] b) ∧ (τ.1 = 0 → τ.2.2 = .slice none 0 0) ∧ Upd (fun k => w.heap.size ≤ k) w τ.2.1)
   (fun τ => [(3,.pointer (some ⟨cS,0,none⟩)),(6,.int .i64 M.L.length),(8,.pointer (some ⟨I'.m,0,none⟩)),(134,.slice la ll.length lc),(135,.int .i64 (ll.length : Int)),(136,.int .i64 (τ.1 : Int))]) (fun τ => Hp τ.2.1 [⟨st,List.replicate M.L.length (Value.int .u32 0),25⟩,⟨cS,[.int .i64 t',.slice sa0 M.L.length sc0,.slice (some ⟨ib,io,none⟩) M.L.length ic0,.slice (some ⟨bb,bo,none⟩) M.L.length bc0,.slice la ll.length lc,.pointer (some ⟨cM',0,none⟩)],54⟩]) (fun τ => ll.length - τ.1) (0,wc,.slice none 0 0) ⟨Nat.zero_le _,hMz,fun _ h => (by cases h),fun _ => rfl,hwc⟩ kq (fun _ h => h) ?_
  clear hMz hM
  rintro ⟨k,wk,lvk⟩ ⟨hk,hK,hlvo,hlv0,hwk⟩
  simp only at hk hK hlvo hlv0 hwk ⊢
  have zwk := hwk.size
  by_cases hkl : k < ll.length
  ·have hd2 : decide ((k : Int) < (ll.length : Int)) = true := decide_eq_true kf
   obtain ⟨⟨x1,x2⟩,hx⟩ : ∃ x,ll[k]? = some x := ⟨_,List.getElem?_eq_getElem hkl⟩
   obtain ⟨⟨hx0,hx1⟩,hx2,hx64⟩ := hll _ (List.mem_of_getElem? hx)
   simp only at hx0 hx1 hx2 hx64
   obtain ⟨who,rfl⟩ := Int.eq_ofNat_of_zero_le hx0
   have dx2 : decide (x2 = []) = false := decide_eq_false hx2
   have hgx : ∀ (q : Nat) (u : Value),(lineC ((who : Int),x2))[q]? = some u → (ll.map lineC).flatten[k * 2 + q]? = some u := fun q u hq => by
    rw [flat_get (k := 2) (fun y hy => by obtain ⟨z,_,rfl⟩ := List.mem_map.1 hy;rfl) (by rw [List.getElem?_map,hx];rfl) ((List.getElem?_eq_some_iff.1 hq).1)]
    exact hq
   obtain ⟨lb,lo,rfl,hlcs⟩ := hlc (fun e => by have := hgx 0 _ rfl;rw [e] at this;cases this)
   have hlx : ∀ (q : Nat) (u : Value),(lineC ((who : Int),x2))[q]? = some u → w.cell? (Addr.add ⟨lb,lo + (k : Int).toNat * 2,none⟩ q) = some u := fun q u hq => by
    obtain ⟨hj,e⟩ := List.getElem?_eq_some_iff.1 (hgx q u hq)
    rw [addLit,Int.toNat_natCast,Nat.add_assoc,hlcs _ hj,e]
   have hlb := World.block_lt_of_cell? w _ (hlx 0 _ rfl)
   rw [addLit] at hlb
   simp only at hlb
   have hlk : ∀ (q : Nat) (u : Value),(lineC ((who : Int),x2))[q]? = some u → wk.cell? (Addr.add ⟨lb,lo + (k : Int).toNat * 2,none⟩ q) = some u := fun q u hq => hwk.cell (hlx q u hq) (by rw [addLit];show ¬ w.heap.size ≤ lb;omega)
   repeat' first | (apply Wl.loadAF (xs := lineC ((who : Int),x2));exact rfl;exact rfl;exact rfl;(intro wq hq q u hq';exact hq.old (hlk q u hq') q9)) | refine Wl.lss rfl rfl rfl ?_ | (apply Wl.storeA;exact rfl;exact rfl;exact rfl;exact rfl;exact kd;exact kj) | (apply Wl.alloc;exact rfl;intro c hc ho) | (refine Wl.indexAddr rfl rfl rfl ?_ ?_;constructor <;> omega) | apply Wl.nil | apply St.seq | apply St.block | apply St.region | (apply St.condT;exact rfl;exact k5) | apply St.skip | apply Gt.next
   have lkc : wk.heap.size ≤ c := by assumption
   have hof4 : ∀ b,MonF {I' with sa := sa'} (⟨.slice a1 M.L.length c1,.slice a2 M.L.length c2,.slice none 0 0,lvk,0,[],L',t',(bxK ls M.L.length),(ll.take k),((usedL (ll.take k) : Nat) : Int),ins',f',xz,0,cf'⟩ : Mv2) b → Off [⟨c,[.int .i64 (who : Int),strV x2],111⟩,⟨st,List.replicate M.L.length (Value.int .u32 0),25⟩,⟨cS,[.int .i64 t',.slice sa0 M.L.length sc0,.slice (some ⟨ib,io,none⟩) M.L.length ic0,.slice (some ⟨bb,bo,none⟩) M.L.length bc0,.slice (some ⟨lb,lo,none⟩) ll.length lc,.pointer (some ⟨cM',0,none⟩)],54⟩] b := fun b hb => ⟨fun e => by have := (hK.lt b hb).2;simp only at e;omega,(MonF.lv (M := (⟨.slice a1 M.L.length c1,.slice a2 M.L.length c2,.slice none 0 0,.slice none 0 0,0,[],L',t',(bxK ls M.L.length),[],0,ins',f',xz,0,cf'⟩ : Mv2)) hb).elim (hof2 b) (hlvo b)⟩
   refine St.tree (fun w' => WiB w w' {I' with sa := sa'} (⟨.slice a1 M.L.length c1,.slice a2 M.L.length c2,.slice none 0 0,lvk,0,[],L',t',(bxK ls M.L.length),(ll.take k),((usedL (ll.take k) : Nat) : Int),ins',f',xz,0,cf'⟩ : Mv2) cS [.int .i64 t',.slice sa0 M.L.length sc0,.slice (some ⟨ib,io,none⟩) M.L.length ic0,.slice (some ⟨bb,bo,none⟩) M.L.length bc0,.slice (some ⟨lb,lo,none⟩) ll.length lc,.pointer (some ⟨cM',0,none⟩)] ∧ w'.heap[c]? = some (.cells #[.int .i64 (who : Int),strV x2] 111 (0,0))) mixed (fun _ h' => ⟨Hp.drew h',⟨have kk := hK.upd (Hp.drew h').upd fun b hb y => y (hof4 b hb);⟨kk.mm,kk.dd,(Hp.drew h').own.at (.tail _ (.tail _ (.head _))),(Hp.drew h').on hwk k6⟩,(Hp.drew h').own.at (.head _)⟩⟩) ?_
   refine Mt.pz 0 ?_
   refine Mt.pu 1 ?_
   apply Wl.loadF;exact rfl;exact rfl;(intro w' h';first | exact cell_of h'.1.mm rfl | exact cell_of h'.1.dd rfl | exact cell_of h'.2 rfl);apply Wl.nilB
   refine Mt.pu 2 ?_
   refine Wl.eqlSB rfl rfl rfl (Wl.nilB ?_)
   refine Mt.pm 3 ?_
   refine Mt.pu 4 ?_
   repeat' first | refine Wl.move rfl rfl ?_ | (apply Wl.on;exact rfl;exact rfl;exact k5) | apply Wl.nilB
   refine Mt.pu 11 ?_
   repeat' first | (apply Wl.on;exact rfl;exact rfl;exact k5) | refine Wl.fieldAddr0 rfl rfl ?_ | apply Wl.nilB
   refine Mt.pu 13 ?_
   repeat' first | (apply Wl.on;exact rfl;exact rfl;exact k5) | refine Wl.fieldAddrZ rfl rfl ?_ | apply Wl.nilB
   refine Mt.pu 5 ?_
   repeat' first | (apply Wl.on;exact rfl;exact rfl;exact k5) | refine Wl.nilCheck rfl rfl ?_ | apply Wl.nilB
   refine Mt.pu 12 ?_
   repeat' first | (apply Wl.loadF;exact rfl;exact rfl;(intro w' h';first | exact cell_of h'.1.mm rfl | exact cell_of h'.1.dd rfl | exact cell_of h'.2 rfl)) | (apply Wl.on;exact rfl;exact rfl;exact k5) | apply Wl.nilB
   refine Mt.pu 14 ?_
   repeat' first | (apply Wl.loadF;exact rfl;exact rfl;(intro w' h';first | exact cell_of h'.1.mm rfl | exact cell_of h'.1.dd rfl | exact cell_of h'.2 rfl)) | (apply Wl.on;exact rfl;exact rfl;exact k5) | apply Wl.nilB
   refine Mt.pu 6 ?_
   repeat' first | (apply Wl.on;exact rfl;exact rfl;exact k5) | refine Wl.fieldAddrZ rfl rfl ?_ | apply Wl.nilB
   refine Mt.pu 7 ?_
   repeat' first | (apply Wl.loadF;exact rfl;exact rfl;(intro w' h';first | exact cell_of h'.1.mm rfl | exact cell_of h'.1.dd rfl | exact cell_of h'.2 rfl)) | (apply Wl.on;exact rfl;exact rfl;exact k5) | apply Wl.nilB
   refine Mt.pu 8 ?_
   repeat' first | (apply Wl.on;exact rfl;exact rfl;exact k5) | refine Wl.nilCheck rfl rfl ?_ | apply Wl.nilB
   refine Mt.pu 9 ?_
   repeat' first | (apply Wl.on;exact rfl;exact rfl;exact k5) | refine Wl.fieldAddrZ rfl rfl ?_ | apply Wl.nilB
   refine Mt.pu 10 ?_
   repeat' first | (apply Wl.loadF;exact rfl;exact rfl;(intro w' h';first | exact cell_of h'.1.mm rfl | exact cell_of h'.1.dd rfl | exact cell_of h'.2 rfl)) | (apply Wl.on;exact rfl;exact rfl;exact k5) | apply Wl.nilB
   refine Mt.e1 15 ?_
   refine Wl.on rfl rfl (by exact dx2) ?_
   apply Wl.callC
   ·exact rfl
   ·exact kd
   intro wq7 hq7
   have hMq := hK.upd hq7.upd fun b hb y => y (hof4 b hb)
   have zq7 := hq7.upd.size
   have uq7 : Upd (fun k => w.heap.size ≤ k) w wq7 := hq7.on hwk k6
   have hus := usedL_take ll (k + 1)
   rw [take_snoc hx,usedL_snoc] at hus
   simp only at hus
   refine (bSay w.heap.size I'.bd I'.ia lvk (ll.take k) ((usedL (ll.take k) : Nat) : Int) ins' who x2 wq7 hMq.board (by rw [hil];omega) hx2 hx64 kf kf qk kf).mono ?_
   rintro e wB ⟨lv2,rfl,hBS,uB,oB⟩
   have zB := uB.size
   have hB0 := hMq.brd hBS uB
   have hB1 : MonS wB w.heap.size {I' with sa := sa'} (⟨.slice a1 M.L.length c1,.slice a2 M.L.length c2,.slice none 0 0,lv2,0,[],L',t',(bxK ls M.L.length),(ll.take (k + 1)),((usedL (ll.take (k + 1)) : Nat) : Int),ins',f',xz,0,cf'⟩ : Mv2) := by rw [take_snoc hx,usedL_snoc,Int.natCast_add];exact hB0
   have hwB : Upd (fun k => w.heap.size ≤ k) w wB := uq7.comp uB fun k' hk' hs => by rcases hs with h | h | h | h;exact h;rw [h];exact (hMq.lt I'.bd (.inr (.inr (.inr (.inr (.inr (.inr (.inr (.inl rfl))))))))).1;exact (hMq.lt k' (.inr (.inr (.inr (.inr (.inr (.inr (.inr (.inr (.inr (.inr (.inr (.inl h))))))))))))).1;omega
   have hltB : ∀ x : Blk,x ∈ _ → x.b < wq7.heap.size := fun x hx => hq7.own.lt hx
   simp only [List.mem_cons,List.not_mem_nil,or_false,forall_eq_or_imp,forall_eq] at hltB
   have hobd := hof4 I'.bd (.inr (.inr (.inr (.inr (.inr (.inr (.inr (.inl rfl))))))))
   have holv : ∀ b,lvk.ownBlock = some b → Off [⟨c,[.int .i64 (who : Int),strV x2],111⟩,⟨st,List.replicate M.L.length (Value.int .u32 0),25⟩,⟨cS,[.int .i64 t',.slice sa0 M.L.length sc0,.slice (some ⟨ib,io,none⟩) M.L.length ic0,.slice (some ⟨bb,bo,none⟩) M.L.length bc0,.slice (some ⟨lb,lo,none⟩) ll.length lc,.pointer (some ⟨cM',0,none⟩)],54⟩] b := fun b hb => hof4 b (.inr (.inr (.inr (.inr (.inr (.inr (.inr (.inr (.inr (.inr (.inr (.inl hb))))))))))))
   have hqB0 := Hp.restT hq7 uB (by simp only [List.mem_cons,List.not_mem_nil,or_false,forall_eq_or_imp,forall_eq];exact ⟨fun h => by rcases h with h | h | h;exact hobd.1 h;exact (holv _ h).1 rfl;omega,fun h => by rcases h with h | h | h;exact hobd.2.1 h;exact (holv _ h).2.1 rfl;omega,fun h => by rcases h with h | h | h;exact hobd.2.2.1 h;exact (holv _ h).2.2.1 rfl;omega⟩)
   have hqB : Hp wB [⟨st,List.replicate M.L.length (Value.int .u32 0),25⟩,⟨cS,[.int .i64 t',.slice sa0 M.L.length sc0,.slice (some ⟨ib,io,none⟩) M.L.length ic0,.slice (some ⟨bb,bo,none⟩) M.L.length bc0,.slice (some ⟨lb,lo,none⟩) ll.length lc,.pointer (some ⟨cM',0,none⟩)],54⟩] wB := ⟨Upd.refl _ _,hqB0.own.2,hqB0.apart.2⟩
   have hcB := hqB0.own.at (.head _)
   have hofc : Off [⟨st,List.replicate M.L.length (Value.int .u32 0),25⟩,⟨cS,[.int .i64 t',.slice sa0 M.L.length sc0,.slice (some ⟨ib,io,none⟩) M.L.length ic0,.slice (some ⟨bb,bo,none⟩) M.L.length bc0,.slice (some ⟨lb,lo,none⟩) ll.length lc,.pointer (some ⟨cM',0,none⟩)],54⟩] c := hqB0.apart.1
   simp only at hcB
   have hlv2 : ∀ b,lv2.ownBlock = some b → Off [⟨st,List.replicate M.L.length (Value.int .u32 0),25⟩,⟨cS,[.int .i64 t',.slice sa0 M.L.length sc0,.slice (some ⟨ib,io,none⟩) M.L.length ic0,.slice (some ⟨bb,bo,none⟩) M.L.length bc0,.slice (some ⟨lb,lo,none⟩) ll.length lc,.pointer (some ⟨cM',0,none⟩)],54⟩] b := fun b hb => (oB b hb).elim (hlvo b) fun h => ⟨fun e => by simp only at e;omega,fun e => by simp only at e;omega,trivial⟩
   refine ⟨_,_,rfl,hqB,?_⟩
   apply Wl.nil
   refine Mt.backE (fun _ h' => have kk := hB1.upd h'.upd fun b hb y => y ((MonF.lv (M := (⟨.slice a1 M.L.length c1,.slice a2 M.L.length c2,.slice none 0 0,.slice none 0 0,0,[],L',t',(bxK ls M.L.length),[],0,ins',f',xz,0,cf'⟩ : Mv2)) hb).elim (hof2 b) (hlv2 b));⟨⟨kk.mm,kk.dd,h'.own.at (.tail _ (.head _)),h'.on hwB k6⟩,h'.upd.heap hcB fun y => y hofc⟩) ?_
   refine Mt.pu 16 ?_
   repeat' first | (apply Wl.on;exact rfl;exact rfl;exact k5) | (apply Wl.neqIs;exact rfl;exact rfl;exact rfl;exact kw) | apply Wl.nilB
   refine Mt.pu 17 ?_
   apply Wl.pickF;exact rfl;exact rfl;exact k5;exact rfl;apply Wl.nilB
   refine Mt.toGt ka ?_
   repeat' first | refine Wl.move rfl rfl ?_ | (refine Wl.addI rfl rfl rfl ?_ ?_;constructor <;> omega) | apply Wl.nil | apply St.region | (apply St.condF;exact rfl;exact k5) | apply St.skip | apply Gt.next | apply Gt.inNormal
   apply Gt.round (k + 1,wB,lv2)
   rotate_left
   ·simp only;omega
   ·exact kd
   ·exact fun _ h' => h'
   ·exact ⟨hkl,hB1,hlv2,fun h => (Nat.succ_ne_zero _ h).elim,hwB⟩
  ·obtain rfl : k = ll.length := by omega
   have hd2 : decide ((ll.length : Int) < (ll.length : Int)) = false := decide_eq_false kf
   rw [List.take_length] at hK
   repeat' first | refine Wl.move rfl rfl ?_ | refine Wl.assign rfl rfl ?_ | refine Wl.lss rfl rfl rfl ?_ | apply Wl.nil | apply St.seq | apply St.region | (apply St.condF;exact rfl;exact k5) | apply St.ret | apply St.exit | apply Gt.next | apply Gt.thenExit | apply Gt.inExit | (apply Gt.out2;exact rfl;exact rfl;exact rfl;intro w' hp)
   have hK' := hK.upd hp.upd fun b hb y => y ((MonF.lv (M := (⟨.slice a1 M.L.length c1,.slice a2 M.L.length c2,.slice none 0 0,.slice none 0 0,0,[],L',t',(bxK ls M.L.length),[],0,ins',f',xz,0,cf'⟩ : Mv2)) hb).elim (hof2 b) (hlvo b))
   exact .inl ⟨⟨hset0,fun i s hi hs => hok1.1 i s hi hs,hok1.2⟩,{I' with sa := sa'},_,rfl,hK',by rw [hpv,hev],hp.on hwk k6,fun h => hlv0 (by rw [h];rfl)⟩
theorem at8192 (i : Nat) : (biasI i + 4096 - 2147483648).toNat = 8192 + 12288 * i := by unfold biasI;omega
theorem payX_at (i g : Nat) (ca : Int) : (payX i g ca)[33]? = some (.int .u32 (biasI i)) ∧ (payX i g ca)[34]? = some (.slice (some ⟨g,0,none⟩) 3 3) ∧ (payX i g ca)[35]? = some (.int .i64 ca) := by
 have h : (byteCells (dgL i)).length = 32 := by rw [byteCells_length,dgL_len]
 unfold payX
 refine ⟨?_,?_,?_⟩ <;> (rw [List.getElem?_append_right kf,h];rfl)
theorem payRs_len (gs : Nat → Nat) (ca : Nat → Int) (n : Nat) : ∀ x ∈ payRs gs ca n,x.length = 36 := by
 intro x hx
 unfold payRs at hx
 obtain ⟨j,_,rfl⟩ := List.mem_map.1 hx
 exact payX_len _ _ _
theorem payRs_at (gs : Nat → Nat) (ca : Nat → Int) {n j : Nat} (h : j < n) : (payRs gs ca n)[j]? = some (payX j (gs j) (ca j)) := by simp [payRs,h]
theorem payRs_set (gs : Nat → Nat) (ca ca' : Nat → Int) {n i : Nat} (h : i < n) (h' : ∀ j,j ≠ i → ca j = ca' j) : (payRs gs ca n).set i ((payX i (gs i) (ca i)).set 35 (.int .i64 (ca' i))) = payRs gs ca' n := by
 refine List.ext_getElem? fun q => ?_
 rw [List.getElem?_set]
 by_cases e : i = q
 ·subst e
  rw [if_pos rfl,if_pos (by simp [payRs];exact h),payRs_at _ _ h]
  unfold payX
  rw [List.set_append_right _ _ (by rw [byteCells_length,dgL_len];omega),byteCells_length,dgL_len]
  rfl
 ·rw [if_neg e]
  by_cases hq : q < n
  ·rw [payRs_at _ _ hq,payRs_at _ _ hq,h' q (fun e' => e e'.symm)]
  ·rw [List.getElem?_eq_none (by simp [payRs];omega),List.getElem?_eq_none (by simp [payRs];omega)]
section
variable {w w0 w' : World} {n i pb cM rb rm rn : Nat} {J : List Value} {gs eb ec : Nat → Nat} {ca : Nat → Int} {f : Nat → Int} {v6 v7 : Value}
theorem BegS.at (k : BegS w w0 n i pb J gs ca cM rb rm rn f v6 v7 eb ec) {j : Nat} (hj : j < n) : w0.cell? ⟨pb,0 + (j : Int).toNat * 36 + 33,none⟩ = some (.int .u32 (biasI j)) ∧ w0.cell? ⟨pb,0 + (j : Int).toNat * 36 + 34,none⟩ = some (.slice (some ⟨gs j,0,none⟩) 3 3) := by
 obtain ⟨h1,h2,h3⟩ := payX_at j (gs j) (ca j)
 have key : ∀ q v,q < 36 → (payX j (gs j) (ca j))[q]? = some v → w0.cell? ⟨pb,0 + (j : Int).toNat * 36 + q,none⟩ = some v := fun q v hq hv => by
  have hf := flat_get (payRs_len gs ca n) (payRs_at gs ca hj) hq
  rw [hv] at hf
  refine cell_of k.pay ?_
  rw [Int.toNat_natCast,Nat.zero_add,List.getElem?_append_left (List.getElem?_eq_some_iff.1 hf).1]
  exact hf
 exact ⟨key _ _ ku h1,key _ _ ku h2⟩
theorem BegS.size (k : BegS w w0 n i pb J gs ca cM rb rm rn f v6 v7 eb ec) : w.heap.size ≤ w0.heap.size := k.up.size
end
end Go.Proofs.YtabbklpalbikdaaGreatDoor
end
section
namespace Go.Pt
section
variable {P : Program} {md : Md} {N : Nat} {ops : Array Oper} {rest : List Oper} {Γ : Env} {C : World → Prop} {Q : Exit → Act → World → Prop} {d : Nat} {ty : TypeId} {pos : String} {af : Array Edge}
theorem Wl.sliceArrE {t e sz by_ n : TypeId} {x lo : Operand} {b o : Nat} {k : IntKind} {i : Int} [ht : TyD P t (.array n e)] [TyS P e sz by_] (hd : Nat.blt d N = true) (hx : ev Γ x = some (.pointer (some ⟨b,o,none⟩))) (hlo : ev Γ lo = some (.int k i)) (ei : i = (n : Int))
  (h : Wl rest P md ops N ((d,.slice (some ⟨b,o,none⟩) 0 0) :: Γ) C Q) : Wl (⟨some d,.slice t x (some lo) none none,ty,pos,af,none⟩ :: rest) P md ops N Γ C Q :=
 Wl.val hd (fun a w ha _ => by
  subst ei
  have e1 : ∀ c,(Instr.sliceBound (.int k (n : Int)) n c).run P w = .ok n w := fun c => by
   simp only [Instr.sliceBound,asIntOf,pure_bind]
   rw [if_pos kf]
   simp
  simp [execOp,ha.ev hx,ha.ev hlo,Instr.sliceAt,run_underlying ht.out,Instr.sureAddr,Instr.sliceBounds,e1,run_size (P := P) (t := e),Addr.add]) h
end
end Go.Pt
namespace Go.Proofs.YtabbklpalbikdaaGreatDoor
open Go.RowKit Go.Pt
theorem mputE (c : Nat) (f : Nat → Int) (v : Value) (w : World) (hc : memH w c f) (hv : Bs w v []) :
  Calls Tryz.prog 53 #[.pointer (some ⟨c,0,none⟩),.int .u32 (2147483648 + 65536),v] w fun e w' => e = .returned (.int .i64 0) ∧ memH w' c f ∧ Upd (fun k => k = c) w w' := by
 unfold memH at hc
 obtain ⟨ad,cap,rfl,hs1,hs2⟩ := hv.shape
 have hd : decide ((2147483648 : Int) ≤ 2147483648 + 65536 ∧ 2147483648 + 65536 + (0 : Int) ≤ 2147483648 + 65536) = true := by decide
 have hd2 : (!decide ((2147483648 : Int) ≤ 2147483648 + 65536 ∧ 2147483648 + 65536 + (0 : Int) ≤ 2147483648 + 65536)) = false := by rw [hd];rfl
 have e1 : IntKind.u32.wrap ((2147483648 : Int) + 65536 - 2147483648) = ((65536 : Nat) : Int) := by rw [IntKind.wrap_u32];decide
 have e0 : IntKind.u64.wrap (0 : Int) = 0 := by rw [IntKind.wrap_u64];decide
 have e3 : IntKind.u32.wrap (0 : Int) = 0 := by rw [IntKind.wrap_u32];decide
 refine enter (args := [_,_,_]) (Γ := [(0,_),(1,_),(2,_)]) Tryz.func53 Tryz.ntmps53 rfl odq (.cons rfl (.cons rfl (.cons rfl .nil))) ?_
 repeat' first | refine Wl.move rfl rfl ?_ | refine Wl.assign rfl rfl ?_ | (apply Wl.on;exact rfl;exact rfl;exact k5) | refine Wl.gtr rfl rfl rfl ?_ | refine Wl.convI rfl rfl ?_ | refine Wl.len rfl rfl ?_ | apply Wl.nil | apply St.seq | apply St.region | apply Gt.next
 apply Wl.callQ
 exact rfl
 (focus repeat constructor)
 ·intro wq hq
  exact hq.q (has_any c (2147483648 + 65536) 0 wq ku ku)
 repeat' first | (apply Wl.sliceArrE;exact rfl;exact rfl;exact rfl;exact e1) | refine Wl.move rfl rfl ?_ | (apply Wl.on;exact rfl;exact rfl;exact k5) | refine Wl.nilCheck rfl rfl ?_ | (apply Wl.pickF;exact rfl;exact rfl;exact k5;exact rfl) | refine Wl.not rfl rfl ?_ | refine Wl.fieldAddr0 rfl rfl ?_ | refine Wl.sub' rfl rfl rfl ?_ | apply Wl.nil | apply St.seq | apply St.region | (apply St.condF;exact rfl;exact k5) | apply St.skip | apply Gt.next
 refine Wl.cls (fun _ h' => Hp.open h' hc trivial) ?_
 apply Wl.copyO (l := []) (cs' := memC f)
 ·exact rfl
 ·exact rfl
 ·exact rfl
 ·exact kd
 ·simp [byteCells]
 ·exact Nat.zero_le _
 ·exact Nat.zero_le _
 ·exact fun wq hq => hv.upd hq.upd fun k hk _ hne y => (hne rfl).elim
 repeat' first | refine Wl.assign rfl rfl ?_ | apply Wl.nil | apply St.seq | apply St.region | apply St.ret | apply Gt.next | (apply Gt.out1;exact rfl;exact rfl;intro w' hp)
 exact ⟨rfl,hp.own.at (.head _),Hp.turned hp⟩
structure Cu where
 l : List UInt8
 bad : Bool
def Cu.take (c : Cu) (n : Int) : List UInt8 × Cu := ((cTake c.l c.bad n).1,⟨(cTake c.l c.bad n).2.1,(cTake c.l c.bad n).2.2⟩)
def Cu.u (c : Cu) (n : Nat) : Nat × Cu := (leN (c.take n).1,(c.take n).2)
structure CurS (w : World) (c : Nat) (src : Value) (all : List UInt8) (cu : Cu) : Prop where
 b : ∃ v,w.heap[c]? = some (.cells #[v,.bool cu.bad] 261 (0,0)) ∧ ∀ u,Bs u src all → Bs u v cu.l
 s : Bs w src all
 ne : ∀ k,src.ownBlock = some k → all ≠ [] → k ≠ c
theorem CurS.lt {w : World} {c : Nat} {src : Value} {all : List UInt8} {cu : Cu} (h : CurS w c src all cu) : c < w.heap.size := h.b.elim fun _ h => lt_of_block h.1
theorem CurS.upd {S : Nat → Prop} {w w' : World} {c : Nat} {src : Value} {all : List UInt8} {cu : Cu} (h : CurS w c src all cu) (u : Upd S w w') (h1 : ¬ S c) (h2 : ∀ k,src.ownBlock = some k → k < w.heap.size → all ≠ [] → ¬ S k) : CurS w' c src all cu :=
 ⟨h.b.elim fun v h => ⟨v,u.heap h.1 h1,h.2⟩,h.s.upd u h2,h.ne⟩
theorem CurS.new {w w' : World} {c : Nat} {src : Value} {all : List UInt8} {cu : Cu} (h : CurS w c src all cu) (u : Upd (fun k => w.heap.size ≤ k) w w') : CurS w' c src all cu := h.upd u (Nat.not_le.2 h.lt) fun _ _ hk _ => Nat.not_le.2 hk
theorem CurS.step {w w' : World} {c : Nat} {src : Value} {all : List UInt8} {cu cu' : Cu} {v' : Value} (h : CurS w c src all cu) (hp : Hp w [⟨c,[v',.bool cu'.bad],261⟩] w') (hv : ∀ u,Bs u src all → Bs u v' cu'.l) : CurS w' c src all cu' ∧ Upd (fun k => k = c) w w' :=
 ⟨⟨⟨v',hp.own.at (.head _),hv⟩,h.s.upd hp.upd fun k hk _ hne y => y ⟨fun e => h.ne k hk hne e.symm,trivial⟩,h.ne⟩,Hp.turned hp⟩
section
variable (c : Nat) (src : Value) (all : List UInt8) (cu : Cu) (w : World)
theorem cuU8 (h : CurS w c src all cu) : Calls Tryz.prog 139 #[.pointer (some ⟨c,0,none⟩)] w fun e w' => e = .returned (.int .i64 ((cu.u 1).1 : Int)) ∧ CurS w' c src all (cu.u 1).2 ∧ Upd (fun k => k = c) w w' := by
 obtain ⟨v,hb,hs⟩ := h.b
 refine (u8_any c v cu.l cu.bad w hb (hs w h.s)).mono ?_
 rintro e w' ⟨v',rfl,hp,hv⟩
 exact ⟨rfl,h.step (cu' := (cu.u 1).2) hp fun u hu => hv u (hs u hu)⟩
theorem cuU16 (h : CurS w c src all cu) : Calls Tryz.prog 142 #[.pointer (some ⟨c,0,none⟩)] w fun e w' => e = .returned (.int .i64 ((cu.u 2).1 : Int)) ∧ CurS w' c src all (cu.u 2).2 ∧ Upd (fun k => k = c) w w' := by
 obtain ⟨v,hb,hs⟩ := h.b
 refine (u16_any c v cu.l cu.bad w hb (hs w h.s)).mono ?_
 rintro e w' ⟨v',rfl,hp,hv⟩
 exact ⟨rfl,h.step (cu' := (cu.u 2).2) hp fun u hu => hv u (hs u hu)⟩
theorem cuU32 (h : CurS w c src all cu) : Calls Tryz.prog 140 #[.pointer (some ⟨c,0,none⟩)] w fun e w' => e = .returned (.int .u32 ((cu.u 4).1 : Int)) ∧ CurS w' c src all (cu.u 4).2 ∧ Upd (fun k => k = c) w w' := by
 obtain ⟨v,hb,hs⟩ := h.b
 refine (u32_any c v cu.l cu.bad w hb (hs w h.s)).mono ?_
 rintro e w' ⟨v',rfl,hp,hv⟩
 exact ⟨rfl,h.step (cu' := (cu.u 4).2) hp fun u hu => hv u (hs u hu)⟩
theorem cuTake (n : Int) (h : CurS w c src all cu) : Calls Tryz.prog 101 #[.pointer (some ⟨c,0,none⟩),.int .i64 n] w fun e w' => ∃ x,e = .returned x ∧ (∀ u,Bs u src all → Bs u x (cu.take n).1) ∧ CurS w' c src all (cu.take n).2 ∧ Upd (fun k => k = c) w w' := by
 obtain ⟨v,hb,hs⟩ := h.b
 refine (take_any c v cu.l cu.bad n w w hb (hs w h.s)).mono ?_
 rintro e w' ⟨x,v',rfl,hp,hv⟩
 exact ⟨x,rfl,fun u hu => (hv u (hs u hu)).1,h.step (cu' := (cu.take n).2) hp fun u hu => (hv u (hs u hu)).2⟩
theorem cuBad (h : CurS w c src all cu) : Calls Tryz.prog 188 #[.pointer (some ⟨c,0,none⟩)] w fun e w' => e = .returned (.bool cu.bad) ∧ Hp w [] w' := by
 obtain ⟨v,hb,hs⟩ := h.b
 exact bad_any c v cu.bad w hb
theorem cuEnd (h : CurS w c src all cu) : Calls Tryz.prog 189 #[.pointer (some ⟨c,0,none⟩)] w fun e w' => e = .returned (.bool (!cu.bad && decide (cu.l = []))) ∧ Hp w [] w' := by
 obtain ⟨v,hb,hs⟩ := h.b
 exact end_any c v cu.l cu.bad w w hb (hs w h.s)
end
theorem cuAt (v : Value) (l : List UInt8) (w : World) (h : Bs w v l) (hb : ∀ k,v.ownBlock = some k → l ≠ [] → k < w.heap.size) :
  Calls Tryz.prog 100 #[v] w fun e w' => ∃ c,e = .returned (.pointer (some ⟨c,0,none⟩)) ∧ w.heap.size ≤ c ∧ CurS w' c v l ⟨l,false⟩ ∧ Upd (fun k => w.heap.size ≤ k) w w' := by
 refine (at_any v l w w h).mono ?_
 rintro e w' ⟨c,rfl,hc,hp⟩
 have u : Upd (fun k => w.heap.size ≤ k) w w' := hp.on (Upd.refl _ _) zf
 exact ⟨c,rfl,hc,⟨⟨v,hp.own.at (.head _),fun _ h => h⟩,h.upd u fun k _ hk _ => Nat.not_le.2 hk,fun k hk hne => by have := hb k hk hne;omega⟩,u⟩
theorem Cu.u_lt (c : Cu) (n : Nat) (hn : n ≤ 4) : (c.u n).1 < 256 ^ n := by
 have h1 := leN_lt (c.take n).1
 have h2 : (256 : Nat) ^ (c.take n).1.length ≤ 256 ^ n := Nat.pow_le_pow_right kf (cTake_len c.l c.bad n)
 exact Nat.lt_of_lt_of_le h1 h2
def getC (c : Cu) (most : Nat) : (List UInt8 × Bool) × Cu :=
 if most < (c.u 2).1 then (([],false),(c.u 2).2) else ((((c.u 2).2.take (c.u 2).1).1,!((c.u 2).2.take (c.u 2).1).2.bad),((c.u 2).2.take (c.u 2).1).2)
theorem getC_len (c : Cu) (most : Nat) : (getC c most).1.1.length ≤ most := by
 unfold getC
 split
 ·exact Nat.zero_le _
 ·have := cTake_len (c.u 2).2.l (c.u 2).2.bad (c.u 2).1
  show (cTake (c.u 2).2.l (c.u 2).2.bad (c.u 2).1).1.length ≤ most
  omega
theorem sGet (c : Nat) (src : Value) (all : List UInt8) (cu : Cu) (most : Nat) (w : World) (h : CurS w c src all cu) :
  Calls Tryz.prog 141 #[.pointer (some ⟨c,0,none⟩),.int .i64 (most : Int)] w fun e w' => e = .returned (.tuple #[strV (getC cu most).1.1,.bool (getC cu most).1.2]) ∧ CurS w' c src all (getC cu most).2 ∧ Upd (fun k => k = c) w w' := by
 refine enter (args := [_,_]) (Γ := [(0,_),(1,_)]) Tryz.func141 Tryz.ntmps141 rfl odq (.cons rfl (.cons rfl .nil)) ?_
 repeat' first | refine Wl.move rfl rfl ?_ | refine Wl.assign rfl rfl ?_ | apply Wl.nil | apply St.seq | apply St.region | apply Gt.next
 apply Wl.callC
 ·exact rfl
 ·exact kd
 intro wq hq
 have hq0 := h.upd hq.upd nt0 (fun _ _ _ _ y => y trivial)
 refine (cuU16 c src all cu wq hq0).mono ?_
 rintro e w1 ⟨rfl,h1,u1⟩
 have v1 : Upd (fun k => k = c) w w1 := (hq.upd.mono fun _ _ y => (y trivial).elim).comp u1 fun k _ h => h.elim id id
 refine ⟨_,_,rfl,Hp.start w1,?_⟩
 by_cases hm : most < (cu.u 2).1
 ·have hd : decide ((((cu.u 2).1 : Nat) : Int) > (most : Int)) = true := decide_eq_true kf
  have e : getC cu most = (([],false),(cu.u 2).2) := if_pos hm
  rw [e]
  repeat' first | refine Wl.move rfl rfl ?_ | refine Wl.assign rfl rfl ?_ | refine Wl.gtr rfl rfl rfl ?_ | apply Wl.nil | apply St.seq | apply St.region | (apply St.condT;exact rfl;exact k5) | apply St.ret | apply Gt.next | apply Gt.thenRet | (apply Gt.out2;exact rfl;exact rfl;exact rfl;intro w' hp)
  exact ⟨rfl,h1.upd hp.upd nt0 (fun _ _ _ _ y => y trivial),v1.comp hp.upd fun k _ h => h.elim id fun y => (y trivial).elim⟩
 ·have hd : decide ((((cu.u 2).1 : Nat) : Int) > (most : Int)) = false := decide_eq_false kf
  have e : getC cu most = ((((cu.u 2).2.take (cu.u 2).1).1,!((cu.u 2).2.take (cu.u 2).1).2.bad),((cu.u 2).2.take (cu.u 2).1).2) := if_neg hm
  rw [e]
  repeat' first | refine Wl.move rfl rfl ?_ | refine Wl.assign rfl rfl ?_ | refine Wl.gtr rfl rfl rfl ?_ | apply Wl.nil | apply St.seq | apply St.region | (apply St.condF;exact rfl;exact k5) | apply St.skip | apply Gt.next
  apply Wl.callC
  ·exact rfl
  ·exact kd
  intro wq2 hq2
  have hq0' := h1.upd hq2.upd nt0 (fun _ _ _ _ y => y trivial)
  refine (cuTake c src all (cu.u 2).2 wq2 ((cu.u 2).1 : Int) hq0').mono ?_
  rintro e w2 ⟨x,rfl,hx,h2,u2⟩
  have v2 : Upd (fun k => k = c) w w2 := (v1.comp hq2.upd (T := fun k => k = c) fun k _ h => h.elim id fun y => (y trivial).elim).comp u2 fun k _ h => h.elim id id
  have hxb := hx w2 h2.s
  refine ⟨_,_,rfl,Hp.start w2,?_⟩
  repeat' first | (apply Wl.convBSo;exact rfl;exact rfl;exact hxb;exact (fun _ _ _ _ => trivial)) | refine Wl.move rfl rfl ?_ | refine Wl.assign rfl rfl ?_ | apply Wl.nil | apply St.seq | apply St.region | apply Gt.next
  apply Wl.callQ
  exact rfl
  (focus repeat constructor)
  ·intro wq hq
   exact hq.q (cuBad c src all _ wq (h2.upd hq.upd nt0 (fun _ _ _ _ y => y trivial)))
  repeat' first | refine Wl.assign rfl rfl ?_ | refine Wl.not rfl rfl ?_ | apply Wl.nil | apply St.ret | apply Gt.next | (apply Gt.out2;exact rfl;exact rfl;exact rfl;intro w' hp)
  exact ⟨rfl,h2.upd hp.upd nt0 (fun _ _ _ _ y => y trivial),v2.comp hp.upd fun k _ h => h.elim id fun y => (y trivial).elim⟩
def unpC : Nat → Nat → (Nat → Int) → Cu → Option ((Nat → Int) × Cu)
 | 0,at_,f,c => if at_ < 65536 then none else some (f,c)
 | m + 1,at_,f,c => if at_ < 65536 then
   (if (c.u 4).1 ≤ 65536 - at_ ∧ ((c.u 4).2.u 4).1 ≤ 65536 - at_ - (c.u 4).1 ∧ ((c.u 4).2.u 4).2.bad = false ∧ (c.u 4).1 + ((c.u 4).2.u 4).1 ≠ 0 then
    (if (((c.u 4).2.u 4).2.take (((c.u 4).2.u 4).1 : Int)).2.bad = false then
     unpC m (at_ + (c.u 4).1 + ((c.u 4).2.u 4).1) (putF f (at_ + (c.u 4).1) (((c.u 4).2.u 4).2.take (((c.u 4).2.u 4).1 : Int)).1) (((c.u 4).2.u 4).2.take (((c.u 4).2.u 4).1 : Int)).2
    else none)
   else none)
  else some (f,c)
section
variable {P : Program} {md : Md} {N : Nat} {ops : Array Oper} {rest : List Oper} {Γ : Env} {C : World → Prop} {Q : Exit → Act → World → Prop} {d : Nat} {ty : TypeId} {pos : String} {af : Array Edge} {t u : TypeId} {x y : Operand} {k : IntKind} {m n z : Int}
theorem Wl.subIs (hz : k.wrap (m - n) = z) (hd : Nat.blt d N = true) (hx : ev Γ x = some (.int k m)) (hy : ev Γ y = some (.int k n)) (h : Wl rest P md ops N ((d,.int k z) :: Γ) C Q) : Wl (⟨some d,.binOp .sub t x y u,ty,pos,af,none⟩ :: rest) P md ops N Γ C Q := by
 subst hz
 exact Wl.sub' hd hx hy h
theorem Wl.addIs (hz : k.wrap (m + n) = z) (hd : Nat.blt d N = true) (hx : ev Γ x = some (.int k m)) (hy : ev Γ y = some (.int k n)) (h : Wl rest P md ops N ((d,.int k z) :: Γ) C Q) : Wl (⟨some d,.binOp .add t x y u,ty,pos,af,none⟩ :: rest) P md ops N Γ C Q := by
 subst hz
 exact Wl.add hd hx hy h
end
theorem Cu.take_len {c : Cu} {k : Nat} (h : (c.take (k : Int)).2.bad = false) : (c.take (k : Int)).1.length = k := by
 unfold Cu.take cTake at h ⊢
 dsimp only at h ⊢
 split at h
 ·cases h
 ·rename_i hn
  rw [if_neg hn]
  simp only [not_or] at hn
  rw [List.length_take]
  omega
theorem bs_in {w : World} {v : Value} {l : List UInt8} (h : Bs w v l) (hne : l ≠ []) : ∀ k,v.ownBlock = some k → k < w.heap.size := by
 obtain ⟨a,cap,rfl,_,_⟩ := h.shape
 obtain ⟨b,off,rfl,hc⟩ := h.cells hne
 intro k hk
 cases hk
 exact World.block_lt_of_cell? w _ (hc 0 (by cases l with | nil => exact (hne rfl).elim | cons x r => simp))
theorem putF_nil (f : Nat → Int) (o : Nat) : putF f o [] = f := by funext j;simp [putF]
theorem sUnpack (c : Nat) (src : Value) (all : List UInt8) (cu : Cu) (w : World) (h : CurS w c src all cu) (hsrc : ∀ k,src.ownBlock = some k → all ≠ [] → k < w.heap.size) :
  Calls Tryz.prog 143 #[.pointer (some ⟨c,0,none⟩)] w fun e w' => Upd (fun k => k = c ∨ w.heap.size ≤ k) w w' ∧
   ((unpC 65536 0 (fun _ => 0) cu = none ∧ e = .returned (.tuple #[.pointer none,.bool false])) ∨ ∃ f cu' d,unpC 65536 0 (fun _ => 0) cu = some (f,cu') ∧ w.heap.size ≤ d ∧ e = .returned (.tuple #[.pointer (some ⟨d,0,none⟩),.bool (!cu'.bad && decide (cu'.l = []))]) ∧ memH w' d f) := by
 have lc := h.lt
 have hs0 := h.s
 generalize hR0 : unpC 65536 0 (fun _ => 0) cu = R
 refine enter (args := [_]) (Γ := [(0,_)]) Tryz.func143 Tryz.ntmps143 rfl odq (.cons rfl .nil) ?_
 repeat' first | refine Wl.assign rfl rfl ?_ | apply Wl.nil | apply St.seq | apply St.region | apply Gt.next
 apply Wl.callC
 ·exact rfl
 ·exact kd
 intro wq hq
 refine (newMem wq).mono ?_
 rintro e w1 ⟨d,rfl,hp1,hd1⟩
 have zq := hq.upd.size
 have u1 : Upd (fun k => k = c ∨ w.heap.size ≤ k) w w1 := (hq.upd.mono fun _ _ y => (y trivial).elim).comp (Hp.turned hp1) fun k _ h => h.elim id fun h => .inr kf
 have hm1 : memH w1 d fun _ => 0 := hp1.own.at (.head _)
 have h1 : CurS w1 c src all cu := (h.upd hq.upd nt0 (fun _ _ _ _ y => y trivial)).new (hp1.on (Upd.refl _ _) zp)
 refine ⟨_,_,rfl,Hp.start w1,?_⟩
 clear hq hp1 h
 repeat' first | refine Wl.assign rfl rfl ?_ | apply Wl.nil | apply St.seq | apply St.block | apply St.region | apply Gt.next
 refine St.loop (σ := Nat × Nat × (Nat → Int) × Cu × World) (fun τ => (τ.2.1 ≤ 65536 ∧ 65536 ≤ τ.1 + τ.2.1) ∧ unpC τ.1 τ.2.1 τ.2.2.1 τ.2.2.2.1 = R ∧ CurS τ.2.2.2.2 c src all τ.2.2.2.1 ∧ memH τ.2.2.2.2 d τ.2.2.1 ∧ Upd (fun k => k = c ∨ w.heap.size ≤ k) w τ.2.2.2.2)
  (fun τ => [(0,.pointer (some ⟨c,0,none⟩)),(4,.pointer (some ⟨d,0,none⟩)),(5,.int .u32 (τ.2.1 : Int))]) (fun τ => Hp τ.2.2.2.2 []) (fun τ => 65536 - τ.2.1) (65536,0,fun _ => 0,cu,w1) ⟨⟨Nat.zero_le _,Nat.le_refl _⟩,hR0,h1,hm1,u1⟩ kq (fun _ h => h) ?_
 clear hR0 h1 hm1 u1
 rintro ⟨m,o,f,cu,w2⟩ ⟨⟨ho,hmo⟩,hR,hC,hm,u2⟩
 simp only at ho hmo hR hC hm u2 ⊢
 have z2 := u2.size
 by_cases hlt : o < 65536
 rotate_left
 ·have hd0 : decide ((o : Int) < 65536) = false := decide_eq_false kf
  have hR' : R = some (f,cu) := by
   rw [← hR]
   cases m <;> (unfold unpC;rw [if_neg hlt])
  repeat' first | refine Wl.move rfl rfl ?_ | refine Wl.lss rfl rfl rfl ?_ | apply Wl.nil | apply St.seq | apply St.region | (apply St.condF;exact rfl;exact k5) | apply St.exit | apply Gt.next | apply Gt.thenExit | apply Gt.inExit
  apply Wl.callQ
  exact rfl
  (focus repeat constructor)
  ·intro wq hq
   exact hq.q (cuEnd c src all cu wq (hC.upd hq.upd nt0 (fun _ _ _ _ y => y trivial)))
  repeat' first | refine Wl.assign rfl rfl ?_ | apply Wl.nil | apply St.ret | apply Gt.next | (apply Gt.out2;exact rfl;exact rfl;exact rfl;intro w' hp)
  exact ⟨u2.comp hp.upd fun k _ h => h.elim id fun y => (y trivial).elim,.inr ⟨f,cu,d,hR',by omega,rfl,hp.upd.heap hm fun y => y trivial⟩⟩
 have hd0 : decide ((o : Int) < 65536) = true := decide_eq_true kf
 obtain ⟨m,rfl⟩ : ∃ m',m = m' + 1 := ⟨m - 1,by omega⟩
 have hn1 := (cu.u 4).2.u_lt 4 kf
 have hn0 := cu.u_lt 4 kf
 unfold unpC at hR
 rw [if_pos hlt] at hR
 repeat' first | refine Wl.move rfl rfl ?_ | refine Wl.lss rfl rfl rfl ?_ | apply Wl.nil | apply St.seq | apply St.block | apply St.region | (apply St.condT;exact rfl;exact k5) | apply St.skip | apply Gt.next
 apply Wl.callC
 ·exact rfl
 ·exact kd
 intro wq hq
 refine (cuU32 c src all cu wq (hC.upd hq.upd nt0 (fun _ _ _ _ y => y trivial))).mono ?_
 rintro e w3 ⟨rfl,h3,u3⟩
 have U3 : Upd (fun k => k = c) w2 w3 := (hq.upd.mono fun _ _ y => (y trivial).elim).comp u3 fun k _ h => h.elim id id
 refine ⟨_,_,rfl,Hp.start w3,?_⟩
 clear hq u3
 repeat' first | refine Wl.move rfl rfl ?_
 apply Wl.callC
 ·exact rfl
 ·exact kd
 intro wq hq
 refine (cuU32 c src all _ wq (h3.upd hq.upd nt0 (fun _ _ _ _ y => y trivial))).mono ?_
 rintro e w4 ⟨rfl,h4,u4⟩
 have U4 : Upd (fun k => k = c) w2 w4 := (U3.comp hq.upd (T := fun k => k = c) fun k _ h => h.elim id fun y => (y trivial).elim).comp u4 fun k _ h => h.elim id id
 refine ⟨_,_,rfl,Hp.start w4,?_⟩
 clear hq u4 U3 h3
 generalize hcu1 : (cu.u 4).2 = cu1 at *
 generalize hn : (cu.u 4).1 = n at *
 generalize hcu2 : (cu1.u 4).2 = cu2 at *
 generalize hk : (cu1.u 4).1 = k at *
 have V4 : Upd (fun k => k = c ∨ w.heap.size ≤ k) w w4 := u2.comp U4 fun k _ h => h.elim id .inl
 have hdc : d ≠ c := by omega
 have hm4 : memH w4 d f := U4.heap hm hdc
 have hs1 : IntKind.u32.wrap (65536 - (o : Int)) = ((65536 - o : Nat) : Int) := by rw [IntKind.wrap_u32];omega
 by_cases c1 : n ≤ 65536 - o
 rotate_left
 ·have dA : decide (((n : Nat) : Int) > ((65536 - o : Nat) : Int)) = true := decide_eq_true kf
  repeat' first | (apply Wl.subIs hs1;exact rfl;exact rfl;exact rfl) | refine Wl.move rfl rfl ?_ | refine Wl.assign rfl rfl ?_ | (apply Wl.off;exact rfl;exact rfl;exact rfl;exact ki) | (apply Wl.pickT;exact rfl;exact rfl;exact k5;exact rfl) | refine Wl.gtr rfl rfl rfl ?_ | apply Wl.nil | apply St.seq | apply St.region | (apply St.condT;exact rfl;exact k5) | apply St.ret | apply Gt.next | apply Gt.thenRet | apply Gt.inRet | (apply Gt.out2;exact rfl;exact rfl;exact rfl;intro w' hp)
  exact ⟨V4.comp hp.upd fun k _ h => h.elim id fun y => (y trivial).elim,.inl ⟨by rw [← hR,if_neg fun h => c1 h.1],rfl⟩⟩
 have dA : decide (((n : Nat) : Int) > ((65536 - o : Nat) : Int)) = false := decide_eq_false kf
 have hs2 : IntKind.u32.wrap (((65536 - o : Nat) : Int) - (n : Int)) = ((65536 - o - n : Nat) : Int) := by rw [IntKind.wrap_u32];omega
 by_cases c2 : k ≤ 65536 - o - n
 rotate_left
 ·have dB : decide (((k : Nat) : Int) > ((65536 - o - n : Nat) : Int)) = true := decide_eq_true kf
  repeat' first | (apply Wl.subIs hs1;exact rfl;exact rfl;exact rfl) | (apply Wl.subIs hs2;exact rfl;exact rfl;exact rfl) | refine Wl.move rfl rfl ?_ | refine Wl.assign rfl rfl ?_ | (apply Wl.on;exact rfl;exact rfl;exact k5) | (apply Wl.off;exact rfl;exact rfl;exact rfl;exact ki) | (apply Wl.pickT;exact rfl;exact rfl;exact k5;exact rfl) | (apply Wl.pickF;exact rfl;exact rfl;exact k5;exact rfl) | refine Wl.gtr rfl rfl rfl ?_ | apply Wl.nil | apply St.seq | apply St.region | (apply St.condT;exact rfl;exact k5) | apply St.ret | apply Gt.next | apply Gt.thenRet | apply Gt.inRet | (apply Gt.out2;exact rfl;exact rfl;exact rfl;intro w' hp)
  exact ⟨V4.comp hp.upd fun k _ h => h.elim id fun y => (y trivial).elim,.inl ⟨by rw [← hR,if_neg fun h => c2 h.2.1],rfl⟩⟩
 have dB : decide (((k : Nat) : Int) > ((65536 - o - n : Nat) : Int)) = false := decide_eq_false kf
 have hs3 : IntKind.u32.wrap ((n : Int) + (k : Int)) = ((n + k : Nat) : Int) := by rw [IntKind.wrap_u32];omega
 repeat' first | (apply Wl.subIs hs1;exact rfl;exact rfl;exact rfl) | (apply Wl.subIs hs2;exact rfl;exact rfl;exact rfl) | refine Wl.move rfl rfl ?_ | refine Wl.assign rfl rfl ?_ | (apply Wl.on;exact rfl;exact rfl;exact k5) | (apply Wl.pickF;exact rfl;exact rfl;exact k5;exact rfl) | refine Wl.gtr rfl rfl rfl ?_ | apply Wl.nil | apply St.seq | apply St.region | apply Gt.next
 apply Wl.callQ
 exact rfl
 (focus repeat constructor)
 ·intro wq hq
  exact hq.q (cuBad c src all cu2 wq (h4.upd hq.upd nt0 (fun _ _ _ _ y => y trivial)))
 by_cases c3 : cu2.bad = false
 rotate_left
 ·have c3' : cu2.bad = true := by simpa using c3
  repeat' first | refine Wl.move rfl rfl ?_ | refine Wl.assign rfl rfl ?_ | (apply Wl.off;exact rfl;exact rfl;exact rfl;exact ki) | (apply Wl.pickT;exact rfl;exact rfl;exact k5;exact rfl) | (apply Wl.pickF;exact rfl;exact rfl;exact k5;exact rfl) | apply Wl.nil | apply St.seq | apply St.region | (apply St.condT;exact rfl;exact k5) | apply St.ret | apply Gt.next | apply Gt.thenRet | apply Gt.inRet | (apply Gt.out2;exact rfl;exact rfl;exact rfl;intro w' hp)
  exact ⟨V4.comp hp.upd fun k _ h => h.elim id fun y => (y trivial).elim,.inl ⟨by rw [← hR,if_neg fun h => c3 h.2.2.1],rfl⟩⟩
 by_cases c4 : n + k = 0
 ·have dC : decide (((n + k : Nat) : Int) = 0) = true := decide_eq_true kf
  repeat' first | (apply Wl.addIs hs3;exact rfl;exact rfl;exact rfl) | refine Wl.move rfl rfl ?_ | refine Wl.assign rfl rfl ?_ | (apply Wl.on;exact rfl;exact rfl;exact k5) | (apply Wl.pickF;exact rfl;exact rfl;exact k5;exact rfl) | refine Wl.eql rfl rfl rfl ?_ | apply Wl.nil | apply St.seq | apply St.region | (apply St.condT;exact rfl;exact k5) | apply St.ret | apply Gt.next | apply Gt.thenRet | apply Gt.inRet | (apply Gt.out2;exact rfl;exact rfl;exact rfl;intro w' hp)
  exact ⟨V4.comp hp.upd fun k _ h => h.elim id fun y => (y trivial).elim,.inl ⟨by rw [← hR,if_neg fun h => h.2.2.2 c4],rfl⟩⟩
 have dC : decide (((n + k : Nat) : Int) = 0) = false := decide_eq_false kf
 rw [if_pos ⟨c1,c2,c3,c4⟩] at hR
 have hs4 : IntKind.i64.wrap (k : Int) = (k : Int) := by rw [IntKind.wrap_i64];omega
 repeat' first | (apply Wl.addIs hs3;exact rfl;exact rfl;exact rfl) | refine Wl.move rfl rfl ?_ | (apply Wl.on;exact rfl;exact rfl;exact k5) | (apply Wl.pickF;exact rfl;exact rfl;exact k5;exact rfl) | refine Wl.eql rfl rfl rfl ?_ | (refine Wl.convI64 rfl rfl ?_ ?_;constructor <;> omega) | apply Wl.nil | apply St.seq | apply St.region | (apply St.condF;exact rfl;exact k5) | apply St.skip | apply Gt.next
 apply Wl.callC
 ·exact rfl
 ·exact kd
 intro wq hq
 refine (cuTake c src all cu2 wq (k : Int) (h4.upd hq.upd nt0 (fun _ _ _ _ y => y trivial))).mono ?_
 rintro e w5 ⟨x,rfl,hx,h5,u5⟩
 have U5 : Upd (fun k => k = c) w4 w5 := (hq.upd.mono fun _ _ y => (y trivial).elim).comp u5 fun k _ h => h.elim id id
 refine ⟨_,_,rfl,Hp.start w5,?_⟩
 clear hq u5
 repeat' first | refine Wl.move rfl rfl ?_ | refine Wl.assign rfl rfl ?_ | apply Wl.nil | apply St.seq | apply St.region | apply Gt.next
 apply Wl.callQ
 exact rfl
 (focus repeat constructor)
 ·intro wq hq
  exact hq.q (cuBad c src all (cu2.take (k : Int)).2 wq (h5.upd hq.upd nt0 (fun _ _ _ _ y => y trivial)))
 have V5 : Upd (fun k => k = c ∨ w.heap.size ≤ k) w w5 := V4.comp U5 fun k _ h => h.elim id .inl
 by_cases c5 : (cu2.take (k : Int)).2.bad = false
 rotate_left
 ·have c5' : (cu2.take (k : Int)).2.bad = true := by simpa using c5
  rw [if_neg c5] at hR
  repeat' first | refine Wl.assign rfl rfl ?_ | apply Wl.nil | apply St.seq | apply St.region | (apply St.condT;exact rfl;exact k5) | apply St.ret | apply Gt.next | apply Gt.thenRet | apply Gt.inRet | (apply Gt.out2;exact rfl;exact rfl;exact rfl;intro w' hp)
  exact ⟨V5.comp hp.upd fun k _ h => h.elim id fun y => (y trivial).elim,.inl ⟨hR.symm,rfl⟩⟩
 rw [if_pos c5] at hR
 have hlk := cu2.take_len c5
 have hm5 := U5.heap hm4 hdc
 have hxi : ∀ j,x.ownBlock = some j → (cu2.take (k : Int)).1 ≠ [] → j < w.heap.size := fun j hj hne => bs_in (hx w hs0) hne j hj
 have hxb := hx w5 h5.s
 generalize hcu3 : (cu2.take (k : Int)).2 = cu3 at *
 generalize hl : (cu2.take (k : Int)).1 = l at *
 have hs5 : IntKind.u32.wrap (2147483648 + (o : Int)) = 2147483648 + (o : Int) := by rw [IntKind.wrap_u32];omega
 have hs6 : IntKind.u32.wrap (2147483648 + (o : Int) + (n : Int)) = 2147483648 + ((o + n : Nat) : Int) := by rw [IntKind.wrap_u32];omega
 have hs7 : IntKind.u32.wrap ((o : Int) + ((n + k : Nat) : Int)) = ((o + n + k : Nat) : Int) := by rw [IntKind.wrap_u32];omega
 have hput : ∀ wq,Hp w5 [] wq → Calls Tryz.prog 53 #[.pointer (some ⟨d,0,none⟩),.int .u32 (2147483648 + ((o + n : Nat) : Int)),x] wq fun e w' => e = .returned (.int .i64 0) ∧ memH w' d (putF f (o + n) l) ∧ Upd (fun k => k = d) wq w' := fun wq hq => by
  have hxq := hxb.upd hq.upd fun _ _ _ _ y => y trivial
  have hmq := hq.upd.heap hm5 fun y => y trivial
  by_cases c6 : o + n < 65536
  ·have := mputX1 d f (2147483648 + ((o + n : Nat) : Int)) x l wq hmq hxq (fun j hj hne => by have := hxi j hj hne;omega) kf ⟨by omega,by omega⟩ kf
   rwa [show (2147483648 + ((o + n : Nat) : Int) - 2147483648).toNat = o + n by omega] at this
  ·have h65 : o + n = 65536 := by omega
   have hl0 : l = [] := List.eq_nil_of_length_eq_zero kf
   rw [hl0] at hxq ⊢
   rw [h65,putF_nil]
   exact mputE d f x wq hmq hxq
 repeat' first | (apply Wl.addIs hs5;exact rfl;exact rfl;exact rfl) | (apply Wl.addIs hs6;exact rfl;exact rfl;exact rfl) | refine Wl.move rfl rfl ?_ | apply Wl.nil | apply St.seq | apply St.region | (apply St.condF;exact rfl;exact k5) | apply St.skip | apply Gt.next
 apply Wl.callC
 ·exact rfl
 ·exact kd
 intro wq hq
 refine (hput wq hq).mono ?_
 rintro e w6 ⟨rfl,hm6,u6⟩
 have h6 := (h5.upd hq.upd nt0 (fun _ _ _ _ y => y trivial)).upd u6 (fun e => hdc e.symm) fun j hj _ hne e => by have := hsrc j hj hne;omega
 have V6 : Upd (fun k => k = c ∨ w.heap.size ≤ k) w w6 := (V5.comp hq.upd (T := fun k => k = c ∨ w.heap.size ≤ k) fun k _ h => h.elim id fun y => (y trivial).elim).comp u6 fun k _ h => h.elim id fun h => .inr kf
 refine ⟨_,_,rfl,Hp.start w6,?_⟩
 clear hq u6
 repeat' first | (apply Wl.addIs hs3;exact rfl;exact rfl;exact rfl) | (apply Wl.addIs hs7;exact rfl;exact rfl;exact rfl) | refine Wl.move rfl rfl ?_ | refine Wl.assign rfl rfl ?_ | apply Wl.nil | apply St.region | apply Gt.next | apply Gt.inNormal
 refine Gt.reb (H' := []) fun w7 h7 => ⟨trivial,trivial,?_⟩
 refine Gt.round (m,o + n + k,putF f (o + n) l,cu3,w7) ⟨⟨by simp only;omega,by simp only;omega⟩,hR,h6.upd h7.upd nt0 (fun _ _ _ _ y => y trivial),h7.upd.heap hm6 fun y => y trivial,V6.comp h7.upd fun k _ h => h.elim id fun y => (y trivial).elim⟩ ky kq (fun _ h => h)
def regsC (c : Cu) : Nat → List Nat × Cu
 | 0 => ([],c)
 | k + 1 => ((regsC c k).1 ++ [((regsC c k).2.u 4).1],((regsC c k).2.u 4).2)
theorem regsC_len (c : Cu) : ∀ k,(regsC c k).1.length = k
 | 0 => rfl
 | k + 1 => by unfold regsC;rw [List.length_append,regsC_len c k];rfl
def regV (l : List Nat) : List Value := l.map fun (x : Nat) => .int .u32 (x : Int)
def boxC (n : Nat) : Nat → List (Int × List UInt8) → Cu → Option (List (Int × List UInt8) × Cu)
 | 0,b,c => some (b,c)
 | k + 1,b,c => if (getC (c.u 1).2 16).1.2 = true ∧ (c.u 1).1 < n ∧ (getC (c.u 1).2 16).1.1 ≠ [] then boxC n k (b ++ [(((c.u 1).1 : Int),(getC (c.u 1).2 16).1.1)]) (getC (c.u 1).2 16).2 else none
def cuA (c : Cu) : Cu := (c.u 1).2
def cuB (c : Cu) : Cu := ((cuA c).u 4).2
def cuC (c : Cu) : Cu := ((cuB c).u 4).2
def cuD (c : Cu) : Cu := (regsC (cuC c) 32).2
def cuE (c : Cu) : Cu := (getC (cuD c) 64).2
def staC (c : Cu) : Sta := ⟨((c.u 1).1 : Int),(((cuA c).u 4).1 : Int),(((cuB c).u 4).1 : Int),regV (regsC (cuC c) 32).1⟩
def rowC (n : Nat) (c : Cu) : Option ((Sta × List UInt8 × List (Int × List UInt8)) × Cu) :=
 if (getC (cuD c) 64).1.2 = true ∧ ((cuE c).u 1).1 ≤ 4 then
  (match boxC n ((cuE c).u 1).1 [] ((cuE c).u 1).2 with
  | some r => some ((staC c,(getC (cuD c) 64).1.1,r.1),r.2)
  | none => none)
 else none
structure Rws where
 L : List Sta
 ins : List (List UInt8)
 bx : List (List (Int × List UInt8))
def rowsC (n : Nat) : Nat → Rws → Cu → Option (Rws × Cu)
 | 0,r,c => some (r,c)
 | k + 1,r,c => match rowC n c with
  | some x => rowsC n k ⟨r.L ++ [x.1.1],r.ins ++ [x.1.2.1],r.bx ++ [x.1.2.2]⟩ x.2
  | none => none
def linC (n : Nat) : Nat → Nat → List (Int × List UInt8) → Cu → Option (List (Int × List UInt8) × Cu)
 | 0,_,l,c => some (l,c)
 | k + 1,u,l,c => if (getC (c.u 1).2 64).1.2 = true ∧ (c.u 1).1 < n ∧ (getC (c.u 1).2 64).1.1 ≠ [] ∧ u + (getC (c.u 1).2 64).1.1.length ≤ 256 then linC n k (u + (getC (c.u 1).2 64).1.1.length) (l ++ [(((c.u 1).1 : Int),(getC (c.u 1).2 64).1.1)]) (getC (c.u 1).2 64).2 else none
structure SnD where
 t : Int
 r : Rws
 ll : List (Int × List UInt8)
 f : Nat → Int
def turnC (t : Nat) : Int := if t = 255 then -1 else (t : Int)
def tailC (n : Nat) (t : Int) (r : Rws) (c : Cu) : Option SnD :=
 match linC n (c.u 2).1 0 [] (c.u 2).2 with
 | none => none
 | some x => match unpC 65536 0 (fun _ => 0) x.2 with
  | none => none
  | some y => if (!y.2.bad && decide (y.2.l = [])) = true then some ⟨t,r,x.1,y.1⟩ else none
def stateC (n : Nat) (c : Cu) : Option SnD :=
 if (c.u 1).1 = n then
  (match rowsC n n ⟨[],[],[]⟩ ((c.u 1).2.u 1).2 with
  | none => none
  | some x => tailC n (turnC ((c.u 1).2.u 1).1) x.1 x.2)
 else none
structure SnT (w : World) (base : Nat) (S : SnD) (sv iv bv lv : Value) (cM : Nat) (vs : List Value) : Prop where
 s : w.ownsRow base 44 35 sv S.r.L.length (stas S.r.L).flatten
 i : w.ownsRow base 9 1 iv S.r.ins.length (S.r.ins.map strV)
 b : w.ownsRow base 76 1 bv S.r.bx.length vs
 bl : vs.length = S.r.bx.length ∧ ∀ (j : Nat) x,S.r.bx[j]? = some x → ∃ v,vs[j]? = some v ∧ w.ownsRow base 78 2 v x.length (x.map lineC).flatten
 l : w.ownsRow base 111 2 lv S.ll.length (S.ll.map lineC).flatten
 m : memH w cM S.f
structure R4 (w0 w : World) (c : Nat) (src : Value) (all : List UInt8) (D : List Nat) (cu : Cu) (L : List Sta) (ins : List (List UInt8)) (bx : List (List (Int × List UInt8))) (xl ll : List (Int × List UInt8)) (sv iv bv xv lv : Value) (vs : List Value) : Prop where
 u : Upd (fun k => k = c ∨ w0.heap.size ≤ k) w0 w
 cl : c < w0.heap.size ∧ ∀ k,src.ownBlock = some k → all ≠ [] → k < w0.heap.size
 cur : CurS w c src all cu
 s : w.ownsRow w0.heap.size 44 35 sv L.length (stas L).flatten
 i : w.ownsRow w0.heap.size 9 1 iv ins.length (ins.map strV)
 b : w.ownsRow w0.heap.size 76 1 bv bx.length vs
 bl : vs.length = bx.length ∧ ∀ (j : Nat) x,bx[j]? = some x → ∃ v,vs[j]? = some v ∧ w.ownsRow w0.heap.size 78 2 v x.length (x.map lineC).flatten
 x : w.ownsRow w0.heap.size 78 2 xv xl.length (xl.map lineC).flatten
 l : w.ownsRow w0.heap.size 111 2 lv ll.length (ll.map lineC).flatten
 o : ∀ y,y ∈ sv :: iv :: bv :: xv :: lv :: vs → ∀ k,y.ownBlock = some k → k ∉ D
 p : ∀ y,y ∈ vs → ∀ k,y.ownBlock = some k → xv.ownBlock ≠ some k
 d : ∀ k,k ∈ D → w0.heap.size ≤ k
theorem off_in {H : List Blk} {k : Nat} (h : k ∉ H.map Blk.b) : Off H k := Off.of fun x hx e => h (e ▸ List.mem_map_of_mem hx)
theorem in_off {H : List Blk} {k : Nat} (h : ¬ Off H k) : k ∈ H.map Blk.b := Classical.byContradiction fun hn => h (off_in hn)
section
variable {w0 w w1 : World} {c : Nat} {src : Value} {all : List UInt8} {D : List Nat} {cu cu' : Cu} {L : List Sta} {ins : List (List UInt8)} {bx : List (List (Int × List UInt8))} {xl ll : List (Int × List UInt8)} {sv iv bv xv lv v' : Value} {vs : List Value} {S : Nat → Prop} {H : List Blk}
theorem R4.vsRow (h : R4 w0 w c src all D cu L ins bx xl ll sv iv bv xv lv vs) {y : Value} (hy : y ∈ vs) : ∃ n xs,w.ownsRow w0.heap.size 78 2 y n xs := by
 obtain ⟨j,hj,rfl⟩ := List.mem_iff_getElem.1 hy
 obtain ⟨v,e1,e2⟩ := h.bl.2 j (bx[j]'(by have := h.bl.1;omega)) (List.getElem?_eq_getElem _)
 rw [List.getElem?_eq_getElem hj] at e1
 cases e1
 exact ⟨_,_,e2⟩
theorem R4.upd (h : R4 w0 w c src all D cu L ins bx xl ll sv iv bv xv lv vs) (u : Upd S w w1) (hs : ∀ k,S k → k < w.heap.size → k = c ∨ k ∈ D) (hn : ∀ k,S k → k < w.heap.size → w0.heap.size ≤ k ∨ k = c) (hc : CurS w1 c src all cu') : R4 w0 w1 c src all D cu' L ins bx xl ll sv iv bv xv lv vs := by
 have kr : ∀ {y : Value} {e sz n : Nat} {xs : List Value},y ∈ sv :: iv :: bv :: xv :: lv :: vs → w.ownsRow w0.heap.size e sz y n xs → w1.ownsRow w0.heap.size e sz y n xs := fun hy hr =>
  ownsRow_upd hr u fun k hk hS => by
   have g := hr.ge k hk
   rcases hs k hS g.2 with e | e
   ·have := h.cl.1;omega
   ·exact h.o _ hy k hk e
 exact {
  u := h.u.comp ((Upd.refl (fun b => b = c ∨ w0.heap.size ≤ b) w).comp u (T := fun b => b = c ∨ w0.heap.size ≤ b) fun b hb hS => hS.elim id fun hS => (hn b hS hb).symm) fun b _ h => h.elim id id
  cl := h.cl
  cur := hc
  s := kr za h.s
  i := kr za h.i
  b := kr za h.b
  bl := ⟨h.bl.1,fun j x hx => by
   obtain ⟨v,e1,e2⟩ := h.bl.2 j x hx
   exact ⟨v,e1,kr q7 e2⟩⟩
  x := kr za h.x
  l := kr za h.l
  o := h.o
  p := h.p
  d := h.d }
theorem R4.curOff (h : R4 w0 w c src all D cu L ins bx xl ll sv iv bv xv lv vs) (u : Upd S w w1) (hn : ∀ k,S k → k < w.heap.size → w0.heap.size ≤ k) : CurS w1 c src all cu :=
 h.cur.upd u (fun hS => by have := hn c hS h.cur.lt;have := h.cl.1;omega) fun k hk hlt hne hS => by have := hn k hS hlt;have := h.cl.2 k hk hne;omega
theorem R4.hp (h : R4 w0 w c src all D cu L ins bx xl ll sv iv bv xv lv vs) (hq : Hp w H w1) (e : H.map Blk.b = D) : R4 w0 w1 c src all D cu L ins bx xl ll sv iv bv xv lv vs := by
 have k1 : ∀ k,¬ Off H k → k ∈ D := fun k hk => e ▸ in_off hk
 exact h.upd hq.upd (fun k hk _ => .inr (k1 k hk)) (fun k hk _ => .inl (h.d k (k1 k hk))) (h.curOff hq.upd fun k hk _ => h.d k (k1 k hk))
theorem R4.turn (h : R4 w0 w c src all D cu L ins bx xl ll sv iv bv xv lv vs) (hc : CurS w1 c src all cu') (u : Upd (fun k => k = c) w w1) : R4 w0 w1 c src all D cu' L ins bx xl ll sv iv bv xv lv vs :=
 h.upd u (fun _ h _ => .inl h) (fun _ h _ => .inr h) hc
theorem R4.new (h : R4 w0 w c src all D cu L ins bx xl ll sv iv bv xv lv vs) {k : Nat} (hk : w.heap.size ≤ k) : R4 w0 w c src all (k :: D) cu L ins bx xl ll sv iv bv xv lv vs :=
 { h with
  o := fun y hy j hj hd => by
   rcases List.mem_cons.1 hd with rfl | hd
   ·have : j < w.heap.size := by
     simp only [List.mem_cons] at hy
     rcases hy with rfl | rfl | rfl | rfl | rfl | hy
     ·exact (h.s.ge j hj).2
     ·exact (h.i.ge j hj).2
     ·exact (h.b.ge j hj).2
     ·exact (h.x.ge j hj).2
     ·exact (h.l.ge j hj).2
     ·obtain ⟨n,xs,g⟩ := h.vsRow hy
      exact (g.ge j hj).2
    omega
   ·exact h.o y hy j hj hd
  d := fun j hj => by
   rcases List.mem_cons.1 hj with rfl | hj
   ·have := h.u.size;omega
   ·exact h.d j hj }
theorem R4.pop {k : Nat} (h : R4 w0 w c src all (k :: D) cu L ins bx xl ll sv iv bv xv lv vs) : R4 w0 w c src all D cu L ins bx xl ll sv iv bv xv lv vs :=
 { h with
  o := fun y hy j hj hd => h.o y hy j hj (.tail _ hd)
  d := fun j hj => h.d j (.tail _ hj) }
theorem R4.rest {e sz n : Nat} {v : Value} {xs : List Value} (h : R4 w0 w c src all D cu L ins bx xl ll sv iv bv xv lv vs) (eD : H.map Blk.b = D) (hv : w.ownsRow w0.heap.size e sz v n xs) (a2 : Upd (fun k => v.ownBlock = some k ∨ ¬ Off H k) w w1) :
  Upd (fun k => k = c ∨ w0.heap.size ≤ k) w0 w1 ∧ CurS w1 c src all cu ∧ (∀ {y : Value} {e' sz' n' : Nat} {xs' : List Value},y ∈ sv :: iv :: bv :: xv :: lv :: vs → w.ownsRow w0.heap.size e' sz' y n' xs' → (∀ k,v.ownBlock = some k → y.ownBlock = some k → False) → w1.ownsRow w0.heap.size e' sz' y n' xs') := by
 have key : ∀ k,(v.ownBlock = some k ∨ ¬ Off H k) → w0.heap.size ≤ k := fun k hk => hk.elim (fun e => (hv.ge k e).1) fun hn => h.d k (eD ▸ in_off hn)
 refine ⟨h.u.comp a2 fun b _ hS => hS.elim id fun hS => .inr (key b hS),h.curOff a2 fun k hk _ => key k hk,fun {y e' sz' n' xs'} hy hr hne => ownsRow_upd hr a2 fun k hk hS => ?_⟩
 rcases hS with e1 | e1
 ·exact hne k e1 hk
 ·exact e1 (off_in (eD ▸ h.o y hy k hk))
theorem R4.own' (h : R4 w0 w c src all D cu L ins bx xl ll sv iv bv xv lv vs) (eD : H.map Blk.b = D) {v : Value} (a4 : ∀ k,v'.ownBlock = some k → Off H k ∧ (v.ownBlock = some k ∨ w.heap.size ≤ k)) : ∀ k,v'.ownBlock = some k → k ∉ D := fun k hk hd => by
 obtain ⟨x,hx,e⟩ := List.mem_map.1 (eD ▸ hd)
 exact (a4 k hk).1.at hx e
theorem R4.gs {z : Sta} {news : List Value} (h : R4 w0 w c src all D cu L ins bx xl ll sv iv bv xv lv vs) (eD : H.map Blk.b = D) (a1 : w1.ownsRow w0.heap.size 44 35 v' (L.length + 1) ((stas L).flatten ++ news)) (hz : news = z.cells) (a2 : Upd (fun k => sv.ownBlock = some k ∨ ¬ Off H k) w w1)
  (a4 : ∀ k,v'.ownBlock = some k → Off H k ∧ (sv.ownBlock = some k ∨ w.heap.size ≤ k)) : R4 w0 w1 c src all D cu (L ++ [z]) ins bx xl ll v' iv bv xv lv vs := by
 obtain ⟨q1,q2,q3⟩ := h.rest eD h.s a2
 exact {
  u := q1
  cl := h.cl
  cur := q2
  s := by rw [List.length_append,show (stas (L ++ [z])).flatten = (stas L).flatten ++ news by rw [hz];simp [stas]];exact a1
  i := q3 za h.i (row_ne h.s h.i ku)
  b := q3 za h.b (row_ne h.s h.b ku)
  bl := ⟨h.bl.1,fun j x hx => by
   obtain ⟨v,e1,e2⟩ := h.bl.2 j x hx
   exact ⟨v,e1,q3 q7 e2 (row_ne h.s e2 ku)⟩⟩
  x := q3 za h.x (row_ne h.s h.x ku)
  l := q3 za h.l (row_ne h.s h.l ku)
  o := fun y hy => by
   simp only [List.mem_cons] at hy
   rcases hy with rfl | hy
   ·exact h.own' eD a4
   ·exact h.o y (by simp only [List.mem_cons];exact .inr hy)
  p := h.p
  d := h.d }
theorem R4.gi {z : List UInt8} (h : R4 w0 w c src all D cu L ins bx xl ll sv iv bv xv lv vs) (eD : H.map Blk.b = D) (a1 : w1.ownsRow w0.heap.size 9 1 v' (ins.length + 1) (ins.map strV ++ [strV z])) (a2 : Upd (fun k => iv.ownBlock = some k ∨ ¬ Off H k) w w1)
  (a4 : ∀ k,v'.ownBlock = some k → Off H k ∧ (iv.ownBlock = some k ∨ w.heap.size ≤ k)) : R4 w0 w1 c src all D cu L (ins ++ [z]) bx xl ll sv v' bv xv lv vs := by
 obtain ⟨q1,q2,q3⟩ := h.rest eD h.i a2
 exact {
  u := q1
  cl := h.cl
  cur := q2
  s := q3 za h.s (row_ne h.i h.s ku)
  i := by rw [List.length_append,List.map_append];exact a1
  b := q3 za h.b (row_ne h.i h.b ku)
  bl := ⟨h.bl.1,fun j x hx => by
   obtain ⟨v,e1,e2⟩ := h.bl.2 j x hx
   exact ⟨v,e1,q3 q7 e2 (row_ne h.i e2 ku)⟩⟩
  x := q3 za h.x (row_ne h.i h.x ku)
  l := q3 za h.l (row_ne h.i h.l ku)
  o := fun y hy => by
   simp only [List.mem_cons] at hy
   rcases hy with rfl | rfl | hy
   ·exact h.o _ za
   ·exact h.own' eD a4
   ·exact h.o y (by simp only [List.mem_cons];exact .inr (.inr hy))
  p := h.p
  d := h.d }
theorem R4.gb (h : R4 w0 w c src all D cu L ins bx xl ll sv iv bv xv lv vs) (eD : H.map Blk.b = D) (a1 : w1.ownsRow w0.heap.size 76 1 v' (bx.length + 1) (vs ++ [xv])) (a2 : Upd (fun k => bv.ownBlock = some k ∨ ¬ Off H k) w w1)
  (a4 : ∀ k,v'.ownBlock = some k → Off H k ∧ (bv.ownBlock = some k ∨ w.heap.size ≤ k)) : R4 w0 w1 c src all D cu L ins (bx ++ [xl]) [] ll sv iv v' (.slice none 0 0) lv (vs ++ [xv]) := by
 obtain ⟨q1,q2,q3⟩ := h.rest eD h.b a2
 exact {
  u := q1
  cl := h.cl
  cur := q2
  s := q3 za h.s (row_ne h.b h.s ku)
  i := q3 za h.i (row_ne h.b h.i ku)
  b := by rw [List.length_append];exact a1
  bl := ⟨by rw [List.length_append,List.length_append,h.bl.1];rfl,fun j x hx => by
   by_cases hj : j < bx.length
   ·rw [List.getElem?_append_left hj] at hx
    obtain ⟨v,e1,e2⟩ := h.bl.2 j x hx
    exact ⟨v,by rw [List.getElem?_append_left (by rw [h.bl.1];exact hj)];exact e1,q3 q7 e2 (row_ne h.b e2 ku)⟩
   ·rw [List.getElem?_append_right kf] at hx
    obtain ⟨e0,rfl⟩ : j - bx.length = 0 ∧ xl = x := by
     cases hk : j - bx.length with
     | zero => rw [hk] at hx;exact ⟨rfl,by simpa using hx⟩
     | succ q => rw [hk] at hx;simp at hx
    exact ⟨xv,by rw [List.getElem?_append_right (by rw [h.bl.1];omega),h.bl.1,e0];rfl,q3 za h.x (row_ne h.b h.x ku)⟩⟩
  x := World.ownsRow_nil _ _ _ _
  l := q3 za h.l (row_ne h.b h.l ku)
  o := fun y hy => by
   simp only [List.mem_cons,List.mem_append,List.not_mem_nil,or_false] at hy
   rcases hy with rfl | rfl | rfl | rfl | rfl | hy | rfl
   ·exact h.o _ za
   ·exact h.o _ za
   ·exact h.own' eD a4
   ·intro k hk;cases hk
   ·exact h.o _ za
   ·exact h.o y (by simp [hy])
   ·exact h.o _ za
  p := fun y _ k _ e => by cases e
  d := h.d }
theorem R4.gx {z : Int × List UInt8} (h : R4 w0 w c src all D cu L ins bx xl ll sv iv bv xv lv vs) (eD : H.map Blk.b = D) (a1 : w1.ownsRow w0.heap.size 78 2 v' (xl.length + 1) ((xl.map lineC).flatten ++ lineC z)) (a2 : Upd (fun k => xv.ownBlock = some k ∨ ¬ Off H k) w w1)
  (a4 : ∀ k,v'.ownBlock = some k → Off H k ∧ (xv.ownBlock = some k ∨ w.heap.size ≤ k)) : R4 w0 w1 c src all D cu L ins bx (xl ++ [z]) ll sv iv bv v' lv vs := by
 obtain ⟨q1,q2,q3⟩ := h.rest eD h.x a2
 exact {
  u := q1
  cl := h.cl
  cur := q2
  s := q3 za h.s (row_ne h.x h.s ku)
  i := q3 za h.i (row_ne h.x h.i ku)
  b := q3 za h.b (row_ne h.x h.b ku)
  bl := ⟨h.bl.1,fun j x hx => by
   obtain ⟨v,e1,e2⟩ := h.bl.2 j x hx
   exact ⟨v,e1,q3 q7 e2 fun k hk hk' => h.p v (List.mem_of_getElem? e1) k hk' hk⟩⟩
  x := by rw [List.length_append,List.map_append,List.flatten_append];simpa using a1
  l := q3 za h.l (row_ne h.x h.l ku)
  o := fun y hy => by
   simp only [List.mem_cons] at hy
   rcases hy with rfl | rfl | rfl | rfl | rfl | hy
   ·exact h.o _ za
   ·exact h.o _ za
   ·exact h.o _ za
   ·exact h.own' eD a4
   ·exact h.o _ za
   ·exact h.o y (by simp [hy])
  p := fun y hy k hk e => by
   obtain ⟨n,xs,g⟩ := h.vsRow hy
   rcases (a4 k e).2 with e | e
   ·exact h.p y hy k hk e
   ·have := (g.ge k hk).2;omega
  d := h.d }
theorem R4.gl {z : Int × List UInt8} (h : R4 w0 w c src all D cu L ins bx xl ll sv iv bv xv lv vs) (eD : H.map Blk.b = D) (a1 : w1.ownsRow w0.heap.size 111 2 v' (ll.length + 1) ((ll.map lineC).flatten ++ lineC z)) (a2 : Upd (fun k => lv.ownBlock = some k ∨ ¬ Off H k) w w1)
  (a4 : ∀ k,v'.ownBlock = some k → Off H k ∧ (lv.ownBlock = some k ∨ w.heap.size ≤ k)) : R4 w0 w1 c src all D cu L ins bx xl (ll ++ [z]) sv iv bv xv v' vs := by
 obtain ⟨q1,q2,q3⟩ := h.rest eD h.l a2
 exact {
  u := q1
  cl := h.cl
  cur := q2
  s := q3 za h.s (row_ne h.l h.s ku)
  i := q3 za h.i (row_ne h.l h.i ku)
  b := q3 za h.b (row_ne h.l h.b ku)
  bl := ⟨h.bl.1,fun j x hx => by
   obtain ⟨v,e1,e2⟩ := h.bl.2 j x hx
   exact ⟨v,e1,q3 q7 e2 (row_ne h.l e2 ku)⟩⟩
  x := q3 za h.x (row_ne h.l h.x ku)
  l := by rw [List.length_append,List.map_append,List.flatten_append];simpa using a1
  o := fun y hy => by
   simp only [List.mem_cons] at hy
   rcases hy with rfl | rfl | rfl | rfl | rfl | hy
   ·exact h.o _ za
   ·exact h.o _ za
   ·exact h.o _ za
   ·exact h.o _ za
   ·exact h.own' eD a4
   ·exact h.o y (by simp [hy])
  p := h.p
  d := h.d }
end
end Go.Proofs.YtabbklpalbikdaaGreatDoor
end
section
namespace Go.Pt
section
variable {P : Program} {ops : Array Oper} {C C2 Cy : World → Prop}
theorem YC.weak {o : Oper} {v : Value} {a : Act} (h : YC P ops Cy o v a) (hc : ∀ w,C w → Cy w) : YC P ops C o v a := h.imp (fun h => ⟨h.1,fun w hw => h.2 w (hc w hw)⟩) id
def wpAnyD (P : Program) (ops : Array Oper) (C C2 : World → Prop) (Q : Act → World → Prop) (k : Nat) : Nat → Array Bool → Act → World → Prop
 | 0,listed,a,w => C w ∧ Region.ready .any ops listed = [] ∧ Q a w
 | n + 1,listed,a,w => C w ∧ (Region.ready .any ops listed = [] → Q a w) ∧ ∀ i ∈ Region.ready .any ops listed,wpOp P ops (onlyN Q) i (if i = k then wpAnyC P ops C2 Q n (listed.setIfInBounds i true) else wpAnyD P ops C C2 Q k n (listed.setIfInBounds i true)) a w
theorem wpAny_of_D {Q : Act → World → Prop} {k : Nat} : ∀ (n : Nat) (listed : Array Bool) (a : Act) (w : World),wpAnyD P ops C C2 Q k n listed a w → wpAny P .any ops (onlyN Q) n listed a w
 | 0,_,_,_,h => ⟨h.2.1,h.2.2⟩
 | n + 1,_,_,_,h => ⟨h.2.1,fun i hi => wpOp_mono (fun a' w' hh => by
   by_cases e : i = k
   ·rw [if_pos e] at hh;exact wpAny_of_C n _ a' w' hh
   ·rw [if_neg e] at hh;exact wpAny_of_D n _ a' w' hh) (h.2.2 i hi)⟩
def depB (ops : Array Oper) (k i : Nat) : Bool := match ops[k]? with | some o => o.after.any fun e => Region.binds .any e && Nat.beq e.on i | none => false
theorem firstD {Q : Act → World → Prop} {i k : Nat} {oi : Oper} {v : Value} (hi : ops[i]? = some oi) (hsel : Region.noSelect ops = true) (hik : i ≠ k) (hc : ∀ w,C w → Cy w) (hdep : depB ops k i = true ∨ ∀ w,C2 w → Cy w) :
  ∀ (n : Nat) (listed : Array Bool) (a : Act) (w : World),
   (∀ j oj,ops[j]? = some oj → j ≠ i → listed.getD j true = false → (∀ e ∈ oj.after,Region.binds .any e = true → e.on ≠ i) → oi.apart ops oj = true) →
   i ∈ Region.ready .any ops listed → YC P ops Cy oi v a → wpAnyD P ops C C2 Q k n (listed.setIfInBounds i true) (a.put oi.dst v) w → wpAnyD P ops C C2 Q k (n + 1) listed a w := by
 have hs := fun j o cs b => Region.noSelect_spec hsel j o cs b
 intro n
 induction n with
 | zero =>
  intro listed a w _ hr hy H
  refine ⟨H.1,fun h => (by rw [h] at hr;cases hr),fun j hj => ?_⟩
  by_cases hji : j = i
  ·subst hji
   rw [if_neg hik]
   exact hy.now hi (hc w H.1) H
  ·have := ready_mono hj hji
   rw [H.2.1] at this
   cases this
 | succ n ih =>
  intro listed a w hfree hr hy H
  refine ⟨H.1,fun h => (by rw [h] at hr;cases hr),fun j hj => ?_⟩
  by_cases hji : j = i
  ·subst hji
   rw [if_neg hik]
   exact hy.now hi (hc w H.1) H
  ·have h1 := H.2.2 j (ready_mono hj hji)
   obtain ⟨hjun,oj,hoj,hall⟩ := mem_ready.1 hj
   have hnot : ∀ e ∈ oj.after,Region.binds .any e = true → e.on ≠ i := fun e he hb heq => by
    have h1 := hall e he hb
    have h0 := (mem_ready.1 hr).1
    rw [heq] at h1
    rcases Nat.lt_or_ge i listed.size with h' | h'
    ·simp [h'] at h0 h1;rw [h0] at h1;cases h1
    ·simp [Array.getElem?_eq_none h'] at h1
   have h2 := wpOp_swap hoj (hfree j oj hoj hji hjun hnot) (fun cs b => hs i oi cs b hi) (fun cs b => hs j oj cs b hoj) hy h1
   have hfree' : ∀ m ok,ops[m]? = some ok → m ≠ i → (listed.setIfInBounds j true).getD m true = false → (∀ e ∈ ok.after,Region.binds .any e = true → e.on ≠ i) → oi.apart ops ok = true := fun m ok hk hki hun hno => by
    refine hfree m ok hk hki ?_ hno
    by_cases hjk : j = m
    ·subst hjk;exact hjun
    ·rw [getD_set_ne true hjk] at hun;exact hun
   refine wpOp_mono (fun a' w' h3 => ?_) h2
   obtain ⟨h3,h4⟩ := h3
   by_cases e : j = k
   ·rw [if_pos e] at h4 ⊢
    rcases hdep with hd | hd
    ·exfalso
     subst e
     unfold depB at hd
     rw [hoj] at hd
     simp only [Array.any_eq_true'] at hd
     obtain ⟨e,he,hb⟩ := hd
     rw [Bool.and_eq_true] at hb
     exact hnot e he hb.1 (Nat.eq_of_beq_eq_true hb.2)
    ·rw [Array.setIfInBounds_comm _ _ (Ne.symm hji)] at h4
     exact firstC hi hsel n (listed.setIfInBounds j true) a' w' hfree' (ready_mono hr (Ne.symm hji)) (h3.weak hd) h4
   ·rw [if_neg e] at h4 ⊢
    rw [Array.setIfInBounds_comm _ _ (Ne.symm hji)] at h4
    exact ih (listed.setIfInBounds j true) a' w' hfree' (ready_mono hr (Ne.symm hji)) h3 h4
end
section
variable {P : Program} {ops : Array Oper} {N n k : Nat} {Γ : Env} {C C2 D : World → Prop} {Q : Act → World → Prop}
def Mtk (P : Program) (ops : Array Oper) (k N n : Nat) (listed : Array Bool) (Γ : Env) (D C C2 : World → Prop) (Q : Act → World → Prop) : Prop :=
 ∀ a w,Fr N a Γ → D w → C w → wpAnyD P ops C C2 Q k n listed a w
def MtkQ (P : Program) (ops : Array Oper) (k : Nat) (C C2 : World → Prop) (Q : Act → World → Prop) (n : Nat) (listed : Array Bool) : Exit → Act → World → Prop := fun _ a w => C w → wpAnyD P ops C C2 Q k n listed a w
def MtkE (P : Program) (ops : Array Oper) (k : Nat) (C C2 : World → Prop) (Q : Act → World → Prop) (n : Nat) (listed : Array Bool) : Exit → Act → World → Prop := fun e a w => e = .normal ∧ C w ∧ wpAnyD P ops C C2 Q k n listed a w
theorem Mtk.back {listed : Array Bool} (h : Mtk P ops k N n listed Γ D C C2 Q) : Gt N .normal Γ D (MtkQ P ops k C C2 Q n listed) := Gt.intro fun a w ha hD hC => h a w ha hD hC
theorem Mtk.backE {listed : Array Bool} (hc : ∀ w,D w → C w) (h : Mtk P ops k N n listed Γ D C C2 Q) : Gt N .normal Γ D (MtkE P ops k C C2 Q n listed) := Gt.intro fun a w ha hD => ⟨rfl,hc w hD,h a w ha hD (hc w hD)⟩
theorem Mtk.pure {listed : Array Bool} (i : Nat) {o : Oper} (hs : Region.noSelect ops = true) (hi : ops[i]? = some o) (he : effB o = false) (hr : (Region.ready .any ops listed).contains i = true) (hf : Region.free .any ops listed i = true) (hik : Nat.beq i k = false) (hd : depB ops k i = true)
  (h : Wl [o] P (.mix D) ops N Γ C (MtkQ P ops k C C2 Q n (listed.setIfInBounds i true))) : Mtk P ops k N (n + 1) listed Γ D C C2 Q := fun a w ha hD hC => by
 have hik' : i ≠ k := fun e => by rw [e,Nat.beq_refl] at hik;cases hik
 have h := h.elimM a w ha hD hC
 simp only [wpE,he] at h
 by_cases hw : Region.wanted o (yielded ops a.tmps) = true
 ·rw [if_pos hw] at h
  obtain ⟨v,hv,h⟩ := h
  exact firstD (Cy := C) hi hs hik' (fun _ h => h) (.inl hd) n listed a w (Region.free_spec hi hf) qr (.inl ⟨hw,hv⟩) (h hC)
 ·rw [if_neg hw] at h
  exact firstD (Cy := C) hi hs hik' (fun _ h => h) (.inl hd) n listed a w (Region.free_spec hi hf) qr (.inr ⟨by simpa using hw,rfl⟩) (h hC)
theorem Mtk.pureT {listed : Array Bool} (i : Nat) {o : Oper} (hs : Region.noSelect ops = true) (hi : ops[i]? = some o) (he : effB o = false) (hr : (Region.ready .any ops listed).contains i = true) (hf : Region.free .any ops listed i = true) (hik : Nat.beq i k = false)
  (h : Wl [o] P (.mix D) ops N Γ (fun _ => True) (MtkQ P ops k C C2 Q n (listed.setIfInBounds i true))) : Mtk P ops k N (n + 1) listed Γ D C C2 Q := fun a w ha hD hC => by
 have hik' : i ≠ k := fun e => by rw [e,Nat.beq_refl] at hik;cases hik
 have h := h.elimM a w ha hD trivial
 simp only [wpE,he] at h
 by_cases hw : Region.wanted o (yielded ops a.tmps) = true
 ·rw [if_pos hw] at h
  obtain ⟨v,hv,h⟩ := h
  exact firstD (Cy := fun _ => True) hi hs hik' (fun _ _ => trivial) (.inr fun _ _ => trivial) n listed a w (Region.free_spec hi hf) qr (.inl ⟨hw,hv⟩) (h hC)
 ·rw [if_neg hw] at h
  exact firstD (Cy := fun _ => True) hi hs hik' (fun _ _ => trivial) (.inr fun _ _ => trivial) n listed a w (Region.free_spec hi hf) qr (.inr ⟨by simpa using hw,rfl⟩) (h hC)
theorem Mtk.op {listed : Array Bool} {i : Nat} {o : Oper} (hi : ops[i]? = some o) (hik : Nat.beq i k = false) (h : Wl [o] P .seq ops N Γ D (MtkE P ops k C C2 Q n (listed.setIfInBounds i true))) (a : Act) (w : World) (ha : Fr N a Γ) (hD : D w) :
  wpOp P ops (onlyN Q) i (if i = k then wpAnyC P ops C2 Q n (listed.setIfInBounds i true) else wpAnyD P ops C C2 Q k n (listed.setIfInBounds i true)) a w := by
 have hik' : i ≠ k := fun e => by rw [e,Nat.beq_refl] at hik;cases hik
 rw [if_neg hik']
 have h := h.elim a w ha hD
 unfold wpOp
 simp only [hi]
 simp only [wpList] at h
 split
 ·rename_i hw
  rw [if_pos hw] at h
  rcases h with h | ⟨_,x,y,h⟩
  ·refine .inl ?_
   have h1 := wp_only (fun _ _ _ h => h.1) h
   have h2 := Oper.wp_mono (fun a' w' hh => hh.2.2) h1
   unfold Oper.wp at *
   generalize (execOp a.eval o).run P w = r at *
   cases r with
   | ok n w' =>
    cases n <;> simp only [Oper.upon] at h2 ⊢
    case value u => exact h2
    case skip => exact h2
    case defer d => exact h2
    case enter f args => exact Calls.mono h2 (fun e w'' he => by cases e <;> first | exact he | exact he.elim | (obtain ⟨_,_,hf⟩ := he;exact hf.elim))
    case row row args => exact h2
   | halt x w' => cases x <;> simp only [Oper.upon] at h2
  ·cases h.1
 ·rename_i hw
  rw [if_neg hw] at h
  exact h.2.2
theorem Mtk.eff1 {listed : Array Bool} {i : Nat} {o : Oper} (hr : Region.ready .any ops listed = [i]) (hi : ops[i]? = some o) (hk : Nat.beq i k = false) (h : Wl [o] P .seq ops N Γ D (MtkE P ops k C C2 Q n (listed.setIfInBounds i true))) : Mtk P ops k N (n + 1) listed Γ D C C2 Q := fun a w ha hD hC => by
 refine ⟨hC,fun e => qh,fun j hj => ?_⟩
 rw [hr,List.mem_singleton] at hj
 subst hj
 exact Mtk.op hi hk h a w ha hD
theorem Mtk.eff2 {listed : Array Bool} {i j : Nat} {o o' : Oper} (hr : Region.ready .any ops listed = [i,j]) (hi : ops[i]? = some o) (hj : ops[j]? = some o') (hk : Nat.beq i k = false) (hk' : Nat.beq j k = false) (h : Wl [o] P .seq ops N Γ D (MtkE P ops k C C2 Q n (listed.setIfInBounds i true)))
  (h' : Wl [o'] P .seq ops N Γ D (MtkE P ops k C C2 Q n (listed.setIfInBounds j true))) : Mtk P ops k N (n + 1) listed Γ D C C2 Q := fun a w ha hD hC => by
 refine ⟨hC,fun e => qh,fun x hx => ?_⟩
 rw [hr] at hx
 simp only [List.mem_cons,List.not_mem_nil,or_false] at hx
 rcases hx with rfl | rfl
 ·exact Mtk.op hi hk h a w ha hD
 ·exact Mtk.op hj hk' h' a w ha hD
theorem Mtk.eff3 {listed : Array Bool} {i j l : Nat} {o o' o'' : Oper} (hr : Region.ready .any ops listed = [i,j,l]) (hi : ops[i]? = some o) (hj : ops[j]? = some o') (hl : ops[l]? = some o'') (hk : Nat.beq i k = false) (hk' : Nat.beq j k = false) (hk'' : Nat.beq l k = false) (h : Wl [o] P .seq ops N Γ D (MtkE P ops k C C2 Q n (listed.setIfInBounds i true)))
  (h' : Wl [o'] P .seq ops N Γ D (MtkE P ops k C C2 Q n (listed.setIfInBounds j true))) (h'' : Wl [o''] P .seq ops N Γ D (MtkE P ops k C C2 Q n (listed.setIfInBounds l true))) : Mtk P ops k N (n + 1) listed Γ D C C2 Q := fun a w ha hD hC => by
 refine ⟨hC,fun e => qh,fun x hx => ?_⟩
 rw [hr] at hx
 simp only [List.mem_cons,List.not_mem_nil,or_false] at hx
 rcases hx with rfl | rfl | rfl
 ·exact Mtk.op hi hk h a w ha hD
 ·exact Mtk.op hj hk' h' a w ha hD
 ·exact Mtk.op hl hk'' h'' a w ha hD
theorem Mtk.cut {listed : Array Bool} {o : Oper} (hr : Region.ready .any ops listed = [k]) (hi : ops[k]? = some o) (h : Wl [o] P .seq ops N Γ D (MtE P ops C2 Q n (listed.setIfInBounds k true))) : Mtk P ops k N (n + 1) listed Γ D C C2 Q := fun a w ha hD hC => by
 refine ⟨hC,fun e => qh,fun j hj => ?_⟩
 rw [hr,List.mem_singleton] at hj
 subst hj
 rw [if_pos rfl]
 exact Mt.op hi h a w ha hD
end
section
variable {P : Program} {N : Nat} {Γ : Env} {C B : World → Prop} {Q : Exit → Act → World → Prop}
theorem St.treeK {i : Nat} {l : List Oper} (k : Nat) (B : World → Prop) (hm : P.follows .mixedOrders = true) (hC : ∀ w,C w → C w.drew ∧ B w.drew) (h : Mtk P l.toArray k N l.length (Array.replicate l.length false) Γ C B (fun _ => True) (fun a w => Q .normal a w)) :
  St (.region i l.toArray true) P N Γ C Q := St.intro fun a w ha hw => by
 refine wp_mono (wp_region_any (Q := onlyN fun a' w' => Q .normal a' w') hm ?_) ?_
 ·have := wpAny_of_D _ _ _ _ (h a w.drew ha (hC w hw).1 (hC w hw).2)
  simpa using this
 ·intro e a w h
  cases e <;> first | exact h | exact h.elim
end
end Go.Pt
end
