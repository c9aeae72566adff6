/-
 5 texts,one behind the other;each says what it proves. Conditions: as each text says.
-/
import Derived.Test.YtabbklpalbikdaaGreatDoorM07
import Derived.Test.YtabbklpalbikdaaGreatDoorM08
set_option maxHeartbeats 32000000
set_option linter.unusedVariables false
set_option linter.unusedSimpArgs false
section
namespace Go.Proofs.YtabbklpalbikdaaGreatDoor
open Go.RowKit Go.Pt
def SetNo (L : List Sta) (t : Int) : Prop := (L.length : Int) ≤ t ∨ ((-1 ≤ t ∧ t < L.length) ∧ ∃ x g,L[0]? = some x ∧ (0 ≤ x.s ∧ x.s ≤ 2) ∧ x.xs[0]? = some (.int .u32 g) ∧ g ≠ 0)
theorem SetNo.not {L : List Sta} {t : Int} (h : SetNo L t) : ¬ SetOk L t := by
 rintro ⟨h1,h2,_⟩
 rcases h with h | ⟨_,x,g,hx,_,hg,h0⟩
 ·omega
 ·have := (h1 x (List.mem_of_getElem? hx)).2.2.1
  rw [hg] at this
  cases this
  exact h0 rfl
theorem wSetNo (wd sa : Nat) (L L' : List Sta) (t t' : Int) (v : Value) (w : World) (hW : WardS w wd sa L t) (hA : Sv w 35 L'.length v (stas L').flatten) (hl' : L'.length = L.length) (hok : ∀ x ∈ L',StaOk x) (h : SetNo L' t') :
  Calls Tryz.prog 79 #[.pointer (some ⟨wd,0,none⟩),v,.int .i64 t'] w fun e w' => e = .returned (.int .i64 3) ∧ Hp w [] w' := by
 rcases h with h | ⟨ht,x,g,hx,hs,hg,h0⟩
 ·exact wSetT wd sa L L'.length t t' v _ w hW hA hl' h
 ·exact wSetX wd sa L L' t t' g x v w hW hA hl' hok ht hx hs hg h0
theorem pSendOk (pp pa : Nat) (cs : List Nat) (bx : Nat → List Value) (i ch : Nat) (x : Int × List UInt8) (w : World) (hP : PostS w pp pa cs bx) (hi : cs[i]? = some ch) (hx : x.2 ≠ [] ∧ x.2.length ≤ 16) (h4 : (bx i).length < 4) :
  Calls Tryz.prog 80 #[.pointer (some ⟨pp,0,none⟩),.int .i64 i,letV x] w fun e w' => e = .returned (.int .i64 0) ∧ PostS w' pp pa cs (fun j => if j = i then bx i ++ [letV x] else bx j) ∧ Upd (fun k => k = ch) w w' := by
 refine (pSend pp pa cs bx i ch x w hP hi ⟨List.length_pos_iff.2 hx.1,hx.2⟩).mono ?_
 rintro e w' (⟨_,h⟩ | ⟨h,_⟩)
 ·exact h
 ·omega
theorem pSendRef (pp pa : Nat) (cs : List Nat) (bx : Nat → List Value) (i ch : Nat) (x : Int × List UInt8) (w : World) (hP : PostS w pp pa cs bx) (hi : cs[i]? = some ch) (hx : x.2.length ≤ 16) (h : x.2 = [] ∨ 4 ≤ (bx i).length) :
  Calls Tryz.prog 80 #[.pointer (some ⟨pp,0,none⟩),.int .i64 i,letV x] w fun e w' => (∃ r,decide (r ≠ 0) = true ∧ e = .returned (.int .i64 r)) ∧ Hp w [] w' := by
 by_cases h0 : x.2 = []
 ·refine (pSendNo pp pa cs bx i ch x w hP hi h0).mono ?_
  rintro e w' ⟨rfl,h⟩
  exact ⟨⟨1,by decide,rfl⟩,h⟩
 ·refine (pSend pp pa cs bx i ch x w hP hi ⟨List.length_pos_iff.2 h0,hx⟩).mono ?_
  rintro e w' (⟨h',_⟩ | ⟨_,rfl,h'⟩)
  ·exact absurd (h.resolve_left h0) ky
  ·exact ⟨⟨16,by decide,rfl⟩,h'⟩
theorem MonF.lv {I : Mi} {M : Mv2} {lv' : Value} {ll' : List (Int × List UInt8)} {u' : Int} {b : Nat} (h : MonF I {M with lv := lv',ll := ll',used := u'} b) : MonF I M b ∨ lv'.ownBlock = some b := by
 rcases h with h | h | h | h | h | h | h | h | h | h | h | h | h
 ·exact .inl (.inl h)
 ·exact .inl (.inr (.inl h))
 ·exact .inl (.inr (.inr (.inl h)))
 ·exact .inl (.inr (.inr (.inr (.inl h))))
 ·exact .inl (.inr (.inr (.inr (.inr (.inl h)))))
 ·exact .inl (.inr (.inr (.inr (.inr (.inr (.inl h))))))
 ·exact .inl (.inr (.inr (.inr (.inr (.inr (.inr (.inl h)))))))
 ·exact .inl (.inr (.inr (.inr (.inr (.inr (.inr (.inr (.inl h))))))))
 ·exact .inl (.inr (.inr (.inr (.inr (.inr (.inr (.inr (.inr (.inl h)))))))))
 ·exact .inl (.inr (.inr (.inr (.inr (.inr (.inr (.inr (.inr (.inr (.inl h))))))))))
 ·exact .inl (.inr (.inr (.inr (.inr (.inr (.inr (.inr (.inr (.inr (.inr (.inl h)))))))))))
 ·exact .inr h
 ·exact .inl (.inr (.inr (.inr (.inr (.inr (.inr (.inr (.inr (.inr (.inr (.inr (.inr h))))))))))))
def bxK (ls : Nat → List (Int × List UInt8)) (k : Nat) : Nat → List Value := fun j => if j < k then (ls j).map letV else []
theorem mWithL (base : Nat) (I : Mi) (M : Mv2) (L' : List Sta) (t' : Int) (a1 a2 : Option Addr) (c1 c2 cM' : Nat) (sv iv bv lv : Value) (vs : List Value) (ins' : List (List UInt8)) (ls : Nat → List (Int × List UInt8)) (ll : List (Int × List UInt8)) (f' : Nat → Int) (w : World) (hM : MonS w base I M) (hb : base ≤ w.heap.size) (hpv : M.pv = .slice a1 M.L.length c1) (hev : M.ev = .slice a2 M.L.length c2)
  (hA : Sv w 35 M.L.length sv (stas L').flatten) (hl' : L'.length = M.L.length) (hokA : ∀ x ∈ L',StaOk x) (hset : SetOk L' t' ∨ SetNo L' t')
  (hI : Sv w 1 M.L.length iv (ins'.map strV)) (hins : ∀ s ∈ ins',s.length ≤ 100000)
  (hB : Sv w 1 M.L.length bv vs) (hBl : ∀ j,j < M.L.length → ∃ v,vs[j]? = some v ∧ Sv w 2 (ls j).length v ((ls j).map lineC).flatten) (hBt : ∀ j,j < M.L.length → (ls j).length ≤ 1000 ∧ ∀ x ∈ ls j,(0 ≤ x.1 ∧ x.1 ≤ 1000) ∧ x.2.length ≤ 16)
  (hL : Sv w 2 ll.length lv (ll.map lineC).flatten) (hll : ∀ x ∈ ll,(0 ≤ x.1 ∧ x.1 < M.L.length) ∧ x.2 ≠ [] ∧ x.2.length ≤ 64) (hlu : usedL ll ≤ 256) (hln : ll.length ≤ 1000) (hm' : memH w cM' f') :
  Calls Tryz.prog 29 #[.pointer (some ⟨I.m,0,none⟩),.agg #[.int .i64 t',sv,iv,bv,lv,.pointer (some ⟨cM',0,none⟩)]] w fun e w' =>
   ((SetOk L' t' ∧ (∀ i s,i < M.L.length → ins'[i]? = some s → s.length ≤ 64) ∧ ∀ j,j < M.L.length → BoxOk M.L.length (ls j)) ∧ ∃ I' M',e = .returned (.tuple #[.pointer (some ⟨I'.m,0,none⟩),.int .i64 0]) ∧ MonS w' w.heap.size I' M' ∧ M' = ⟨M.pv,M.ev,.slice none 0 0,M'.lv,0,[],L',t',bxK ls M.L.length,ll,usedL ll,ins',f',xz,0,M'.cf⟩ ∧ Upd (fun k => w.heap.size ≤ k) w w' ∧ (ll = [] → M'.lv = .slice none 0 0)) ∨
   ((SetOk L' t' → (∀ i s,i < M.L.length → ins'[i]? = some s → s.length ≤ 64) → (∀ j,j < M.L.length → BoxOk M.L.length (ls j)) → False) ∧ e = .returned (.tuple #[.pointer none,.int .i64 3]) ∧ Upd (fun k => w.heap.size ≤ k) w w') := by
 have hM0 := hM
 have hn1 := hM.ward.2.2
 have hA0 := hA
 have hcnt := fun wq (k : MonS wq base I M) => wCount I.wd I.sa M.L M.t wq k.ward
 obtain ⟨_,sa0,sc0,rfl,_⟩ := hA
 obtain ⟨il,ia0,ic0,rfl,_,_,_,hi2⟩ := hI
 obtain ⟨bl,ba0,bc0,rfl,_,_,_,hb2⟩ := hB
 obtain ⟨_,la,lc,rfl,_,_,_,hlc⟩ := hL
 obtain ⟨ib,io,rfl,hic⟩ := hi2 (fun e => by rw [e] at il;simp at il;omega)
 obtain ⟨bb,bo,rfl,hbc⟩ := hb2 (fun e => by rw [e] at bl;simp at bl;omega)
 clear hi2 hb2
 have hil : ins'.length = M.L.length := by simpa using il
 have hvl : vs.length = M.L.length := by simpa using bl
 have q0 : w.cell? ⟨I.m,2,none⟩ = some (.pointer (some ⟨I.wd,0,none⟩)) := cell_of hM.mm rfl
 have l0 := (hM.lt I.m (.inl rfl)).2
 have lM' := lt_of_block hm'
 have hdd : ∀ w',MonS w' base I M → w'.heap[I.d]? = some (.cells #[.slice a1 M.L.length c1,.slice a2 M.L.length c2,.pointer (some ⟨I.cM,0,none⟩),.pointer (some ⟨I.pp,0,none⟩),.pointer (some ⟨I.bd,0,none⟩)] 139 (0,0)) := fun w' k => by
  have h := k.dd
  rw [hpv,hev] at h
  exact h
 have dl : decide ((M.L.length : Int) ≠ (M.L.length : Int)) = false := decide_eq_false ky
 refine enter (args := [_,_]) (Γ := [(0,_),(1,_)]) Tryz.func29 Tryz.ntmps29 rfl odq (.cons rfl (.cons rfl .nil)) ?_
 repeat' first | (apply Wl.loadO;exact rfl;exact rfl;exact zw;exact kh) | refine Wl.move rfl rfl ?_ | refine Wl.assign rfl rfl ?_ | refine Wl.nilCheck rfl rfl ?_ | refine Wl.fieldAddrZ rfl rfl ?_ | refine Wl.eqlPN rfl rfl rfl ?_ | (apply Wl.boxA;exact rfl;exact rfl;intro c hc ho) | apply Wl.nil | apply St.seq | apply St.region | (apply St.condF;exact rfl;exact ka) | apply St.skip | apply Gt.next
 apply Wl.callQ
 exact rfl
 (focus repeat constructor)
 ·intro wq hq
  exact hq.q (hcnt wq (hM.hp0 hM0 hq kb))
 repeat' first | refine Wl.move rfl rfl ?_ | refine Wl.assign rfl rfl ?_ | (apply Wl.on;exact rfl;exact rfl;exact ka) | (apply Wl.pickF;exact rfl;exact rfl;exact ka;exact rfl) | refine Wl.fieldAddrZ rfl rfl ?_ | (apply Wl.loadH;exact rfl;exact rfl;exact ke;exact rfl) | refine Wl.eqlPN rfl rfl rfl ?_ | (apply Wl.neqIs;exact rfl;exact rfl;exact rfl;exact kv) | refine Wl.len rfl rfl ?_ | apply Wl.nil | apply St.seq | apply St.region | (apply St.condF;exact rfl;exact ka) | apply St.skip | apply Gt.next
 apply Wl.makeSlice (n := M.L.length)
 ·exact rfl
 ·exact rfl
 ·exact rfl
 ·rw [Nat.ble_eq];omega
 ·omega
 intro st hst host
 have hst1 : w.heap.size ≤ st ∧ c ≠ st := ⟨hst,host.1⟩
 rw [mZ M.L.length ky]
 repeat' first | refine Wl.assign rfl rfl ?_ | apply Wl.nil | apply St.seq | apply Gt.next
 refine St.tree (fun w' => MonS w' base I M ∧ w'.heap[c]? = some (.cells #[.int .i64 t',.slice sa0 M.L.length sc0,.slice (some ⟨ib,io,none⟩) M.L.length ic0,.slice (some ⟨bb,bo,none⟩) M.L.length bc0,.slice la ll.length lc,.pointer (some ⟨cM',0,none⟩)] 54 (0,0))) mixed (fun _ h' => ⟨Hp.drew h',hM.hp0 hM0 (Hp.drew h') kb,(Hp.drew h').own.at (.tail _ (.head _))⟩) ?_
 refine Mt.pm 0 ?_
 refine Mt.pm 7 ?_
 refine Mt.pm 14 ?_
 refine Mt.pz 15 ?_
 refine Mt.pn 1 ?_
 refine Mt.pn 8 ?_
 refine Mt.pu 16 ?_
 apply Wl.loadF;exact rfl;exact rfl;(intro w' h';first | exact cell_of h'.1.mm rfl | exact cell_of (hdd _ h'.1) rfl | exact cell_of h'.2 rfl);apply Wl.nilB
 refine Mt.pz 2 ?_
 refine Mt.pz 9 ?_
 refine Mt.pu 3 ?_
 apply Wl.loadF;exact rfl;exact rfl;(intro w' h';first | exact cell_of h'.1.mm rfl | exact cell_of (hdd _ h'.1) rfl | exact cell_of h'.2 rfl);apply Wl.nilB
 refine Mt.pu 10 ?_
 apply Wl.loadF;exact rfl;exact rfl;(intro w' h';first | exact cell_of h'.1.mm rfl | exact cell_of (hdd _ h'.1) rfl | exact cell_of h'.2 rfl);apply Wl.nilB
 refine Mt.pn 4 ?_
 refine Mt.pn 11 ?_
 refine Mt.pf 5 ?_
 refine Mt.pz 12 ?_
 refine Mt.pu 6 ?_
 apply Wl.loadF;exact rfl;exact rfl;(intro w' h';first | exact cell_of h'.1.mm rfl | exact cell_of (hdd _ h'.1) rfl | exact cell_of h'.2 rfl);apply Wl.nilB
 refine Mt.pu 13 ?_
 apply Wl.loadF;exact rfl;exact rfl;(intro w' h';first | exact cell_of h'.1.mm rfl | exact cell_of (hdd _ h'.1) rfl | exact cell_of h'.2 rfl);apply Wl.nilB
 refine Mt.e1 17 ?_
 apply Wl.callC
 ·exact rfl
 ·exact ke
 intro wq2 hq2
 have hMq := hM.hp0 hM0 hq2 kb
 have zq2 := hq2.upd.size
 have hltC : ∀ x : Blk,x ∈ _ → x.b < wq2.heap.size := fun x hx => hq2.own.lt hx
 simp only [List.mem_cons,List.not_mem_nil,or_false,forall_eq_or_imp,forall_eq] at hltC
 refine (mcopy cM' f' wq2 (hq2.upd.heap hm' fun y => y kh)).mono ?_
 rintro e wC ⟨cC,rfl,hcC,hmC,uC⟩
 have hqC := hq2.newer uC
 have zC := uC.size
 have hwC : Upd (fun k => w.heap.size ≤ k) w wC := hqC.on (Upd.refl _ _) kb
 have hM := hMq.new uC (Nat.le_refl _)
 have lmC := lt_of_block hmC
 refine ⟨_,_,rfl,hqC.rb,?_⟩
 clear hMq
 apply Wl.nil
 refine Mt.backE (fun _ h' => ⟨hM.hp0 hM0 h' kb,h'.own.at (.tail _ (.head _))⟩) ?_
 refine Mt.e1 18 ?_
 apply Wl.callC
 ·exact rfl
 ·exact ke
 intro wq3 hq3
 have hMq := hM.hp0 hM0 hq3 kb
 have zq3 := hq3.upd.size
 have hltN : ∀ x : Blk,x ∈ _ → x.b < wq3.heap.size := fun x hx => hq3.own.lt hx
 simp only [List.mem_cons,List.not_mem_nil,or_false,forall_eq_or_imp,forall_eq] at hltN
 refine (monNew a1 a2 (some ⟨st,0,none⟩) M.L.length c1 c2 _ cC (fun _ => 0) f' wq3 hn1 (wordZ (hq3.own.at (.head _))) (hq3.upd.heap hmC fun y => y kh) w.heap.size ky ky).mono ?_
 rintro e wN ⟨I',M',rfl,hN,hNc,hNM,hNf,uN⟩
 have hqN := hq3.newer uN
 have zN := uN.size
 have hwN : Upd (fun k => w.heap.size ≤ k) w wN := hqN.on hwC kb
 have hM := hMq.new uN (Nat.le_refl _)
 refine ⟨_,_,rfl,hqN.rb,?_⟩
 clear hMq
 apply Wl.nil
 refine Mt.backE (fun _ h' => ⟨hM.hp0 hM0 h' kb,h'.own.at (.tail _ (.head _))⟩) ?_
 refine Mt.pm 19 ?_
 refine Mt.pu 20 ?_
 refine Wl.extract rfl rfl rfl (Wl.nilB ?_)
 refine Mt.pu 21 ?_
 refine Wl.extract rfl rfl rfl (Wl.nilB ?_)
 refine Mt.pu 22 ?_
 refine Wl.assign rfl rfl (Wl.nilB ?_)
 refine Mt.pu 23 ?_
 refine Wl.assign rfl rfl (Wl.nilB ?_)
 refine Mt.toGt kg ?_
 repeat' first | apply St.seq | apply Gt.next
 obtain ⟨pv',ev',seen',lv',sn',sx',L0,t0,bx',ll',used',ins0,f0,xs',pc',cf'⟩ := M'
 cases hNM
 have hof : ∀ b,MonF I' _ b → Off [⟨st,List.replicate M.L.length (Value.int .u32 0),25⟩,⟨c,[.int .i64 t',.slice sa0 M.L.length sc0,.slice (some ⟨ib,io,none⟩) M.L.length ic0,.slice (some ⟨bb,bo,none⟩) M.L.length bc0,.slice la ll.length lc,.pointer (some ⟨cM',0,none⟩)],54⟩] b := fun b hb => by
  by_cases e : b = cC
  ·exact ⟨by simp only;omega,by simp only;omega,trivial⟩
  ·have := hNf b hb e;exact ⟨by simp only;omega,by simp only;omega,trivial⟩
 have hlN := hN.lts
 have lcN : c < wN.heap.size ∧ st < wN.heap.size := by omega
 clear hM hq2 hq3 hqC hqN
 skip
 refine St.tree (fun w' => WiB w w' I' ⟨.slice a1 M.L.length c1,.slice a2 M.L.length c2,.slice none 0 0,.slice none 0 0,0,[],newL (fun _ => 0) M.L.length,0,fun _ => [],[],0,List.replicate M.L.length [],f',xz,0,cf'⟩ c [.int .i64 t',.slice sa0 M.L.length sc0,.slice (some ⟨ib,io,none⟩) M.L.length ic0,.slice (some ⟨bb,bo,none⟩) M.L.length bc0,.slice la ll.length lc,.pointer (some ⟨cM',0,none⟩)]) mixed (fun _ h' => ⟨Hp.drew h',have k := hN.upd (Hp.drew h').upd fun b hb y => y (hof b hb);⟨k.mm,k.dd,(Hp.drew h').own.at (.tail _ (.head _)),(Hp.drew h').on hwN kb⟩⟩) ?_
 rcases hset with hset | hno
 rotate_left
 ·skip
  refine Mt.pm 0 ?_
  refine Mt.pz 4 ?_
  refine Mt.pf 6 ?_
  refine Mt.pn 1 ?_
  refine Mt.pu 5 ?_
  apply Wl.loadF;exact rfl;exact rfl;(intro w' h';first | exact cell_of h'.mm rfl | exact cell_of h'.dd rfl | exact cell_of h'.cc rfl);apply Wl.nilB
  refine Mt.pu 7 ?_
  apply Wl.loadF;exact rfl;exact rfl;(intro w' h';first | exact cell_of h'.mm rfl | exact cell_of h'.dd rfl | exact cell_of h'.cc rfl);apply Wl.nilB
  refine Mt.pz 2 ?_
  refine Mt.pu 3 ?_
  apply Wl.loadF;exact rfl;exact rfl;(intro w' h';first | exact cell_of h'.mm rfl | exact cell_of h'.dd rfl | exact cell_of h'.cc rfl);apply Wl.nilB
  refine Mt.e1 8 ?_
  apply Wl.callQ
  ·exact rfl
  ·exact ke
  ·intro wq hq
   refine (wSetNo I'.wd I'.sa _ L' _ t' _ wq (hN.upd hq.upd fun b hb y => y (hof b hb)).ward (hl'.symm ▸ hA0.upd (hq.on hwN kb) fun k _ hk _ => by omega) (by rw [hl'];exact (newL_len _ _).symm) hokA hno).mono ?_
   rintro e wr ⟨rfl,hr'⟩
   exact ⟨rfl,hq.keep hr'⟩
  apply Wl.nil
  refine Mt.backE (fun _ h' => have k := hN.upd h'.upd fun b hb y => y (hof b hb);⟨k.mm,k.dd,h'.own.at (.tail _ (.head _)),h'.on hwN kb⟩) ?_
  refine Mt.pu 9 ?_
  refine Wl.neq rfl rfl rfl (Wl.nilB ?_)
  refine Mt.toGt kg ?_
  repeat' first | refine Wl.assign rfl rfl ?_ | apply Wl.nil | apply St.seq | apply St.region | (apply St.condT;exact rfl;exact ka) | apply St.ret | apply Gt.next | apply Gt.thenRet | (apply Gt.out2;exact rfl;exact rfl;exact rfl;intro w' hp)
  exact .inr ⟨fun h => (hno.not h).elim,rfl,hp.on hwN kb⟩
 have hset0 := hset
 obtain ⟨hok,ht,hany,hr⟩ := hset
 refine Mt.pm 0 ?_
 refine Mt.pz 4 ?_
 refine Mt.pf 6 ?_
 refine Mt.pn 1 ?_
 refine Mt.pu 5 ?_
 apply Wl.loadF;exact rfl;exact rfl;(intro w' h';first | exact cell_of h'.mm rfl | exact cell_of h'.dd rfl | exact cell_of h'.cc rfl);apply Wl.nilB
 refine Mt.pu 7 ?_
 apply Wl.loadF;exact rfl;exact rfl;(intro w' h';first | exact cell_of h'.mm rfl | exact cell_of h'.dd rfl | exact cell_of h'.cc rfl);apply Wl.nilB
 refine Mt.pz 2 ?_
 refine Mt.pu 3 ?_
 apply Wl.loadF;exact rfl;exact rfl;(intro w' h';first | exact cell_of h'.mm rfl | exact cell_of h'.dd rfl | exact cell_of h'.cc rfl);apply Wl.nilB
 refine Mt.e1 8 ?_
 apply Wl.callC
 ·exact rfl
 ·exact ke
 intro wq4 hq4
 have hMq := hN.upd hq4.upd fun b hb y => y (hof b hb)
 have zq4 := hq4.upd.size
 have uq4 : Upd (fun k => w.heap.size ≤ k) w wq4 := hq4.on hwN kb
 refine (wSetOk I'.wd I'.sa _ L' _ t' _ wq4 hMq.ward (hl'.symm ▸ hA0.upd uq4 fun k _ hk _ => by omega) (by rw [hl'];exact (newL_len _ _).symm) hok ht hany hr).mono ?_
 rintro e wS ⟨sa',rfl,hWS,gS,uS⟩
 have zS := uS.size
 have hS := hMq.set hWS (by rw [hl'];exact (newL_len _ _).symm) ky (uS.mono fun k _ h => h)
 have hwS : Upd (fun k => w.heap.size ≤ k) w wS := uq4.comp uS fun k hk hs => by have := (hMq.lt I'.wd (.inr (.inr (.inr (.inl rfl))))).1;rcases hs with h | rfl | h <;> omega
 have hqS := Hp.restT hq4 uS (by simp only [List.mem_cons,List.not_mem_nil,or_false,forall_eq_or_imp,forall_eq];exact ⟨fun h => by rcases h with h | h;exact (hof I'.wd (.inr (.inr (.inr (.inl rfl))))).1 h;omega,fun h => by rcases h with h | h;exact (hof I'.wd (.inr (.inr (.inr (.inl rfl))))).2.1 h;omega⟩)
 have hof2 : ∀ b,MonF {I' with sa := sa'} {(⟨.slice a1 M.L.length c1,.slice a2 M.L.length c2,.slice none 0 0,.slice none 0 0,0,[],newL (fun _ => 0) M.L.length,0,fun _ => [],[],0,List.replicate M.L.length [],f',xz,0,cf'⟩ : Mv2) with L := L',t := t'} b → Off [⟨st,List.replicate M.L.length (Value.int .u32 0),25⟩,⟨c,[.int .i64 t',.slice sa0 M.L.length sc0,.slice (some ⟨ib,io,none⟩) M.L.length ic0,.slice (some ⟨bb,bo,none⟩) M.L.length bc0,.slice la ll.length lc,.pointer (some ⟨cM',0,none⟩)],54⟩] b := fun b hb => (MonF.with hb).elim (hof b) fun e => ⟨by simp only;omega,by simp only;omega,trivial⟩
 refine ⟨_,_,rfl,hqS,?_⟩
 apply Wl.nil
 refine Mt.backE (fun _ h' => have k := hS.upd h'.upd fun b hb y => y (hof2 b hb);⟨k.mm,k.dd,h'.own.at (.tail _ (.head _)),h'.on hwS kb⟩) ?_
 refine Mt.pu 9 ?_
 apply Wl.neqIs;exact rfl;exact rfl;exact rfl;exact kv;apply Wl.nilB
 refine Mt.toGt kg ?_
 repeat' first | refine Wl.move rfl rfl ?_ | apply Wl.nil | apply St.seq | apply St.block | apply St.region | (apply St.condF;exact rfl;exact ka) | apply St.skip | apply Gt.next
 have hil0 : insK ins' 0 M.L.length = List.replicate M.L.length [] := insK_0 _ _
 have hbx0 : bxK ls 0 = fun _ => [] := funext fun j => if_neg (Nat.not_lt_zero _)
 have hSz : MonS wS w.heap.size {I' with sa := sa'} (⟨.slice a1 M.L.length c1,.slice a2 M.L.length c2,.slice none 0 0,.slice none 0 0,0,[],L',t',(bxK ls 0),[],0,insK ins' 0 M.L.length,f',xz,0,cf'⟩ : Mv2) := by rw [hil0,hbx0];exact hS
 clear hS hN hWS
 refine St.loop (σ := Nat × World) (fun τ => τ.1 ≤ M.L.length ∧ MonS τ.2 w.heap.size {I' with sa := sa'} (⟨.slice a1 M.L.length c1,.slice a2 M.L.length c2,.slice none 0 0,.slice none 0 0,0,[],L',t',(bxK ls τ.1),[],0,insK ins' τ.1 M.L.length,f',xz,0,cf'⟩ : Mv2) ∧ ((∀ k s,k < τ.1 → ins'[k]? = some s → s.length ≤ 64) ∧ (∀ j,j < τ.1 → BoxOk M.L.length (ls j))) ∧ Upd (fun k => w.heap.size ≤ k) w τ.2)
  (fun τ => [(3,.pointer (some ⟨c,0,none⟩)),(6,.int .i64 M.L.length),(8,.pointer (some ⟨I'.m,0,none⟩)),(80,.int .i64 M.L.length),(81,.int .i64 (τ.1 : Int))])
  (fun τ => Hp τ.2 [⟨st,List.replicate M.L.length (Value.int .u32 0),25⟩,⟨c,[.int .i64 t',.slice sa0 M.L.length sc0,.slice (some ⟨ib,io,none⟩) M.L.length ic0,.slice (some ⟨bb,bo,none⟩) M.L.length bc0,.slice la ll.length lc,.pointer (some ⟨cM',0,none⟩)],54⟩]) (fun τ => M.L.length - τ.1) (0,wS) ⟨Nat.zero_le _,hSz,⟨fun _ _ h => (Nat.not_lt_zero _ h).elim,fun _ h => (Nat.not_lt_zero _ h).elim⟩,hwS⟩ kw (fun _ h => h) ?_
 clear hSz hwS hwN hwC
 rintro ⟨i,wc⟩ ⟨hi,hM,hok1,hwc⟩
 simp only at hi hM hok1 hwc ⊢
 have zwc := hwc.size
 by_cases hlt : i < M.L.length
 ·have hd : decide ((i : Int) < (M.L.length : Int)) = true := decide_eq_true ky
  obtain ⟨s,hs⟩ : ∃ s,ins'[i]? = some s := ⟨_,List.getElem?_eq_getElem ky⟩
  have hsl := hins s (List.mem_of_getElem? hs)
  obtain ⟨bi,hvi,hbi⟩ := hBl i hlt
  obtain ⟨hbt1,hbt2⟩ := hBt i hlt
  have hbi0 := hbi
  obtain ⟨_,av,cv,rfl,_,_,_,hav⟩ := hbi
  have hsC : w.cell? ⟨ib,io + (i : Int).toNat,none⟩ = some (strV s) := by
   rw [Int.toNat_natCast,hic i (by rw [List.length_map];omega)]
   obtain ⟨hj,e⟩ := List.getElem?_eq_some_iff.1 hs
   rw [List.getElem_map,e]
  have hbC : w.cell? ⟨bb,bo + (i : Int).toNat,none⟩ = some (.slice av (ls i).length cv) := by
   obtain ⟨hj,e⟩ := List.getElem?_eq_some_iff.1 hvi
   rw [Int.toNat_natCast,hbc i hj,e]
  have hib := World.block_lt_of_cell? w _ hsC
  have hbb := World.block_lt_of_cell? w _ hbC
  simp only at hib hbb
  repeat' first | refine Wl.move rfl rfl ?_ | refine Wl.assign rfl rfl ?_ | refine Wl.lss rfl rfl rfl ?_ | apply Wl.nil | apply St.seq | apply St.block | apply St.region | (apply St.condT;exact rfl;exact ka) | apply St.skip | apply Gt.next
  refine St.tree (fun w' => WiB w w' {I' with sa := sa'} (⟨.slice a1 M.L.length c1,.slice a2 M.L.length c2,.slice none 0 0,.slice none 0 0,0,[],L',t',(bxK ls i),[],0,insK ins' i M.L.length,f',xz,0,cf'⟩ : Mv2) c [.int .i64 t',.slice sa0 M.L.length sc0,.slice (some ⟨ib,io,none⟩) M.L.length ic0,.slice (some ⟨bb,bo,none⟩) M.L.length bc0,.slice la ll.length lc,.pointer (some ⟨cM',0,none⟩)]) mixed (fun _ h' => ⟨Hp.drew h',have k := hM.upd (Hp.drew h').upd fun b hb y => y (hof2 b hb);⟨k.mm,k.dd,(Hp.drew h').own.at (.tail _ (.head _)),(Hp.drew h').on hwc kb⟩⟩) ?_
  by_cases hs64 : s.length ≤ 64
  rotate_left
  ·skip
   refine Mt.pm 0 ?_
   refine Mt.pm 7 ?_
   refine Mt.pz 8 ?_
   refine Mt.pm 10 ?_
   refine Mt.pn 1 ?_
   refine Mt.pu 9 ?_
   apply Wl.loadF;exact rfl;exact rfl;(intro w' h';first | exact cell_of h'.mm rfl | exact cell_of h'.dd rfl | exact cell_of h'.cc rfl | exact h'.u.cell hsC qu);apply Wl.nilB
   refine Mt.pz 2 ?_
   refine Mt.pu 11 ?_
   refine Wl.indexAddr1 rfl rfl rfl ?_ ?_;constructor <;> omega;apply Wl.nilB
   refine Mt.pu 3 ?_
   apply Wl.loadF;exact rfl;exact rfl;(intro w' h';first | exact cell_of h'.mm rfl | exact cell_of h'.dd rfl | exact cell_of h'.cc rfl | exact h'.u.cell hsC qu);apply Wl.nilB
   refine Mt.pu 12 ?_
   apply Wl.loadF;exact rfl;exact rfl;(intro w' h';first | exact cell_of h'.mm rfl | exact cell_of h'.dd rfl | exact cell_of h'.cc rfl | exact h'.u.cell hsC qu);apply Wl.nilB
   refine Mt.pn 4 ?_
   refine Mt.pz 5 ?_
   refine Mt.pu 6 ?_
   apply Wl.loadF;exact rfl;exact rfl;(intro w' h';first | exact cell_of h'.mm rfl | exact cell_of h'.dd rfl | exact cell_of h'.cc rfl | exact h'.u.cell hsC qu);apply Wl.nilB
   refine Mt.e1 13 ?_
   apply Wl.callQ
   ·exact rfl
   ·exact ke
   ·intro wq hq
    refine (bFeedNo _ _ _ _ _ _ _ i [] s wq (hM.upd hq.upd fun b hb y => y (hof2 b hb)).board (insK_at ins' hlt ky) (by simp only [List.length_nil];omega)).mono ?_
    rintro e wr ⟨rfl,hr'⟩
    exact ⟨rfl,hq.keep hr'⟩
   apply Wl.nil
   refine Mt.backE (fun _ h' => have k := hM.upd h'.upd fun b hb y => y (hof2 b hb);⟨k.mm,k.dd,h'.own.at (.tail _ (.head _)),h'.on hwc kb⟩) ?_
   refine Mt.pu 14 ?_
   refine Wl.neq rfl rfl rfl (Wl.nilB ?_)
   refine Mt.toGt kg ?_
   repeat' first | refine Wl.assign rfl rfl ?_ | apply Wl.nil | apply St.seq | apply St.region | (apply St.condT;exact rfl;exact ka) | apply St.ret | apply Gt.next | apply Gt.thenRet | apply Gt.inRet | (apply Gt.out2;exact rfl;exact rfl;exact rfl;intro w' hp)
   exact .inr ⟨fun _ h2 _ => hs64 (h2 i s hlt hs),rfl,hp.on hwc kb⟩
  refine Mt.pm 0 ?_
  refine Mt.pm 7 ?_
  refine Mt.pz 8 ?_
  refine Mt.pm 10 ?_
  refine Mt.pn 1 ?_
  refine Mt.pu 9 ?_
  apply Wl.loadF;exact rfl;exact rfl;(intro w' h';first | exact cell_of h'.mm rfl | exact cell_of h'.dd rfl | exact cell_of h'.cc rfl | exact h'.u.cell hsC qu);apply Wl.nilB
  refine Mt.pz 2 ?_
  refine Mt.pu 11 ?_
  refine Wl.indexAddr1 rfl rfl rfl ?_ ?_;constructor <;> omega;apply Wl.nilB
  refine Mt.pu 3 ?_
  apply Wl.loadF;exact rfl;exact rfl;(intro w' h';first | exact cell_of h'.mm rfl | exact cell_of h'.dd rfl | exact cell_of h'.cc rfl | exact h'.u.cell hsC qu);apply Wl.nilB
  refine Mt.pu 12 ?_
  apply Wl.loadF;exact rfl;exact rfl;(intro w' h';first | exact cell_of h'.mm rfl | exact cell_of h'.dd rfl | exact cell_of h'.cc rfl | exact h'.u.cell hsC qu);apply Wl.nilB
  refine Mt.pn 4 ?_
  refine Mt.pz 5 ?_
  refine Mt.pu 6 ?_
  apply Wl.loadF;exact rfl;exact rfl;(intro w' h';first | exact cell_of h'.mm rfl | exact cell_of h'.dd rfl | exact cell_of h'.cc rfl | exact h'.u.cell hsC qu);apply Wl.nilB
  refine Mt.e1 13 ?_
  apply Wl.callC
  ·exact rfl
  ·exact ke
  intro wq5 hq5
  have hMq := hM.upd hq5.upd fun b hb y => y (hof2 b hb)
  have zq5 := hq5.upd.size
  have uq5 : Upd (fun k => w.heap.size ≤ k) w wq5 := hq5.on hwc kb
  refine (bFeed _ _ _ _ _ _ _ i [] s wq5 hMq.board (insK_at ins' hlt ky) (by simpa using hs64)).mono ?_
  rintro e wF ⟨rfl,hBF,uF⟩
  have zF := uF.size
  have hF0 := hMq.feed hBF (List.length_set ..) uF
  have hbx1 : (fun j => if j = i then ((ls i).take 0).map letV else bxK ls i j) = bxK ls i := funext fun j => by by_cases e : j = i;(rw [if_pos e,e];simp [bxK]);rw [if_neg e]
  have hF : MonS wF w.heap.size {I' with sa := sa'} (⟨.slice a1 M.L.length c1,.slice a2 M.L.length c2,.slice none 0 0,.slice none 0 0,0,[],L',t',(fun j => if j = i then ((ls i).take 0).map letV else bxK ls i j),[],0,insK ins' (i + 1) M.L.length,f',xz,0,cf'⟩ : Mv2) := by rw [hbx1,← insK_set ky hs];exact hF0
  have hwF : Upd (fun k => w.heap.size ≤ k) w wF := uq5.comp uF fun k hk hs => by have := (hMq.lt I'.ia (.inr (.inr (.inr (.inr (.inr (.inr (.inr (.inr (.inl rfl)))))))))).1;rcases hs with h | rfl;exact h;exact this
  have hqF := Hp.restT hq5 uF (by simp only [List.mem_cons,List.not_mem_nil,or_false,forall_eq_or_imp,forall_eq];exact ⟨(hof I'.ia (.inr (.inr (.inr (.inr (.inr (.inr (.inr (.inr (.inl rfl)))))))))).1,(hof I'.ia (.inr (.inr (.inr (.inr (.inr (.inr (.inr (.inr (.inl rfl)))))))))).2.1⟩)
  have hbF : wF.cell? ⟨bb,bo + (i : Int).toNat,none⟩ = some (.slice av (ls i).length cv) := hwF.cell hbC (by show ¬ w.heap.size ≤ bb;omega)
  refine ⟨_,_,rfl,hqF,?_⟩
  apply Wl.nil
  refine Mt.backE (fun _ h' => have k := hF.upd h'.upd fun b hb y => y (hof2 b hb);⟨k.mm,k.dd,h'.own.at (.tail _ (.head _)),h'.on hwF kb⟩) ?_
  refine Mt.pu 14 ?_
  apply Wl.neqIs;exact rfl;exact rfl;exact rfl;exact kv;apply Wl.nilB
  refine Mt.toGt kg ?_
  repeat' first | (apply Wl.loadO;exact rfl;exact rfl;exact zw;exact kh) | refine Wl.move rfl rfl ?_ | refine Wl.fieldAddrZ rfl rfl ?_ | (apply Wl.loadH;exact rfl;exact rfl;exact ke;exact rfl) | refine Wl.len rfl rfl ?_ | (refine Wl.indexAddr1 rfl rfl rfl ?_ ?_;constructor <;> omega) | apply Wl.nil | apply St.seq | apply St.block | apply St.region | (apply St.condF;exact rfl;exact ka) | apply St.skip | apply Gt.next
  refine St.loop (σ := Nat × World) (fun τ => τ.1 ≤ (ls i).length ∧ MonS τ.2 w.heap.size {I' with sa := sa'} (⟨.slice a1 M.L.length c1,.slice a2 M.L.length c2,.slice none 0 0,.slice none 0 0,0,[],L',t',(fun j => if j = i then ((ls i).take τ.1).map letV else bxK ls i j),[],0,insK ins' (i + 1) M.L.length,f',xz,0,cf'⟩ : Mv2) ∧ (τ.1 ≤ 4 ∧ ∀ x ∈ (ls i).take τ.1,x.1 < (M.L.length : Int) ∧ x.2 ≠ []) ∧ Upd (fun k => w.heap.size ≤ k) w τ.2) (fun τ => [(3,.pointer (some ⟨c,0,none⟩)),(6,.int .i64 M.L.length),(8,.pointer (some ⟨I'.m,0,none⟩)),(80,.int .i64 M.L.length),(81,.int .i64 (i : Int)),(10,.int .i64 (i : Int)),(103,.slice av (ls i).length cv),(104,.int .i64 ((ls i).length : Int)),(105,.int .i64 (τ.1 : Int))]) (fun τ => Hp τ.2 [⟨st,List.replicate M.L.length (Value.int .u32 0),25⟩,⟨c,[.int .i64 t',.slice sa0 M.L.length sc0,.slice (some ⟨ib,io,none⟩) M.L.length ic0,.slice (some ⟨bb,bo,none⟩) M.L.length bc0,.slice la ll.length lc,.pointer (some ⟨cM',0,none⟩)],54⟩]) (fun τ => (ls i).length - τ.1) (0,wF) ⟨Nat.zero_le _,hF,⟨Nat.zero_le _,fun _ h => by simp at h⟩,hwF⟩ kw (fun _ h => h) ?_
  clear hF hwF hbF hqF
  rintro ⟨k,wk⟩ ⟨hk,hK,hkok,hwk⟩
  simp only at hk hK hkok hwk ⊢
  have zwk := hwk.size
  by_cases hkl : k < (ls i).length
  ·skip
   have hd2 : decide ((k : Int) < ((ls i).length : Int)) = true := decide_eq_true ky
   obtain ⟨x,hx⟩ : ∃ x,(ls i)[k]? = some x := ⟨_,List.getElem?_eq_getElem hkl⟩
   obtain ⟨⟨hx0,hx1⟩,hx16⟩ := hbt2 x (List.mem_of_getElem? hx)
   have hgx : ∀ (q : Nat) (u : Value),(lineC x)[q]? = some u → ((ls i).map lineC).flatten[k * 2 + q]? = some u := fun q u hq => by
    rw [flat_get (k := 2) (fun y hy => by obtain ⟨z,_,rfl⟩ := List.mem_map.1 hy;rfl) (by rw [List.getElem?_map,hx];rfl) ((List.getElem?_eq_some_iff.1 hq).1)]
    exact hq
   obtain ⟨lb,lo,rfl,hlcs⟩ := hav (fun e => by have := hgx 0 _ rfl;rw [e] at this;cases this)
   have hlx : ∀ (q : Nat) (u : Value),(lineC x)[q]? = some u → w.cell? (Addr.add ⟨lb,lo + (k : Int).toNat * 2,none⟩ q) = some u := fun q u hq => by
    obtain ⟨hj,e⟩ := List.getElem?_eq_some_iff.1 (hgx q u hq)
    rw [addLit,Int.toNat_natCast,Nat.add_assoc,hlcs _ hj,e]
   have hlb := World.block_lt_of_cell? w _ (hlx 0 _ rfl)
   rw [addLit] at hlb
   simp only at hlb
   have hlk : ∀ (q : Nat) (u : Value),(lineC x)[q]? = some u → wk.cell? (Addr.add ⟨lb,lo + (k : Int).toNat * 2,none⟩ q) = some u := fun q u hq => hwk.cell (hlx q u hq) (by rw [addLit];show ¬ w.heap.size ≤ lb;omega)
   obtain ⟨cS,hcS⟩ : ∃ cS,cS = c := ⟨_,rfl⟩
   subst hcS
   repeat' first | (apply Wl.loadAF (xs := lineC x);exact rfl;exact rfl;exact rfl;(intro wq hq q u hq';exact hq.old (hlk q u hq') qz)) | refine Wl.lss rfl rfl rfl ?_ | (apply Wl.storeA;exact rfl;exact rfl;exact rfl;exact rfl;exact ke;exact kf) | (apply Wl.alloc;exact rfl;intro c hc ho) | (refine Wl.indexAddr rfl rfl rfl ?_ ?_;constructor <;> omega) | apply Wl.nil | apply St.seq | apply St.block | apply St.region | (apply St.condT;exact rfl;exact ka) | apply St.skip | apply Gt.next
   have lkc : wk.heap.size ≤ c := by assumption
   have hof3 : ∀ b,MonF {I' with sa := sa'} (⟨.slice a1 M.L.length c1,.slice a2 M.L.length c2,.slice none 0 0,.slice none 0 0,0,[],L',t',(fun j => if j = i then ((ls i).take k).map letV else bxK ls i j),[],0,insK ins' (i + 1) M.L.length,f',xz,0,cf'⟩ : Mv2) b → Off [⟨c,[.int .i64 x.1,strV x.2],78⟩,⟨st,List.replicate M.L.length (Value.int .u32 0),25⟩,⟨cS,[.int .i64 t',.slice sa0 M.L.length sc0,.slice (some ⟨ib,io,none⟩) M.L.length ic0,.slice (some ⟨bb,bo,none⟩) M.L.length bc0,.slice la ll.length lc,.pointer (some ⟨cM',0,none⟩)],54⟩] b := fun b hb => ⟨fun e => by have := (hK.lt b hb).2;simp only at e;omega,hof2 b hb⟩
   refine St.tree (fun w' => WiB w w' {I' with sa := sa'} (⟨.slice a1 M.L.length c1,.slice a2 M.L.length c2,.slice none 0 0,.slice none 0 0,0,[],L',t',(fun j => if j = i then ((ls i).take k).map letV else bxK ls i j),[],0,insK ins' (i + 1) M.L.length,f',xz,0,cf'⟩ : Mv2) cS [.int .i64 t',.slice sa0 M.L.length sc0,.slice (some ⟨ib,io,none⟩) M.L.length ic0,.slice (some ⟨bb,bo,none⟩) M.L.length bc0,.slice la ll.length lc,.pointer (some ⟨cM',0,none⟩)] ∧ w'.heap[c]? = some (.cells #[.int .i64 x.1,strV x.2] 78 (0,0))) mixed (fun _ h' => ⟨Hp.drew h',⟨have kk := hK.upd (Hp.drew h').upd fun b hb y => y (hof3 b hb);⟨kk.mm,kk.dd,(Hp.drew h').own.at (.tail _ (.tail _ (.head _))),(Hp.drew h').on hwk kb⟩,(Hp.drew h').own.at (.head _)⟩⟩) ?_
   have dx0 : decide (x.1 < 0) = false := decide_eq_false ky
   by_cases hfr : x.1 < (M.L.length : Int)
   ·have dx1 : decide (x.1 ≥ (M.L.length : Int)) = false := decide_eq_false ky
    obtain ⟨ch,hch⟩ : ∃ ch,I'.cs[i]? = some ch := ⟨_,List.getElem?_eq_getElem (by have := hK.len.1;simp only at this;omega)⟩
    by_cases hgo : k < 4 ∧ x.2 ≠ []
    ·skip
     refine Mt.pf 0 ?_
     refine Mt.pu 1 ?_
     apply Wl.loadF;exact rfl;exact rfl;(intro w' h';first | exact cell_of h'.1.mm rfl | exact cell_of h'.1.dd rfl | exact cell_of h'.2 rfl);apply Wl.nilB
     refine Mt.pu 2 ?_
     refine Wl.lss rfl rfl rfl (Wl.nilB ?_)
     refine Mt.pm 3 ?_
     refine Mt.pu 4 ?_
     repeat' first | (apply Wl.on;exact rfl;exact rfl;exact ka) | refine Wl.fieldAddr0 rfl rfl ?_ | apply Wl.nilB
     refine Mt.pu 6 ?_
     repeat' first | refine Wl.move rfl rfl ?_ | (apply Wl.on;exact rfl;exact rfl;exact ka) | apply Wl.nilB
     refine Mt.pu 5 ?_
     repeat' first | (apply Wl.loadF;exact rfl;exact rfl;(intro w' h';first | exact cell_of h'.1.mm rfl | exact cell_of h'.1.dd rfl | exact cell_of h'.2 rfl)) | (apply Wl.on;exact rfl;exact rfl;exact ka) | apply Wl.nilB
     refine Mt.pu 7 ?_
     repeat' first | (apply Wl.on;exact rfl;exact rfl;exact ka) | refine Wl.geq rfl rfl rfl ?_ | apply Wl.nilB
     refine Mt.pu 8 ?_
     apply Wl.pickF;exact rfl;exact rfl;exact ka;exact rfl;apply Wl.nilB
     refine Mt.pm 9 ?_
     refine Mt.pu 10 ?_
     repeat' first | refine Wl.move rfl rfl ?_ | (apply Wl.on;exact rfl;exact rfl;exact ka) | apply Wl.nilB
     refine Mt.pu 17 ?_
     repeat' first | refine Wl.move rfl rfl ?_ | (apply Wl.on;exact rfl;exact rfl;exact ka) | apply Wl.nilB
     refine Mt.pu 18 ?_
     repeat' first | (apply Wl.loadAF (xs := lineC x);exact rfl;exact rfl;exact rfl;(intro w' h' q u hq';rw [addLit];exact cell_of h'.2 jb)) | (apply Wl.on;exact rfl;exact rfl;exact ka) | apply Wl.nilB
     refine Mt.pu 11 ?_
     repeat' first | (apply Wl.on;exact rfl;exact rfl;exact ka) | refine Wl.nilCheck rfl rfl ?_ | apply Wl.nilB
     refine Mt.pu 12 ?_
     repeat' first | (apply Wl.on;exact rfl;exact rfl;exact ka) | refine Wl.fieldAddrZ rfl rfl ?_ | apply Wl.nilB
     refine Mt.pu 13 ?_
     repeat' first | (apply Wl.loadF;exact rfl;exact rfl;(intro w' h';first | exact cell_of h'.1.mm rfl | exact cell_of h'.1.dd rfl | exact cell_of h'.2 rfl)) | (apply Wl.on;exact rfl;exact rfl;exact ka) | apply Wl.nilB
     refine Mt.pu 14 ?_
     repeat' first | (apply Wl.on;exact rfl;exact rfl;exact ka) | refine Wl.nilCheck rfl rfl ?_ | apply Wl.nilB
     refine Mt.pu 15 ?_
     repeat' first | (apply Wl.on;exact rfl;exact rfl;exact ka) | refine Wl.fieldAddrZ rfl rfl ?_ | apply Wl.nilB
     refine Mt.pu 16 ?_
     repeat' first | (apply Wl.loadF;exact rfl;exact rfl;(intro w' h';first | exact cell_of h'.1.mm rfl | exact cell_of h'.1.dd rfl | exact cell_of h'.2 rfl)) | (apply Wl.on;exact rfl;exact rfl;exact ka) | apply Wl.nilB
     refine Mt.e1 19 ?_
     refine Wl.on rfl rfl (by first | exact rfl | (simp [dx0];omega)) ?_
     apply Wl.callC
     ·exact rfl
     ·exact ke
     intro wq6 hq6
     have hMq := hK.upd hq6.upd fun b hb y => y (hof3 b hb)
     have zq6 := hq6.upd.size
     have uq6 : Upd (fun k => w.heap.size ≤ k) w wq6 := hq6.on hwk kb
     have hcF : MonF {I' with sa := sa'} (⟨.slice a1 M.L.length c1,.slice a2 M.L.length c2,.slice none 0 0,.slice none 0 0,0,[],L',t',(fun j => if j = i then ((ls i).take k).map letV else bxK ls i j),[],0,insK ins' (i + 1) M.L.length,f',xz,0,cf'⟩ : Mv2) ch := .inr (.inr (.inr (.inr (.inr (.inr (.inr (.inr (.inr (.inr (.inl (List.mem_of_getElem? hch)))))))))))
     have hlk4 : ((fun j => if j = i then ((ls i).take k).map letV else bxK ls i j) i).length < 4 := by show (ite _ _ _ : List Value).length < 4;rw [if_pos rfl,List.length_map,List.length_take];omega
     refine (pSendOk _ _ _ _ i ch x wq6 hMq.post hch ⟨hgo.2,hx16⟩ hlk4).mono ?_
     rintro e wP ⟨rfl,hPP,uP⟩
     have zP := uP.size
     have hP0 := hMq.snd (List.mem_of_getElem? hch) hPP uP
     have hbx3 : (fun j => if j = i then (fun j => if j = i then ((ls i).take k).map letV else bxK ls i j) i ++ [letV x] else (fun j => if j = i then ((ls i).take k).map letV else bxK ls i j) j) = (fun j => if j = i then ((ls i).take (k + 1)).map letV else bxK ls i j) := funext fun j => by
      by_cases e : j = i
      ·simp only [if_pos e,if_pos True.intro];rw [take_snoc hx,List.map_append];rfl
      ·simp only [if_neg e]
     have hP : MonS wP w.heap.size {I' with sa := sa'} (⟨.slice a1 M.L.length c1,.slice a2 M.L.length c2,.slice none 0 0,.slice none 0 0,0,[],L',t',(fun j => if j = i then ((ls i).take (k + 1)).map letV else bxK ls i j),[],0,insK ins' (i + 1) M.L.length,f',xz,0,cf'⟩ : Mv2) := by rw [← hbx3];exact hP0
     have hwP : Upd (fun k => w.heap.size ≤ k) w wP := uq6.comp uP fun k' hk' hs => by rcases hs with h | h;exact h;rw [h];exact (hMq.lt ch hcF).1
     have hqP0 := Hp.restT hq6 uP (by simp only [List.mem_cons,List.not_mem_nil,or_false,forall_eq_or_imp,forall_eq];exact ⟨(hof3 ch hcF).1,(hof3 ch hcF).2.1,(hof3 ch hcF).2.2.1⟩)
     have hqP : Hp wP [⟨st,List.replicate M.L.length (Value.int .u32 0),25⟩,⟨cS,[.int .i64 t',.slice sa0 M.L.length sc0,.slice (some ⟨ib,io,none⟩) M.L.length ic0,.slice (some ⟨bb,bo,none⟩) M.L.length bc0,.slice la ll.length lc,.pointer (some ⟨cM',0,none⟩)],54⟩] wP := ⟨Upd.refl _ _,hqP0.own.2,hqP0.apart.2⟩
     have hcP := hqP0.own.at (.head _)
     have hofc : Off [⟨st,List.replicate M.L.length (Value.int .u32 0),25⟩,⟨cS,[.int .i64 t',.slice sa0 M.L.length sc0,.slice (some ⟨ib,io,none⟩) M.L.length ic0,.slice (some ⟨bb,bo,none⟩) M.L.length bc0,.slice la ll.length lc,.pointer (some ⟨cM',0,none⟩)],54⟩] c := hqP0.apart.1
     simp only at hcP
     refine ⟨_,_,rfl,hqP,?_⟩
     apply Wl.nil
     refine Mt.backE (fun _ h' => have kk := hP.upd h'.upd fun b hb y => y (hof2 b hb);⟨⟨kk.mm,kk.dd,h'.own.at (.tail _ (.head _)),h'.on hwP kb⟩,h'.upd.heap hcP fun y => y hofc⟩) ?_
     refine Mt.pu 20 ?_
     repeat' first | (apply Wl.on;exact rfl;exact rfl;exact ka) | (apply Wl.neqIs;exact rfl;exact rfl;exact rfl;exact kv) | apply Wl.nilB
     refine Mt.pu 21 ?_
     apply Wl.pickF;exact rfl;exact rfl;exact ka;exact rfl;apply Wl.nilB
     refine Mt.toGt kg ?_
     repeat' first | refine Wl.move rfl rfl ?_ | (refine Wl.addI rfl rfl rfl ?_ ?_;constructor <;> omega) | apply Wl.nil | apply St.region | (apply St.condF;exact rfl;exact ka) | apply St.skip | apply Gt.next | apply Gt.inNormal
     apply Gt.round (k + 1,wP)
     rotate_left
     ·simp only;omega
     ·exact ke
     ·exact fun _ h' => h'
     ·exact ⟨hkl,hP,⟨by omega,fun y hy => by rw [take_snoc hx] at hy;rcases List.mem_append.1 hy with h | h;exact hkok.2 y h;rw [List.mem_singleton.1 h];exact ⟨hfr,hgo.2⟩⟩,hwP⟩
    ·skip
     refine Mt.pf 0 ?_
     refine Mt.pu 1 ?_
     apply Wl.loadF;exact rfl;exact rfl;(intro w' h';first | exact cell_of h'.1.mm rfl | exact cell_of h'.1.dd rfl | exact cell_of h'.2 rfl);apply Wl.nilB
     refine Mt.pu 2 ?_
     refine Wl.lss rfl rfl rfl (Wl.nilB ?_)
     refine Mt.pm 3 ?_
     refine Mt.pu 4 ?_
     repeat' first | (apply Wl.on;exact rfl;exact rfl;exact ka) | refine Wl.fieldAddr0 rfl rfl ?_ | apply Wl.nilB
     refine Mt.pu 6 ?_
     repeat' first | refine Wl.move rfl rfl ?_ | (apply Wl.on;exact rfl;exact rfl;exact ka) | apply Wl.nilB
     refine Mt.pu 5 ?_
     repeat' first | (apply Wl.loadF;exact rfl;exact rfl;(intro w' h';first | exact cell_of h'.1.mm rfl | exact cell_of h'.1.dd rfl | exact cell_of h'.2 rfl)) | (apply Wl.on;exact rfl;exact rfl;exact ka) | apply Wl.nilB
     refine Mt.pu 7 ?_
     repeat' first | (apply Wl.on;exact rfl;exact rfl;exact ka) | refine Wl.geq rfl rfl rfl ?_ | apply Wl.nilB
     refine Mt.pu 8 ?_
     apply Wl.pickF;exact rfl;exact rfl;exact ka;exact rfl;apply Wl.nilB
     refine Mt.pm 9 ?_
     refine Mt.pu 10 ?_
     repeat' first | refine Wl.move rfl rfl ?_ | (apply Wl.on;exact rfl;exact rfl;exact ka) | apply Wl.nilB
     refine Mt.pu 17 ?_
     repeat' first | refine Wl.move rfl rfl ?_ | (apply Wl.on;exact rfl;exact rfl;exact ka) | apply Wl.nilB
     refine Mt.pu 18 ?_
     repeat' first | (apply Wl.loadAF (xs := lineC x);exact rfl;exact rfl;exact rfl;(intro w' h' q u hq';rw [addLit];exact cell_of h'.2 jb)) | (apply Wl.on;exact rfl;exact rfl;exact ka) | apply Wl.nilB
     refine Mt.pu 11 ?_
     repeat' first | (apply Wl.on;exact rfl;exact rfl;exact ka) | refine Wl.nilCheck rfl rfl ?_ | apply Wl.nilB
     refine Mt.pu 12 ?_
     repeat' first | (apply Wl.on;exact rfl;exact rfl;exact ka) | refine Wl.fieldAddrZ rfl rfl ?_ | apply Wl.nilB
     refine Mt.pu 13 ?_
     repeat' first | (apply Wl.loadF;exact rfl;exact rfl;(intro w' h';first | exact cell_of h'.1.mm rfl | exact cell_of h'.1.dd rfl | exact cell_of h'.2 rfl)) | (apply Wl.on;exact rfl;exact rfl;exact ka) | apply Wl.nilB
     refine Mt.pu 14 ?_
     repeat' first | (apply Wl.on;exact rfl;exact rfl;exact ka) | refine Wl.nilCheck rfl rfl ?_ | apply Wl.nilB
     refine Mt.pu 15 ?_
     repeat' first | (apply Wl.on;exact rfl;exact rfl;exact ka) | refine Wl.fieldAddrZ rfl rfl ?_ | apply Wl.nilB
     refine Mt.pu 16 ?_
     repeat' first | (apply Wl.loadF;exact rfl;exact rfl;(intro w' h';first | exact cell_of h'.1.mm rfl | exact cell_of h'.1.dd rfl | exact cell_of h'.2 rfl)) | (apply Wl.on;exact rfl;exact rfl;exact ka) | apply Wl.nilB
     refine Mt.e1 19 ?_
     refine Wl.on rfl rfl (by first | exact rfl | (simp [dx0];omega)) ?_
     apply Wl.callC
     ·exact rfl
     ·exact ke
     intro wq6 hq6
     refine (pSendRef _ _ _ _ i ch x wq6 (hK.upd hq6.upd fun b hb y => y (hof3 b hb)).post hch hx16 (by by_cases h0 : x.2 = [];exact .inl h0;exact .inr (by show 4 ≤ (ite _ _ _ : List Value).length;rw [if_pos rfl,List.length_map,List.length_take];have : ¬ k < 4 := fun h => hgo ⟨h,h0⟩;omega))).mono ?_
     rintro e wr ⟨⟨r,hr0,rfl⟩,hr'⟩
     refine ⟨_,_,rfl,hq6.keep hr',?_⟩
     apply Wl.nil
     refine Mt.backE (fun _ h' => ⟨have kk := hK.upd h'.upd fun b hb y => y (hof3 b hb);⟨kk.mm,kk.dd,h'.own.at (.tail _ (.tail _ (.head _))),h'.on hwk kb⟩,h'.own.at (.head _)⟩) ?_
     refine Mt.pu 20 ?_
     repeat' first | (apply Wl.on;exact rfl;exact rfl;exact ka) | refine Wl.neq rfl rfl rfl ?_ | apply Wl.nilB
     refine Mt.pu 21 ?_
     apply Wl.pickF;exact rfl;exact rfl;exact ka;exact rfl;apply Wl.nilB
     refine Mt.toGt kg ?_
     repeat' first | refine Wl.assign rfl rfl ?_ | apply Wl.nil | apply St.seq | apply St.region | (apply St.condT;exact rfl;exact ka) | apply St.ret | apply Gt.next | apply Gt.thenRet | apply Gt.inRet | (apply Gt.out2;exact rfl;exact rfl;exact rfl;intro w' hp)
     exact .inr ⟨fun _ _ h3 => hgo ⟨by have := (h3 i hlt).1;omega,((h3 i hlt).2 x (List.mem_of_getElem? hx)).2⟩,rfl,hp.on hwk kb⟩
   ·have dx1 : decide (x.1 ≥ (M.L.length : Int)) = true := decide_eq_true ky
    refine Mt.pf 0 ?_
    refine Mt.pu 1 ?_
    apply Wl.loadF;exact rfl;exact rfl;(intro w' h';first | exact cell_of h'.1.mm rfl | exact cell_of h'.1.dd rfl | exact cell_of h'.2 rfl);apply Wl.nilB
    refine Mt.pu 2 ?_
    refine Wl.lss rfl rfl rfl (Wl.nilB ?_)
    refine Mt.pm 3 ?_
    refine Mt.pu 4 ?_
    repeat' first | (apply Wl.on;exact rfl;exact rfl;exact ka) | refine Wl.fieldAddr0 rfl rfl ?_ | apply Wl.nilB
    refine Mt.pu 6 ?_
    repeat' first | refine Wl.move rfl rfl ?_ | (apply Wl.on;exact rfl;exact rfl;exact ka) | apply Wl.nilB
    refine Mt.pu 5 ?_
    repeat' first | (apply Wl.loadF;exact rfl;exact rfl;(intro w' h';first | exact cell_of h'.1.mm rfl | exact cell_of h'.1.dd rfl | exact cell_of h'.2 rfl)) | (apply Wl.on;exact rfl;exact rfl;exact ka) | apply Wl.nilB
    refine Mt.pu 7 ?_
    repeat' first | (apply Wl.on;exact rfl;exact rfl;exact ka) | refine Wl.geq rfl rfl rfl ?_ | apply Wl.nilB
    refine Mt.pu 8 ?_
    apply Wl.pickF;exact rfl;exact rfl;exact ka;exact rfl;apply Wl.nilB
    refine Mt.pm 9 ?_
    refine Mt.po 10 ?_
    refine Mt.po 17 ?_
    refine Mt.po 18 ?_
    refine Mt.po 11 ?_
    refine Mt.po 12 ?_
    refine Mt.po 13 ?_
    refine Mt.po 14 ?_
    refine Mt.po 15 ?_
    refine Mt.po 16 ?_
    refine Mt.e1 19 ?_
    repeat' first | (apply Wl.off;exact rfl;exact rfl;exact rfl;exact kq) | apply Wl.nil
    refine Mt.backE (fun _ h' => ⟨have kk := hK.upd h'.upd fun b hb y => y (hof3 b hb);⟨kk.mm,kk.dd,h'.own.at (.tail _ (.tail _ (.head _))),h'.on hwk kb⟩,h'.own.at (.head _)⟩) ?_
    refine Mt.po 20 ?_
    refine Mt.pu 21 ?_
    apply Wl.pickT;exact rfl;exact rfl;exact ka;exact rfl;apply Wl.nilB
    refine Mt.toGt kg ?_
    repeat' first | refine Wl.assign rfl rfl ?_ | apply Wl.nil | apply St.seq | apply St.region | (apply St.condT;exact rfl;exact ka) | apply St.ret | apply Gt.next | apply Gt.thenRet | apply Gt.inRet | (apply Gt.out2;exact rfl;exact rfl;exact rfl;intro w' hp)
    exact .inr ⟨fun _ _ h3 => hfr ((h3 i hlt).2 x (List.mem_of_getElem? hx)).1,rfl,hp.on hwk kb⟩
  ·obtain rfl : k = (ls i).length := by omega
   have hd2 : decide (((ls i).length : Int) < ((ls i).length : Int)) = false := decide_eq_false ky
   rw [List.take_length] at hK hkok
   have hbx2 : (fun j => if j = i then (ls i).map letV else bxK ls i j) = bxK ls (i + 1) := funext fun j => by
    by_cases e : j = i
    ·rw [if_pos e,e];simp [bxK]
    ·rw [if_neg e];unfold bxK;by_cases h : j < i;(rw [if_pos h,if_pos ky]);rw [if_neg h,if_neg ky]
   rw [hbx2] at hK
   repeat' first | refine Wl.move rfl rfl ?_ | refine Wl.lss rfl rfl rfl ?_ | (refine Wl.addI rfl rfl rfl ?_ ?_;constructor <;> omega) | apply Wl.nil | apply St.seq | apply St.region | (apply St.condF;exact rfl;exact ka) | apply St.exit | apply Gt.next | apply Gt.thenExit | apply Gt.inNormal | apply Gt.inExit
   apply Gt.round (i + 1,wk)
   rotate_left
   ·simp only;omega
   ·exact ke
   ·exact fun _ h' => h'
   ·exact ⟨hlt,hK,⟨fun k' s' hk' hs' => by rcases Nat.lt_succ_iff_lt_or_eq.1 hk' with h | rfl;exact hok1.1 k' s' h hs';rw [hs] at hs';cases hs';exact hs64,fun j hj => by rcases Nat.lt_succ_iff_lt_or_eq.1 hj with h | rfl;exact hok1.2 j h;exact hkok⟩,hwk⟩
 ·obtain rfl : i = M.L.length := by omega
  have hd : decide ((M.L.length : Int) < (M.L.length : Int)) = false := decide_eq_false ky
  rw [insK_n ins' hil] at hM
  repeat' first | refine Wl.move rfl rfl ?_ | refine Wl.fieldAddrZ rfl rfl ?_ | (apply Wl.loadH;exact rfl;exact rfl;exact ke;exact rfl) | refine Wl.lss rfl rfl rfl ?_ | refine Wl.len rfl rfl ?_ | apply Wl.nil | apply St.seq | apply St.block | apply St.region | (apply St.condF;exact rfl;exact ka) | apply St.exit | apply Gt.next | apply Gt.thenExit | apply Gt.inExit
  have hMz : MonS wc w.heap.size {I' with sa := sa'} (⟨.slice a1 M.L.length c1,.slice a2 M.L.length c2,.slice none 0 0,.slice none 0 0,0,[],L',t',(bxK ls M.L.length),(ll.take 0),((usedL (ll.take 0) : Nat) : Int),ins',f',xz,0,cf'⟩ : Mv2) := by rw [List.take_zero];exact hM
  obtain ⟨cS,hcS⟩ : ∃ cS,cS = c := ⟨_,rfl⟩
  subst hcS
  refine St.loop (σ := Nat × World × Value) (fun τ => τ.1 ≤ ll.length ∧ MonS τ.2.1 w.heap.size {I' with sa := sa'} (⟨.slice a1 M.L.length c1,.slice a2 M.L.length c2,.slice none 0 0,τ.2.2,0,[],L',t',(bxK ls M.L.length),(ll.take τ.1),((usedL (ll.take τ.1) : Nat) : Int),ins',f',xz,0,cf'⟩ : Mv2) ∧ (∀ b,τ.2.2.ownBlock = some b → Off [⟨st,List.replicate M.L.length (Value.int .u32 0),25⟩,⟨cS,[.int .i64 t',.slice sa0 M.L.length sc0,.slice (some ⟨ib,io,none⟩) M.L.length ic0,.slice (some ⟨bb,bo,none⟩) M.L.length bc0,.slice la ll.length lc,.pointer (some ⟨cM',0,none⟩)],54⟩] b) ∧ (τ.1 = 0 → τ.2.2 = .slice none 0 0) ∧ Upd (fun k => w.heap.size ≤ k) w τ.2.1)
   (fun τ => [(3,.pointer (some ⟨cS,0,none⟩)),(6,.int .i64 M.L.length),(8,.pointer (some ⟨I'.m,0,none⟩)),(134,.slice la ll.length lc),(135,.int .i64 (ll.length : Int)),(136,.int .i64 (τ.1 : Int))]) (fun τ => Hp τ.2.1 [⟨st,List.replicate M.L.length (Value.int .u32 0),25⟩,⟨cS,[.int .i64 t',.slice sa0 M.L.length sc0,.slice (some ⟨ib,io,none⟩) M.L.length ic0,.slice (some ⟨bb,bo,none⟩) M.L.length bc0,.slice la ll.length lc,.pointer (some ⟨cM',0,none⟩)],54⟩]) (fun τ => ll.length - τ.1) (0,wc,.slice none 0 0) ⟨Nat.zero_le _,hMz,fun _ h => (by cases h),fun _ => rfl,hwc⟩ kw (fun _ h => h) ?_
  clear hMz hM
  rintro ⟨k,wk,lvk⟩ ⟨hk,hK,hlvo,hlv0,hwk⟩
  simp only at hk hK hlvo hlv0 hwk ⊢
  have zwk := hwk.size
  by_cases hkl : k < ll.length
  ·have hd2 : decide ((k : Int) < (ll.length : Int)) = true := decide_eq_true ky
   obtain ⟨⟨x1,x2⟩,hx⟩ : ∃ x,ll[k]? = some x := ⟨_,List.getElem?_eq_getElem hkl⟩
   obtain ⟨⟨hx0,hx1⟩,hx2,hx64⟩ := hll _ (List.mem_of_getElem? hx)
   simp only at hx0 hx1 hx2 hx64
   obtain ⟨who,rfl⟩ := Int.eq_ofNat_of_zero_le hx0
   have dx2 : decide (x2 = []) = false := decide_eq_false hx2
   have hgx : ∀ (q : Nat) (u : Value),(lineC ((who : Int),x2))[q]? = some u → (ll.map lineC).flatten[k * 2 + q]? = some u := fun q u hq => by
    rw [flat_get (k := 2) (fun y hy => by obtain ⟨z,_,rfl⟩ := List.mem_map.1 hy;rfl) (by rw [List.getElem?_map,hx];rfl) ((List.getElem?_eq_some_iff.1 hq).1)]
    exact hq
   obtain ⟨lb,lo,rfl,hlcs⟩ := hlc (fun e => by have := hgx 0 _ rfl;rw [e] at this;cases this)
   have hlx : ∀ (q : Nat) (u : Value),(lineC ((who : Int),x2))[q]? = some u → w.cell? (Addr.add ⟨lb,lo + (k : Int).toNat * 2,none⟩ q) = some u := fun q u hq => by
    obtain ⟨hj,e⟩ := List.getElem?_eq_some_iff.1 (hgx q u hq)
    rw [addLit,Int.toNat_natCast,Nat.add_assoc,hlcs _ hj,e]
   have hlb := World.block_lt_of_cell? w _ (hlx 0 _ rfl)
   rw [addLit] at hlb
   simp only at hlb
   have hlk : ∀ (q : Nat) (u : Value),(lineC ((who : Int),x2))[q]? = some u → wk.cell? (Addr.add ⟨lb,lo + (k : Int).toNat * 2,none⟩ q) = some u := fun q u hq => hwk.cell (hlx q u hq) (by rw [addLit];show ¬ w.heap.size ≤ lb;omega)
   repeat' first | (apply Wl.loadAF (xs := lineC ((who : Int),x2));exact rfl;exact rfl;exact rfl;(intro wq hq q u hq';exact hq.old (hlk q u hq') qz)) | refine Wl.lss rfl rfl rfl ?_ | (apply Wl.storeA;exact rfl;exact rfl;exact rfl;exact rfl;exact ke;exact kf) | (apply Wl.alloc;exact rfl;intro c hc ho) | (refine Wl.indexAddr rfl rfl rfl ?_ ?_;constructor <;> omega) | apply Wl.nil | apply St.seq | apply St.block | apply St.region | (apply St.condT;exact rfl;exact ka) | apply St.skip | apply Gt.next
   have lkc : wk.heap.size ≤ c := by assumption
   have hof4 : ∀ b,MonF {I' with sa := sa'} (⟨.slice a1 M.L.length c1,.slice a2 M.L.length c2,.slice none 0 0,lvk,0,[],L',t',(bxK ls M.L.length),(ll.take k),((usedL (ll.take k) : Nat) : Int),ins',f',xz,0,cf'⟩ : Mv2) b → Off [⟨c,[.int .i64 (who : Int),strV x2],111⟩,⟨st,List.replicate M.L.length (Value.int .u32 0),25⟩,⟨cS,[.int .i64 t',.slice sa0 M.L.length sc0,.slice (some ⟨ib,io,none⟩) M.L.length ic0,.slice (some ⟨bb,bo,none⟩) M.L.length bc0,.slice (some ⟨lb,lo,none⟩) ll.length lc,.pointer (some ⟨cM',0,none⟩)],54⟩] b := fun b hb => ⟨fun e => by have := (hK.lt b hb).2;simp only at e;omega,(MonF.lv (M := (⟨.slice a1 M.L.length c1,.slice a2 M.L.length c2,.slice none 0 0,.slice none 0 0,0,[],L',t',(bxK ls M.L.length),[],0,ins',f',xz,0,cf'⟩ : Mv2)) hb).elim (hof2 b) (hlvo b)⟩
   refine St.tree (fun w' => WiB w w' {I' with sa := sa'} (⟨.slice a1 M.L.length c1,.slice a2 M.L.length c2,.slice none 0 0,lvk,0,[],L',t',(bxK ls M.L.length),(ll.take k),((usedL (ll.take k) : Nat) : Int),ins',f',xz,0,cf'⟩ : Mv2) cS [.int .i64 t',.slice sa0 M.L.length sc0,.slice (some ⟨ib,io,none⟩) M.L.length ic0,.slice (some ⟨bb,bo,none⟩) M.L.length bc0,.slice (some ⟨lb,lo,none⟩) ll.length lc,.pointer (some ⟨cM',0,none⟩)] ∧ w'.heap[c]? = some (.cells #[.int .i64 (who : Int),strV x2] 111 (0,0))) mixed (fun _ h' => ⟨Hp.drew h',⟨have kk := hK.upd (Hp.drew h').upd fun b hb y => y (hof4 b hb);⟨kk.mm,kk.dd,(Hp.drew h').own.at (.tail _ (.tail _ (.head _))),(Hp.drew h').on hwk kb⟩,(Hp.drew h').own.at (.head _)⟩⟩) ?_
   refine Mt.pz 0 ?_
   refine Mt.pu 1 ?_
   apply Wl.loadF;exact rfl;exact rfl;(intro w' h';first | exact cell_of h'.1.mm rfl | exact cell_of h'.1.dd rfl | exact cell_of h'.2 rfl);apply Wl.nilB
   refine Mt.pu 2 ?_
   refine Wl.eqlSB rfl rfl rfl (Wl.nilB ?_)
   refine Mt.pm 3 ?_
   refine Mt.pu 4 ?_
   repeat' first | refine Wl.move rfl rfl ?_ | (apply Wl.on;exact rfl;exact rfl;exact ka) | apply Wl.nilB
   refine Mt.pu 11 ?_
   repeat' first | (apply Wl.on;exact rfl;exact rfl;exact ka) | refine Wl.fieldAddr0 rfl rfl ?_ | apply Wl.nilB
   refine Mt.pu 13 ?_
   repeat' first | (apply Wl.on;exact rfl;exact rfl;exact ka) | refine Wl.fieldAddrZ rfl rfl ?_ | apply Wl.nilB
   refine Mt.pu 5 ?_
   repeat' first | (apply Wl.on;exact rfl;exact rfl;exact ka) | refine Wl.nilCheck rfl rfl ?_ | apply Wl.nilB
   refine Mt.pu 12 ?_
   repeat' first | (apply Wl.loadF;exact rfl;exact rfl;(intro w' h';first | exact cell_of h'.1.mm rfl | exact cell_of h'.1.dd rfl | exact cell_of h'.2 rfl)) | (apply Wl.on;exact rfl;exact rfl;exact ka) | apply Wl.nilB
   refine Mt.pu 14 ?_
   repeat' first | (apply Wl.loadF;exact rfl;exact rfl;(intro w' h';first | exact cell_of h'.1.mm rfl | exact cell_of h'.1.dd rfl | exact cell_of h'.2 rfl)) | (apply Wl.on;exact rfl;exact rfl;exact ka) | apply Wl.nilB
   refine Mt.pu 6 ?_
   repeat' first | (apply Wl.on;exact rfl;exact rfl;exact ka) | refine Wl.fieldAddrZ rfl rfl ?_ | apply Wl.nilB
   refine Mt.pu 7 ?_
   repeat' first | (apply Wl.loadF;exact rfl;exact rfl;(intro w' h';first | exact cell_of h'.1.mm rfl | exact cell_of h'.1.dd rfl | exact cell_of h'.2 rfl)) | (apply Wl.on;exact rfl;exact rfl;exact ka) | apply Wl.nilB
   refine Mt.pu 8 ?_
   repeat' first | (apply Wl.on;exact rfl;exact rfl;exact ka) | refine Wl.nilCheck rfl rfl ?_ | apply Wl.nilB
   refine Mt.pu 9 ?_
   repeat' first | (apply Wl.on;exact rfl;exact rfl;exact ka) | refine Wl.fieldAddrZ rfl rfl ?_ | apply Wl.nilB
   refine Mt.pu 10 ?_
   repeat' first | (apply Wl.loadF;exact rfl;exact rfl;(intro w' h';first | exact cell_of h'.1.mm rfl | exact cell_of h'.1.dd rfl | exact cell_of h'.2 rfl)) | (apply Wl.on;exact rfl;exact rfl;exact ka) | apply Wl.nilB
   refine Mt.e1 15 ?_
   refine Wl.on rfl rfl (by exact dx2) ?_
   apply Wl.callC
   ·exact rfl
   ·exact ke
   intro wq7 hq7
   have hMq := hK.upd hq7.upd fun b hb y => y (hof4 b hb)
   have zq7 := hq7.upd.size
   have uq7 : Upd (fun k => w.heap.size ≤ k) w wq7 := hq7.on hwk kb
   have hus := usedL_take ll (k + 1)
   rw [take_snoc hx,usedL_snoc] at hus
   simp only at hus
   refine (bSay w.heap.size I'.bd I'.ia lvk (ll.take k) ((usedL (ll.take k) : Nat) : Int) ins' who x2 wq7 hMq.board (by rw [hil];omega) hx2 hx64 ky ky jc ky).mono ?_
   rintro e wB ⟨lv2,rfl,hBS,uB,oB⟩
   have zB := uB.size
   have hB0 := hMq.brd hBS uB
   have hB1 : MonS wB w.heap.size {I' with sa := sa'} (⟨.slice a1 M.L.length c1,.slice a2 M.L.length c2,.slice none 0 0,lv2,0,[],L',t',(bxK ls M.L.length),(ll.take (k + 1)),((usedL (ll.take (k + 1)) : Nat) : Int),ins',f',xz,0,cf'⟩ : Mv2) := by rw [take_snoc hx,usedL_snoc,Int.natCast_add];exact hB0
   have hwB : Upd (fun k => w.heap.size ≤ k) w wB := uq7.comp uB fun k' hk' hs => by rcases hs with h | h | h | h;exact h;rw [h];exact (hMq.lt I'.bd (.inr (.inr (.inr (.inr (.inr (.inr (.inr (.inl rfl))))))))).1;exact (hMq.lt k' (.inr (.inr (.inr (.inr (.inr (.inr (.inr (.inr (.inr (.inr (.inr (.inl h))))))))))))).1;omega
   have hltB : ∀ x : Blk,x ∈ _ → x.b < wq7.heap.size := fun x hx => hq7.own.lt hx
   simp only [List.mem_cons,List.not_mem_nil,or_false,forall_eq_or_imp,forall_eq] at hltB
   have hobd := hof4 I'.bd (.inr (.inr (.inr (.inr (.inr (.inr (.inr (.inl rfl))))))))
   have holv : ∀ b,lvk.ownBlock = some b → Off [⟨c,[.int .i64 (who : Int),strV x2],111⟩,⟨st,List.replicate M.L.length (Value.int .u32 0),25⟩,⟨cS,[.int .i64 t',.slice sa0 M.L.length sc0,.slice (some ⟨ib,io,none⟩) M.L.length ic0,.slice (some ⟨bb,bo,none⟩) M.L.length bc0,.slice (some ⟨lb,lo,none⟩) ll.length lc,.pointer (some ⟨cM',0,none⟩)],54⟩] b := fun b hb => hof4 b (.inr (.inr (.inr (.inr (.inr (.inr (.inr (.inr (.inr (.inr (.inr (.inl hb))))))))))))
   have hqB0 := Hp.restT hq7 uB (by simp only [List.mem_cons,List.not_mem_nil,or_false,forall_eq_or_imp,forall_eq];exact ⟨fun h => by rcases h with h | h | h;exact hobd.1 h;exact (holv _ h).1 rfl;omega,fun h => by rcases h with h | h | h;exact hobd.2.1 h;exact (holv _ h).2.1 rfl;omega,fun h => by rcases h with h | h | h;exact hobd.2.2.1 h;exact (holv _ h).2.2.1 rfl;omega⟩)
   have hqB : Hp wB [⟨st,List.replicate M.L.length (Value.int .u32 0),25⟩,⟨cS,[.int .i64 t',.slice sa0 M.L.length sc0,.slice (some ⟨ib,io,none⟩) M.L.length ic0,.slice (some ⟨bb,bo,none⟩) M.L.length bc0,.slice (some ⟨lb,lo,none⟩) ll.length lc,.pointer (some ⟨cM',0,none⟩)],54⟩] wB := ⟨Upd.refl _ _,hqB0.own.2,hqB0.apart.2⟩
   have hcB := hqB0.own.at (.head _)
   have hofc : Off [⟨st,List.replicate M.L.length (Value.int .u32 0),25⟩,⟨cS,[.int .i64 t',.slice sa0 M.L.length sc0,.slice (some ⟨ib,io,none⟩) M.L.length ic0,.slice (some ⟨bb,bo,none⟩) M.L.length bc0,.slice (some ⟨lb,lo,none⟩) ll.length lc,.pointer (some ⟨cM',0,none⟩)],54⟩] c := hqB0.apart.1
   simp only at hcB
   have hlv2 : ∀ b,lv2.ownBlock = some b → Off [⟨st,List.replicate M.L.length (Value.int .u32 0),25⟩,⟨cS,[.int .i64 t',.slice sa0 M.L.length sc0,.slice (some ⟨ib,io,none⟩) M.L.length ic0,.slice (some ⟨bb,bo,none⟩) M.L.length bc0,.slice (some ⟨lb,lo,none⟩) ll.length lc,.pointer (some ⟨cM',0,none⟩)],54⟩] b := fun b hb => (oB b hb).elim (hlvo b) fun h => ⟨fun e => by simp only at e;omega,fun e => by simp only at e;omega,trivial⟩
   refine ⟨_,_,rfl,hqB,?_⟩
   apply Wl.nil
   refine Mt.backE (fun _ h' => have kk := hB1.upd h'.upd fun b hb y => y ((MonF.lv (M := (⟨.slice a1 M.L.length c1,.slice a2 M.L.length c2,.slice none 0 0,.slice none 0 0,0,[],L',t',(bxK ls M.L.length),[],0,ins',f',xz,0,cf'⟩ : Mv2)) hb).elim (hof2 b) (hlv2 b));⟨⟨kk.mm,kk.dd,h'.own.at (.tail _ (.head _)),h'.on hwB kb⟩,h'.upd.heap hcB fun y => y hofc⟩) ?_
   refine Mt.pu 16 ?_
   repeat' first | (apply Wl.on;exact rfl;exact rfl;exact ka) | (apply Wl.neqIs;exact rfl;exact rfl;exact rfl;exact kv) | apply Wl.nilB
   refine Mt.pu 17 ?_
   apply Wl.pickF;exact rfl;exact rfl;exact ka;exact rfl;apply Wl.nilB
   refine Mt.toGt kg ?_
   repeat' first | refine Wl.move rfl rfl ?_ | (refine Wl.addI rfl rfl rfl ?_ ?_;constructor <;> omega) | apply Wl.nil | apply St.region | (apply St.condF;exact rfl;exact ka) | apply St.skip | apply Gt.next | apply Gt.inNormal
   apply Gt.round (k + 1,wB,lv2)
   rotate_left
   ·simp only;omega
   ·exact ke
   ·exact fun _ h' => h'
   ·exact ⟨hkl,hB1,hlv2,fun h => (Nat.succ_ne_zero _ h).elim,hwB⟩
  ·obtain rfl : k = ll.length := by omega
   have hd2 : decide ((ll.length : Int) < (ll.length : Int)) = false := decide_eq_false ky
   rw [List.take_length] at hK
   repeat' first | refine Wl.move rfl rfl ?_ | refine Wl.assign rfl rfl ?_ | refine Wl.lss rfl rfl rfl ?_ | apply Wl.nil | apply St.seq | apply St.region | (apply St.condF;exact rfl;exact ka) | apply St.ret | apply St.exit | apply Gt.next | apply Gt.thenExit | apply Gt.inExit | (apply Gt.out2;exact rfl;exact rfl;exact rfl;intro w' hp)
   have hK' := hK.upd hp.upd fun b hb y => y ((MonF.lv (M := (⟨.slice a1 M.L.length c1,.slice a2 M.L.length c2,.slice none 0 0,.slice none 0 0,0,[],L',t',(bxK ls M.L.length),[],0,ins',f',xz,0,cf'⟩ : Mv2)) hb).elim (hof2 b) (hlvo b))
   exact .inl ⟨⟨hset0,fun i s hi hs => hok1.1 i s hi hs,hok1.2⟩,{I' with sa := sa'},_,rfl,hK',by rw [hpv,hev],hp.on hwk kb,fun h => hlv0 (by rw [h];rfl)⟩
theorem mStateZ (base : Nat) (I : Mi) (M : Mv2) (w : World) (hM : MonS w base I M) (hb : base ≤ w.heap.size) (hbx : ∀ i,M.bx i = []) (hll : M.ll.length ≤ 1000) :
  Calls Tryz.prog 20 #[.pointer (some ⟨I.m,0,none⟩)] w fun e w' => ∃ sv iv bv lv cM' vs,e = .returned (.agg #[.int .i64 (turnV M.t),sv,iv,bv,lv,.pointer (some ⟨cM',0,none⟩)]) ∧ StT w' w.heap.size M (fun _ => []) sv iv bv lv cM' vs ∧ w.heap.size ≤ cM' ∧ Upd (fun k => w.heap.size ≤ k) w w' :=
 (mStateL base I M (fun _ => []) w hM hb (fun i _ => ⟨hbx i,Nat.zero_le _⟩) hll).mono fun e w' h => by
  obtain ⟨sv,iv,bv,lv,cM,vs,h1,h2,h3,_,u⟩ := h
  exact ⟨sv,iv,bv,lv,cM,vs,h1,h2,h3,u.mono fun k _ h => h.elim (fun h => h.elim fun _ h => absurd rfl h.2) id⟩
theorem mWithZ (base : Nat) (I : Mi) (M : Mv2) (L' : List Sta) (t' : Int) (a1 a2 : Option Addr) (c1 c2 cM' : Nat) (sv iv bv lv : Value) (vs : List Value) (ins' : List (List UInt8)) (f' : Nat → Int) (w : World) (hM : MonS w base I M) (hb : base ≤ w.heap.size) (hpv : M.pv = .slice a1 M.L.length c1) (hev : M.ev = .slice a2 M.L.length c2)
  (hA : Sv w 35 M.L.length sv (stas L').flatten) (hl' : L'.length = M.L.length) (hok : ∀ x ∈ L',StaOk x ∧ StaV x) (ht : -1 ≤ t' ∧ t' < L'.length) (hany : anyR L' = decide (0 ≤ t')) (hr : ∀ x,0 ≤ t' → L'[t'.toNat]? = some x → x.s = 0)
  (hI : Sv w 1 M.L.length iv (ins'.map strV)) (hins : ∀ s ∈ ins',s.length ≤ 64) (hB : Sv w 1 M.L.length bv vs) (hBl : ∀ j,j < M.L.length → ∃ v,vs[j]? = some v ∧ Sv w 2 0 v []) (hL : Sv w 2 0 lv []) (hm' : memH w cM' f') :
  Calls Tryz.prog 29 #[.pointer (some ⟨I.m,0,none⟩),.agg #[.int .i64 t',sv,iv,bv,lv,.pointer (some ⟨cM',0,none⟩)]] w fun e w' => ∃ I' M',e = .returned (.tuple #[.pointer (some ⟨I'.m,0,none⟩),.int .i64 0]) ∧ MonS w' w.heap.size I' M' ∧ M' = ⟨M.pv,M.ev,.slice none 0 0,.slice none 0 0,0,[],L',t',fun _ => [],[],0,ins',f',xz,0,M'.cf⟩ ∧ Upd (fun k => w.heap.size ≤ k) w w' := by
 refine (mWithL base I M L' t' a1 a2 c1 c2 cM' sv iv bv lv vs ins' (fun _ => []) [] f' w hM hb hpv hev hA hl' (fun x hx => (hok x hx).1) (.inl ⟨hok,ht,hany,hr⟩) hI (fun s hs => by have := hins s hs;omega) hB hBl (fun j _ => ⟨Nat.zero_le _,fun x hx => by cases hx⟩) hL (fun x hx => by cases hx) ze ze hm').mono ?_
 rintro e w' (⟨_,I',M',h1,h2,h3,h4,h5⟩ | ⟨h,_⟩)
 ·exact ⟨I',M',h1,h2,h3.trans (by
   have : bxK (fun _ => []) M.L.length = fun _ => [] := funext fun j => by unfold bxK;split <;> rfl
   rw [this,h5 rfl];rfl),h4⟩
 ·exact (h ⟨hok,ht,hany,hr⟩ (fun i s _ hs => hins s (List.mem_of_getElem? hs)) fun j _ => ⟨Nat.zero_le _,fun x hx => by cases hx⟩).elim
theorem and255 (x : Int) : 0 ≤ bits .and .i64 x 255 ∧ bits .and .i64 x 255 < 256 := by
 have e : bits .and .i64 x 255 = IntKind.i64.wrap (((BitVec.ofInt 64 x) &&& (BitVec.ofInt 64 255)).toNat : Int) := rfl
 have h : ((BitVec.ofInt 64 x) &&& (BitVec.ofInt 64 255)).toNat ≤ 255 := by
  rw [BitVec.toNat_and,show (BitVec.ofInt 64 255).toNat = 255 from rfl]
  exact Nat.and_le_right
 rw [e,IntKind.wrap_i64]
 omega
theorem caF_rng (l : List LoadD) (i j : Nat) : 0 ≤ caF l i j ∧ caF l i j < 256 := by
 unfold caF
 split
 ·exact and255 _
 ·exact ⟨by decide,by decide⟩
theorem at8192 (i : Nat) : (biasI i + 4096 - 2147483648).toNat = 8192 + 12288 * i := by unfold biasI;omega
theorem payX_at (i g : Nat) (ca : Int) : (payX i g ca)[33]? = some (.int .u32 (biasI i)) ∧ (payX i g ca)[34]? = some (.slice (some ⟨g,0,none⟩) 3 3) ∧ (payX i g ca)[35]? = some (.int .i64 ca) := by
 have h : (byteCells (dgL i)).length = 32 := by rw [byteCells_length,dgL_len]
 unfold payX
 refine ⟨?_,?_,?_⟩ <;> (rw [List.getElem?_append_right ky,h];rfl)
theorem payRs_len (gs : Nat → Nat) (ca : Nat → Int) (n : Nat) : ∀ x ∈ payRs gs ca n,x.length = 36 := by
 intro x hx
 unfold payRs at hx
 obtain ⟨j,_,rfl⟩ := List.mem_map.1 hx
 exact payX_len _ _ _
theorem payRs_at (gs : Nat → Nat) (ca : Nat → Int) {n j : Nat} (h : j < n) : (payRs gs ca n)[j]? = some (payX j (gs j) (ca j)) := by simp [payRs,h]
theorem payRs_set (gs : Nat → Nat) (ca ca' : Nat → Int) {n i : Nat} (h : i < n) (h' : ∀ j,j ≠ i → ca j = ca' j) : (payRs gs ca n).set i ((payX i (gs i) (ca i)).set 35 (.int .i64 (ca' i))) = payRs gs ca' n := by
 refine List.ext_getElem? fun q => ?_
 rw [List.getElem?_set]
 by_cases e : i = q
 ·subst e
  rw [if_pos rfl,if_pos (by simp [payRs];exact h),payRs_at _ _ h]
  unfold payX
  rw [List.set_append_right _ _ (by rw [byteCells_length,dgL_len];omega),byteCells_length,dgL_len]
  rfl
 ·rw [if_neg e]
  by_cases hq : q < n
  ·rw [payRs_at _ _ hq,payRs_at _ _ hq,h' q (fun e' => e e'.symm)]
  ·rw [List.getElem?_eq_none (by simp [payRs];omega),List.getElem?_eq_none (by simp [payRs];omega)]
section
variable {w w0 w' : World} {n i pb cM rb rm rn : Nat} {J : List Value} {gs eb ec : Nat → Nat} {ca : Nat → Int} {f : Nat → Int} {v6 v7 : Value}
theorem BegS.at (k : BegS w w0 n i pb J gs ca cM rb rm rn f v6 v7 eb ec) {j : Nat} (hj : j < n) : w0.cell? ⟨pb,0 + (j : Int).toNat * 36 + 33,none⟩ = some (.int .u32 (biasI j)) ∧ w0.cell? ⟨pb,0 + (j : Int).toNat * 36 + 34,none⟩ = some (.slice (some ⟨gs j,0,none⟩) 3 3) := by
 obtain ⟨h1,h2,h3⟩ := payX_at j (gs j) (ca j)
 have key : ∀ q v,q < 36 → (payX j (gs j) (ca j))[q]? = some v → w0.cell? ⟨pb,0 + (j : Int).toNat * 36 + q,none⟩ = some v := fun q v hq hv => by
  have hf := flat_get (payRs_len gs ca n) (payRs_at gs ca hj) hq
  rw [hv] at hf
  refine cell_of k.pay ?_
  rw [Int.toNat_natCast,Nat.zero_add,List.getElem?_append_left (List.getElem?_eq_some_iff.1 hf).1]
  exact hf
 exact ⟨key _ _ ze h1,key _ _ ze h2⟩
theorem BegS.size (k : BegS w w0 n i pb J gs ca cM rb rm rn f v6 v7 eb ec) : w.heap.size ≤ w0.heap.size := k.up.size
end
def regsF (xs : List Value) : List (Int × Int) → Nat → List Value
 | _,0 => xs
 | l,k + 1 => if 0 < bits .and .u32 (l.getD k (0,0)).1 31 then (regsF xs l k).set (bits .and .u32 (l.getD k (0,0)).1 31).toNat (.int .u32 (l.getD k (0,0)).2) else regsF xs l k
def ldD (l : List LoadD) (j : Nat) : LoadD := l.getD j ⟨[],[],0,[]⟩
def staB (l : List LoadD) (j : Nat) : Sta := ⟨0,0,biasI j,regsF xz (ldD l j).regs (ldD l j).regs.length⟩
theorem regsF_rg {xs : List Value} (h : Rg xs) (l : List (Int × Int)) (hl : ∀ x ∈ l,0 ≤ x.2 ∧ x.2 < 4294967296) : ∀ k,Rg (regsF xs l k)
 | 0 => h
 | k + 1 => by
  unfold regsF
  split
  ·refine (regsF_rg h l hl k).st ?_
   rw [List.getD_eq_getElem?_getD]
   cases e : l[k]? with
   | none => exact ⟨by decide,by decide⟩
   | some x => exact hl x (List.mem_of_getElem? e)
  ·exact regsF_rg h l hl k
theorem regsF_0 {xs : List Value} {v : Value} (h : xs[0]? = some v) (l : List (Int × Int)) : ∀ k,(regsF xs l k)[0]? = some v
 | 0 => h
 | k + 1 => by
  unfold regsF
  split
  ·rename_i hb
   rw [List.getElem?_set,if_neg ky]
   exact regsF_0 h l k
  ·exact regsF_0 h l k
def staL (l : List LoadD) (j k : Nat) : List Sta := (List.range l.length).map fun q => ⟨0,0,biasI q,if q < j then regsF xz (ldD l q).regs (ldD l q).regs.length else if q = j then regsF xz (ldD l q).regs k else xz⟩
theorem staL_len (l : List LoadD) (j k : Nat) : (staL l j k).length = l.length := by simp [staL]
theorem staL_0 (l : List LoadD) : staL l 0 0 = newL biasI l.length := by
 unfold staL newL
 refine List.map_congr_left fun q hq => ?_
 rw [if_neg ky]
 split <;> rfl
theorem staL_next (l : List LoadD) (j : Nat) : staL l j (ldD l j).regs.length = staL l (j + 1) 0 := by
 unfold staL
 refine List.map_congr_left fun q hq => ?_
 by_cases h : q < j
 ·rw [if_pos h,if_pos ky]
 ·by_cases e : q = j
  ·subst e;rw [if_neg h,if_pos rfl,if_pos ky]
  ·rw [if_neg h,if_neg e,if_neg ky]
   split <;> rfl
theorem staL_end (l : List LoadD) : staL l l.length 0 = (List.range l.length).map (staB l) := by
 unfold staL
 refine List.map_congr_left fun q hq => ?_
 rw [if_pos (List.mem_range.1 hq)]
 rfl
theorem staL_at (l : List LoadD) {j k q : Nat} (h : q < l.length) : (staL l j k)[q]? = some ⟨0,0,biasI q,if q < j then regsF xz (ldD l q).regs (ldD l q).regs.length else if q = j then regsF xz (ldD l q).regs k else xz⟩ := by simp [staL,h]
theorem staL_set (l : List LoadD) {j k : Nat} (hj : j < l.length) : (stas (staL l j k)).set j (Sta.cells ⟨0,0,biasI j,regsF xz (ldD l j).regs (k + 1)⟩) = stas (staL l j (k + 1)) := by
 unfold stas
 rw [← List.map_set]
 refine congrArg (List.map Sta.cells) (List.ext_getElem? fun q => ?_)
 rw [List.getElem?_set]
 by_cases e : j = q
 ·subst e
  rw [if_pos rfl,if_pos (by rw [staL_len];exact hj),staL_at l hj,if_neg ky,if_pos rfl]
 ·rw [if_neg e]
  by_cases hq : q < l.length
  ·rw [staL_at l hq,staL_at l hq]
   by_cases h : q < j
   ·rw [if_pos h,if_pos h]
   ·rw [if_neg h,if_neg (fun e' => e e'.symm),if_neg h,if_neg (fun e' => e e'.symm)]
  ·rw [List.getElem?_eq_none (by rw [staL_len];omega),List.getElem?_eq_none (by rw [staL_len];omega)]
def begP (l : List LoadD) : PS := ⟨(List.range l.length).map (staB l),0,⟨loadF l l.length,fun _ => [],[],0,List.replicate l.length []⟩⟩
def begE (l : List LoadD) : Pays := ⟨dgL,fun _ => 0,biasI,caF l l.length,fun _ => 3,fun i => gr3 (biasI i),fun _ => 4,fun i => en4 (biasI i)⟩
def EnvF (lo : Nat) (w : World) (base n : Nat) (pv ev : Value) (E : Pays) : Prop := ∀ (S : Nat → Prop) (w' : World),Upd S w w' → (∀ b,lo ≤ b → b < base → ¬ S b) → ¬ S 0 → EnvS w' base n pv ev E
structure BegT where
 (i : Nat) (w0 : World) (rn : Nat) (v6 v7 : Value) (eb ec : Nat → Nat)
theorem begin26F (a : Option Addr) (n cl : Nat) (l : List LoadD) (w : World) (hl : l.length = n) (hn : 1 ≤ n ∧ n ≤ 3) (hL : LoadsF w a l) (hT : tabOk w) :
  Calls Tryz.prog 15 #[.slice a n cl] w fun e w' => ∃ p base I pv ev cf rv,e = .returned (.pointer (some ⟨p,0,none⟩)) ∧ w'.heap[p]? = some (.cells #[.pointer (some ⟨I.m,0,none⟩),rv] 39 (0,0)) ∧ MonS w' base I ((begP l).mv pv ev (.slice none 0 0) (.slice none 0 0) [] xz 0 cf) ∧
   EnvF w.heap.size w' base n pv ev (begE l) ∧ (w.heap.size ≤ base ∧ base ≤ w'.heap.size) ∧ w.heap.size ≤ p ∧ Upd (fun k => w.heap.size ≤ k) w w' := by
 have hT0 := hT.lt
 have hst0 := caF
 refine enter (args := [_]) (Γ := [(0,_)]) Tryz.func15 Tryz.ntmps15 rfl odq (.cons rfl .nil) ?_
 repeat' first | refine Wl.move rfl rfl ?_ | refine Wl.assign rfl rfl ?_ | refine Wl.len rfl rfl ?_ | apply Wl.nil | apply St.seq | apply St.region | apply Gt.next
 apply Wl.callC
 ·exact rfl
 ·exact ke
 intro wq hq
 have zq := hq.upd.size
 refine (payloads n ky wq).mono ?_
 rintro e w1 ⟨v,gs,rfl,hrow,hgr,u1⟩
 obtain ⟨pb,pcap,J,rfl,hpb,hblk⟩ := hrow.blk ky
 have U1 : Upd (fun k => w.heap.size ≤ k) w w1 := (hq.upd.mono fun _ _ y => (y trivial).elim).comp u1 fun k _ hs => hs.elim id fun h => Nat.le_trans zq h
 have z1 := U1.size
 refine ⟨_,_,rfl,Hp.start w1,?_⟩
 clear hq
 repeat' first | refine Wl.assign rfl rfl ?_ | apply Wl.nil | apply St.seq | apply St.region | apply Gt.next
 apply Wl.callC
 ·exact rfl
 ·exact ke
 intro wr hr
 have zr := hr.upd.size
 refine (newMem wr).mono ?_
 rintro e w2 ⟨cM,rfl,hM2,hcM⟩
 have u2 : Upd (fun k => w1.heap.size ≤ k) w1 w2 := Hp.on1 hM2 (hr.upd.mono fun _ _ y => (y trivial).elim) q7
 have z2 := u2.size
 have m2 : memH w2 cM fun _ => 0 := hM2.own.at (.head _)
 refine ⟨_,_,rfl,Hp.start w2,?_⟩
 clear hr
 apply Wl.callC
 ·exact rfl
 ·exact ke
 intro wr hr
 have zr2 := hr.upd.size
 refine (ramNew wr).mono ?_
 rintro e w3 ⟨rb,rm,rfl,hR3,hrm,hrb,u3'⟩
 have u3 : Upd (fun k => w2.heap.size ≤ k) w2 w3 := (hr.upd.mono fun _ _ y => (y trivial).elim).comp u3' fun k _ hs => hs.elim id fun h => Nat.le_trans zr2 h
 have lm2 := lt_of_block m2
 have lpb := lt_of_block hblk
 have v3 : Upd (fun k => w1.heap.size ≤ k) w1 w3 := u2.comp u3 fun k _ hs => hs.elim id fun h => Nat.le_trans z2 h
 have B3 : BegS w w3 n 0 pb J gs (caF l 0) cM rb rm 0 (loadF l 0) (.slice none 0 0) (.slice none 0 0) (fun _ => 0) (fun _ => 0) := {
  pay := v3.heap hblk ky
  gr := fun j hj => ⟨by have := (hgr j hj).1;omega,v3.heap (hgr j hj).2 (by have := lt_of_block (hgr j hj).2;omega)⟩
  mem := u3.heap m2 ky
  ram := hR3
  ent := World.ownsRow_nil _ _ _ _
  enx := fun j hj => by cases hj
  st := World.ownsRow_nil _ _ _ _
  up := U1.comp v3 fun k _ hs => hs.elim id fun h => Nat.le_trans z1 h
  ge := ⟨by omega,by omega,by omega,by omega⟩ }
 refine ⟨_,_,rfl,Hp.start w3,?_⟩
 clear hr u1 u2 u3 u3' v3 hM2 m2 hR3 hgr hrow hblk U1
 repeat' first | refine Wl.move rfl rfl ?_ | refine Wl.assign rfl rfl ?_ | refine Wl.len rfl rfl ?_ | apply Wl.nil | apply St.seq | apply St.block | apply St.region | apply Gt.next
 refine St.loop (σ := BegT) (fun τ => τ.i ≤ n ∧ τ.rn ≤ 20000 * τ.i ∧ BegS w τ.w0 n τ.i pb J gs (caF l τ.i) cM rb rm τ.rn (loadF l τ.i) τ.v6 τ.v7 τ.eb τ.ec)
  (fun τ => [(0,.slice a n cl),(3,.slice (some ⟨pb,0,none⟩) n pcap),(4,.pointer (some ⟨cM,0,none⟩)),(5,.pointer (some ⟨rb,0,none⟩)),(6,τ.v6),(7,τ.v7),(27,.slice a n cl),(28,.int .i64 (n : Int)),(29,.int .i64 (τ.i : Int))])
  (fun τ => Hp τ.w0 []) (fun τ => n - τ.i) ⟨0,w3,0,.slice none 0 0,.slice none 0 0,fun _ => 0,fun _ => 0⟩ ⟨Nat.zero_le _,Nat.zero_le _,B3⟩ kw (fun _ h => h) ?_
 clear B3
 rintro ⟨i,w0,rn,v6,v7,eb,ec⟩ ⟨hi,hrn,B0⟩
 simp only at hi hrn B0 ⊢
 have s0 := B0.size
 by_cases hlt : i < n
 ·have hd : decide ((i : Int) < (n : Int)) = true := decide_eq_true ky
  obtain ⟨x,hx⟩ : ∃ x,l[i]? = some x := ⟨_,List.getElem?_eq_getElem ky⟩
  have hgx : l.getD i ⟨[],[],0,[]⟩ = x := by rw [List.getD_eq_getElem?_getD,hx];rfl
  obtain ⟨lb,lo,rfl,v0,v1,v3,hcell,hV⟩ := hL i x hx
  have hlb : lb < w.heap.size := cell_old (hcell 0 _ rfl)
  have hcell' : ∀ q v,(loadC v0 v1 v3 x)[q]? = some v → w0.cell? ⟨lb,lo + (i : Int).toNat * 4 + q,none⟩ = some v := fun q v hq => by rw [Int.toNat_natCast];exact B0.up.cell (hcell q v hq) (Nat.not_le.2 hlb)
  have hV0 := hV.upd B0.up (fun k hk => Nat.not_le.2 hk)
  obtain ⟨ca,cc,rfl,hcw⟩ := hV.code
  have ho1 : v1.oneCell' = true := by obtain ⟨va,vc,rfl,_⟩ := hV.data.shape;rfl
  have ho3 : v3.oneCell' = true := by obtain ⟨va,vc,rfl,_⟩ := hV.regs;rfl
  have hlo : (loadC (.slice ca x.code.length cc) v1 v3 x).all Value.oneCell' = true := by show (true && (v1.oneCell' && (true && (v3.oneCell' && true)))) = true;rw [ho1,ho3];rfl
  obtain ⟨hxl1,hxl2,hxl3⟩ := hV.len
  have hpb0 := (B0.lt pb (.inl rfl))
  have hpx : (payRs gs (caF l i) n)[i]? = some (payX i (gs i) (caF l i i)) := payRs_at gs _ hlt
  have hca : caF l (i + 1) i = bits .and .i64 x.calls 255 := by unfold caF;rw [if_pos (Nat.lt_succ_self i),hgx]
  have hset : LSet ((payRs gs (caF l i) n).flatten ++ J) (0 + (i : Int).toNat * 36 + 35) (.int .i64 (bits .and .i64 x.calls 255)) ((payRs gs (caF l (i + 1)) n).flatten ++ J) := by
   rw [Int.toNat_natCast,Nat.zero_add,← hca,← payRs_set gs (caF l i) (caF l (i + 1)) hlt (fun j hj => by unfold caF;by_cases h : j < i;rw [if_pos h,if_pos ky];rw [if_neg h,if_neg ky])]
   exact LSet.flat (payRs_len _ _ _) hpx ze
  refine St.cls (fun _ h' => Hp.open h' B0.pay trivial) ?_
  repeat' first | (apply Wl.store;exact rfl;exact rfl;exact rfl;exact ke;exact hset) | (apply Wl.loadAB (xs := loadC (.slice ca x.code.length cc) v1 v3 x);exact rfl;exact rfl;(intro j v hj;exact hcell' j v hj);exact kh;exact rfl) | (apply Wl.storeA (xs := loadC (.slice ca x.code.length cc) v1 v3 x);exact rfl;exact rfl;exact rfl;exact hlo;exact ke;exact .z (LOver.whole rfl)) | refine Wl.move rfl rfl ?_ | refine Wl.assign rfl rfl ?_ | refine Wl.fieldAddr0 rfl rfl ?_ | refine Wl.fieldAddrZ rfl rfl ?_ | refine Wl.fieldAddr rfl rfl ?_ | (apply Wl.loadH;exact rfl;exact rfl;exact ke;exact rfl) | refine Wl.lss rfl rfl rfl ?_ | refine Wl.and rfl rfl rfl ?_ | refine Wl.len rfl rfl ?_ | (apply Wl.alloc;exact rfl;intro c hc ho) | (refine Wl.indexAddr rfl rfl rfl ?_ ?_;constructor <;> omega) | apply Wl.nil | apply St.seq | apply St.block | apply St.region | (apply St.condT;exact rfl;exact ka) | apply St.skip | apply Gt.next
  generalize c = c9 at *
  have hc9 : w0.heap.size ≤ c9 := by assumption
  refine St.reb (H' := [⟨c9,loadC (.slice ca x.code.length cc) v1 v3 x,30⟩]) fun w4 h4 => ⟨⟨h4.own.at (.head _),trivial⟩,⟨trivial,trivial⟩,?_⟩
  have u4 := Hp.on2 (S := fun b => b = pb ∨ w0.heap.size ≤ b) h4 (Upd.refl _ _) (.inr hc9) (.inl rfl)
  have B4 := B0.pay' (h4.own.at (.tail _ (.head _))) u4
  have z4 := u4.size
  have hlc : c9 < w4.heap.size := lt_of_block (h4.own.at (.head _))
  have hv6l : ∀ k,v6.ownBlock = some k → k < w0.heap.size := fun k hk => (B0.ent.ge k hk).2
  have hv7l : ∀ k,v7.ownBlock = some k → k < w0.heap.size := fun k hk => (B0.st.ge k hk).2
  have hi3 : i < 3 := by omega
  refine St.loop (σ := Nat × World × Nat) (fun τ => τ.1 ≤ x.code.length ∧ τ.2.2 ≤ rn + 8 * τ.1 ∧ BegS w τ.2.1 n i pb J gs (caF l (i + 1)) cM rb rm τ.2.2 (codeF (loadF l i) (4096 + 12288 * i) x.code τ.1) v6 v7 eb ec ∧ w4.heap.size ≤ τ.2.1.heap.size ∧ τ.2.1.heap[c9]? = some (.cells (loadC (.slice ca x.code.length cc) v1 v3 x).toArray 30 (0,0)))
   (fun τ => [(0,.slice (some ⟨lb,lo,none⟩) n cl),(3,.slice (some ⟨pb,0,none⟩) n pcap),(4,.pointer (some ⟨cM,0,none⟩)),(5,.pointer (some ⟨rb,0,none⟩)),(6,v6),(7,v7),(8,.int .i64 (i : Int)),(9,.pointer (some ⟨c9,0,none⟩)),(27,.slice (some ⟨lb,lo,none⟩) n cl),(28,.int .i64 (n : Int)),(29,.int .i64 (i : Int)),(42,.slice ca x.code.length cc),(43,.int .i64 (x.code.length : Int)),(44,.int .i64 (τ.1 : Int))]) (fun τ => Hp τ.2.1 [⟨c9,loadC (.slice ca x.code.length cc) v1 v3 x,30⟩]) (fun τ => x.code.length - τ.1) (0,w4,rn) ⟨Nat.zero_le _,Nat.le_refl _,B4,Nat.le_refl _,h4.own.at (.head _)⟩ kw (fun _ h => h) ?_
  clear B4 h4 u4 hset hpx
  rintro ⟨k,w5,rn5⟩ ⟨hk,hrn5,B5,z45,h95⟩
  simp only at hk hrn5 B5 z45 h95 ⊢
  have o95 := B5.off h95 ze
  have s5 := B5.size
  have mv5 : ∀ {w' : World},Hp w5 [⟨c9,loadC (.slice ca x.code.length cc) v1 v3 x,30⟩] w' → BegS w w' n i pb J gs (caF l (i + 1)) cM rb rm rn5 (codeF (loadF l i) (4096 + 12288 * i) x.code k) v6 v7 eb ec := fun h' => B5.upd (Hp.on1 h' (Upd.refl (fun b => b = c9) _) rfl) (fun b hb e => o95 b hb e) fun b hb e => by omega
  have lM5 := B5.lt cM (.inr (.inr (.inl rfl)))
  have nM9 : cM ≠ c9 := o95 cM (.inr (.inr (.inl rfl)))
  have np9 : pb ≠ c9 := o95 pb (.inl rfl)
  have nr9 : rm ≠ c9 := o95 rm (.inr (.inr (.inr (.inr (.inl rfl)))))
  obtain ⟨pa1,pa2⟩ := B5.at hlt
  by_cases hkl : k < x.code.length
  ·have hdk : decide ((k : Int) < (x.code.length : Int)) = true := decide_eq_true ky
   obtain ⟨wo,hwo⟩ : ∃ wo,x.code[k]? = some wo := ⟨_,List.getElem?_eq_getElem hkl⟩
   obtain ⟨cb,co,rfl,hc5,hwr⟩ := hcw k wo hwo
   have hcb : cb < w.heap.size := cell_old hc5
   have hcc5 : w5.cell? ⟨cb,co + (k : Int).toNat,none⟩ = some (.int .u32 wo) := by rw [Int.toNat_natCast];exact B5.up.cell hc5 (Nat.not_le.2 hcb)
   have hat : IntKind.u32.wrap (biasI i + 4 * (k : Int)) = biasI i + 4 * k := by rw [IntKind.wrap_u32];unfold biasI;omega
   have hbi : biasI i = 2147487744 + 12288 * (i : Int) := rfl
   repeat' first | (apply Wl.loadO;exact rfl;exact rfl;exact zw;exact kh) | refine Wl.move rfl rfl ?_ | refine Wl.assign rfl rfl ?_ | refine Wl.fieldAddr rfl rfl ?_ | refine Wl.lss rfl rfl rfl ?_ | (refine Wl.mulI rfl rfl rfl ?_ ?_;constructor <;> omega) | refine Wl.add rfl rfl rfl ?_ | (refine Wl.convU32 rfl rfl ?_ ?_;constructor <;> omega) | (refine Wl.indexAddr1 rfl rfl rfl ?_ ?_;constructor <;> omega) | (refine Wl.indexAddr rfl rfl rfl ?_ ?_;constructor <;> omega) | apply Wl.nil | apply St.seq | apply St.block | apply St.region | (apply St.condT;exact rfl;exact ka) | apply St.skip | apply Gt.next
   apply Wl.callC
   ·exact rfl
   ·exact ke
   intro wq hq
   refine (mstore cM _ 4 wo _ wq (by rw [hat];constructor <;> omega) (.inr (.inr rfl)) (mv5 hq).mem).mono ?_
   rintro e w6 ⟨⟨z,rfl⟩,hp6⟩
   have u6 := Hp.turned hp6
   have m6 := hp6.own.at (.head _)
   rw [hat,if_pos j0,show (biasI i + 4 * (k : Int) - 2147483648).toNat = 4096 + 12288 * i + 4 * k by omega,show Int.toNat 4 = 4 from rfl] at m6
   have B6 : BegS w w6 n i pb J gs (caF l (i + 1)) cM rb rm rn5 (codeF (loadF l i) (4096 + 12288 * i) x.code (k + 1)) v6 v7 eb ec := by
    refine (mv5 hq).mem' ?_ u6
    unfold codeF
    rw [show x.code.getD k 0 = wo by rw [List.getD_eq_getElem?_getD,hwo];rfl]
    exact m6
   have hq6 := Hp.restD hq u6 kb
   have z6 := u6.size
   have zq6 := hq.upd.size
   obtain ⟨pb1,pb2⟩ := B6.at hlt
   refine ⟨_,_,rfl,hq6,?_⟩
   repeat' first | (apply Wl.loadO;exact rfl;exact rfl;exact zw;exact kh) | refine Wl.move rfl rfl ?_ | refine Wl.fieldAddr rfl rfl ?_ | (refine Wl.addI rfl rfl rfl ?_ ?_;constructor <;> omega) | (refine Wl.mulI rfl rfl rfl ?_ ?_;constructor <;> omega) | (refine Wl.convI64 rfl rfl ?_ ?_;constructor <;> omega) | (refine Wl.indexAddr rfl rfl rfl ?_ ?_;constructor <;> omega) | apply Wl.nil | apply St.region | apply Gt.next
   apply Wl.callC
   ·exact rfl
   ·exact ke
   intro wr hr
   have h96 := hq6.own.at (.head _)
   have o96 := B6.off (t := 30) h96 ze
   have B6r := B6.upd (Hp.on1 hr (Upd.refl (fun b => b = c9) _) rfl) (fun b hb e => o96 b hb e) fun b hb e => by omega
   refine (ramStore rb rm rn5 _ _ wr B6r.ram ky j0).mono ?_
   rintro e w7 ⟨⟨z2,rfl⟩,hR7,u7⟩
   have B7 := B6r.ram' hR7 u7
   have hl9r := hr.own.lt (.head _)
   have hq7 := Hp.restD hr u7 (by simp only [List.mem_cons,List.not_mem_nil,or_false,forall_eq_or_imp,forall_eq];simp only at hl9r;omega)
   have z7 := u7.size
   have zr7 := hr.upd.size
   refine ⟨_,_,rfl,hq7,?_⟩
   repeat' first | refine Wl.move rfl rfl ?_ | (refine Wl.addI rfl rfl rfl ?_ ?_;constructor <;> omega) | apply Wl.nil | apply St.region | apply Gt.next | apply Gt.inNormal
   refine Gt.reb (H' := [⟨c9,loadC (.slice (some ⟨cb,co,none⟩) x.code.length cc) v1 v3 x,30⟩]) fun w8 h8 => ⟨⟨h8.own.at (.head _),trivial⟩,⟨trivial,trivial⟩,?_⟩
   have h97 := hq7.own.at (.head _)
   have o97 := B7.off (t := 30) h97 ze
   refine Gt.round (k + 1,w8,rn5 + 8) ⟨by simp only;omega,by simp only;omega,B7.upd (Hp.on1 h8 (Upd.refl (fun b => b = c9) _) rfl) (fun b hb e => o97 b hb e) (fun b hb e => by omega),by have := h8.upd.size;simp only;omega,h8.own.at (.head _)⟩ q7 kw (fun _ h => h)
  obtain rfl : k = x.code.length := by omega
  have hdk : decide ((x.code.length : Int) < (x.code.length : Int)) = false := decide_eq_false ky
  have hbi : biasI i = 2147487744 + 12288 * (i : Int) := rfl
  repeat' first | refine Wl.lss rfl rfl rfl ?_ | apply Wl.nil | apply St.seq | apply St.region | (apply St.condF;exact rfl;exact ka) | apply St.exit | apply Gt.next | apply Gt.thenExit | apply Gt.inExit
  have hat2 : IntKind.u32.wrap (biasI i + 4096) = biasI i + 4096 := by rw [IntKind.wrap_u32];omega
  have hdl : ∀ wz : World,Upd (fun k => w.heap.size ≤ k) w wz → Bs wz v1 x.data := fun wz u => hV.data.upd u fun k _ hk _ h => by omega
  refine St.tree (fun w' => w'.cell? ⟨pb,0 + (i : Int).toNat * 36 + 33,none⟩ = some (.int .u32 (biasI i)) ∧ w'.heap[c9]? = some (.cells (loadC (.slice ca x.code.length cc) v1 v3 x).toArray 30 (0,0))) mixed (fun _ h' => ⟨Hp.drew h',((mv5 (Hp.drew h')).at hlt).1,(Hp.drew h').own.at (.head _)⟩) ?_
  refine Mt.pm 0 ?_
  refine Mt.pm 1 ?_
  refine Mt.pm 2 ?_
  refine Mt.pz 7 ?_
  refine Mt.pu 3 ?_
  refine Wl.indexAddr rfl rfl rfl ?_ ?_;constructor <;> omega;apply Wl.nilB
  refine Mt.pu 8 ?_
  apply Wl.loadF;exact rfl;exact rfl;(intro w' h';first | exact h'.1 | exact cell_of h'.2 rfl);apply Wl.nilB
  refine Mt.pu 4 ?_
  refine Wl.fieldAddr rfl rfl (Wl.nilB ?_)
  refine Mt.pu 5 ?_
  apply Wl.loadF;exact rfl;exact rfl;(intro w' h';first | exact h'.1 | exact cell_of h'.2 rfl);apply Wl.nilB
  refine Mt.pu 6 ?_
  refine Wl.add rfl rfl rfl (Wl.nilB ?_)
  refine Mt.e1 9 ?_
  apply Wl.callC
  ·exact rfl
  ·exact ke
  intro wq hq
  have zq6 := hq.upd.size
  have hlq := hq.own.lt (.head _)
  simp only at hlq
  rw [hat2]
  refine (mputX1 cM _ (biasI i + 4096) v1 x.data wq (mv5 hq).mem (hdl wq (mv5 hq).up) (fun k hk hne e => by have := hV.dlt k hk hne;omega) j0 j0 ky).mono ?_
  rintro e w6 ⟨rfl,m6,u6⟩
  rw [at8192] at m6
  have B6 : BegS w w6 n i pb J gs (caF l (i + 1)) cM rb rm rn5 (loadF l (i + 1)) v6 v7 eb ec := by
   refine (mv5 hq).mem' ?_ u6
   unfold loadF
   rw [hgx]
   exact m6
  have hq6 := Hp.restD hq u6 kb
  have z6 := u6.size
  have h96 := hq6.own.at (.head _)
  have o96 := B6.off (t := 30) h96 ze
  have mv6 : ∀ {w' : World},Hp w6 [⟨c9,loadC (.slice ca x.code.length cc) v1 v3 x,30⟩] w' → BegS w w' n i pb J gs (caF l (i + 1)) cM rb rm rn5 (loadF l (i + 1)) v6 v7 eb ec := fun h' => B6.upd (Hp.on1 h' (Upd.refl (fun b => b = c9) _) rfl) (fun b hb e => o96 b hb e) fun b hb e => by omega
  refine ⟨_,_,rfl,hq6,?_⟩
  apply Wl.nil
  refine Mt.backE (fun _ h' => ⟨((mv6 h').at hlt).1,h'.own.at (.head _)⟩) ?_
  refine Mt.toGt kg ?_
  repeat' first | apply St.seq | apply Gt.next
  refine St.tree (fun w' => w'.cell? ⟨pb,0 + (i : Int).toNat * 36 + 33,none⟩ = some (.int .u32 (biasI i)) ∧ w'.heap[c9]? = some (.cells (loadC (.slice ca x.code.length cc) v1 v3 x).toArray 30 (0,0))) mixed (fun _ h' => ⟨Hp.drew h',((mv6 (Hp.drew h')).at hlt).1,(Hp.drew h').own.at (.head _)⟩) ?_
  refine Mt.pm 0 ?_
  refine Mt.pm 1 ?_
  refine Mt.pm 2 ?_
  refine Mt.pz 8 ?_
  refine Mt.pu 3 ?_
  refine Wl.indexAddr rfl rfl rfl ?_ ?_;constructor <;> omega;apply Wl.nilB
  refine Mt.pu 9 ?_
  apply Wl.loadF;exact rfl;exact rfl;(intro w' h';first | exact h'.1 | exact cell_of h'.2 rfl);apply Wl.nilB
  refine Mt.pu 4 ?_
  refine Wl.fieldAddr rfl rfl (Wl.nilB ?_)
  refine Mt.pu 5 ?_
  apply Wl.loadF;exact rfl;exact rfl;(intro w' h';first | exact h'.1 | exact cell_of h'.2 rfl);apply Wl.nilB
  refine Mt.pu 6 ?_
  refine Wl.convI64 rfl rfl ?_ ?_;constructor <;> omega;apply Wl.nilB
  refine Mt.pu 7 ?_
  refine Wl.addI rfl rfl rfl ?_ ?_;constructor <;> omega;apply Wl.nilB
  refine Mt.e1 10 ?_
  apply Wl.callC
  ·exact rfl
  ·exact ke
  intro wr hr
  have zr7 := hr.upd.size
  have hlr := hr.own.lt (.head _)
  simp only at hlr
  refine (ramPutG rb rm rn5 _ v1 x.data wr (mv6 hr).ram ky ky j0 (hdl wr (mv6 hr).up) (fun k hk hne e => by have := hV.dlt k hk hne;have := (mv6 hr).ge.2.2.2;omega)).mono ?_
  rintro e w7 ⟨⟨z2,rfl⟩,hR7,u7⟩
  have B7 := (mv6 hr).ram' hR7 (u7.mono fun b _ h => .inl h)
  have hnr : rm ≠ c9 := o96 rm (.inr (.inr (.inr (.inr (.inl rfl)))))
  have hq7 := Hp.restD hr u7 (by simp only [List.mem_cons,List.not_mem_nil,or_false,forall_eq_or_imp,forall_eq];exact fun e => hnr e.symm)
  have z7 := u7.size
  have h97 := hq7.own.at (.head _)
  have o97 := B7.off (t := 30) h97 ze
  have mv7 : ∀ {w' : World},Hp w7 [⟨c9,loadC (.slice ca x.code.length cc) v1 v3 x,30⟩] w' → BegS w w' n i pb J gs (caF l (i + 1)) cM rb rm (rn5 + x.data.length) (loadF l (i + 1)) v6 v7 eb ec := fun h' => B7.upd (Hp.on1 h' (Upd.refl (fun b => b = c9) _) rfl) (fun b hb e => o97 b hb e) fun b hb e => by omega
  refine ⟨_,_,rfl,hq7,?_⟩
  apply Wl.nil
  refine Mt.backE (fun _ h' => ⟨((mv7 h').at hlt).1,h'.own.at (.head _)⟩) ?_
  refine Mt.toGt kg ?_
  skip
  obtain ⟨pd1,pd2⟩ := B7.at hlt
  have np7 : pb ≠ c9 := o97 pb (.inl rfl)
  have lp7 := B7.lt pb (.inl rfl)
  repeat' first | (apply Wl.loadO;exact rfl;exact rfl;exact zw;exact kh) | refine Wl.move rfl rfl ?_ | refine Wl.fieldAddr rfl rfl ?_ | (refine Wl.indexAddr rfl rfl rfl ?_ ?_;constructor <;> omega) | apply St.seq | apply St.region | apply Gt.next
  apply Wl.callC
  ·exact rfl
  ·exact ke
  intro wp hp
  have zp8 := hp.upd.size
  have hlp := hp.own.lt (.head _)
  simp only at hlp
  refine (planX i hi3 (gs i) 3 wp (grF ((mv7 hp).gr i hlt).2)).mono ?_
  rintro e w8 ⟨eb',ec',rfl,hEx,hebg,⟨ecs,hebb⟩,u8⟩
  have B8 := (mv7 hp).new u8
  have hq8 := Hp.restD hp u8 kb
  have z8 := u8.size
  have h98 := hq8.own.at (.head _)
  have o98 := B8.off (t := 30) h98 ze
  have mv8 : ∀ {w' : World},Hp w8 [⟨c9,loadC (.slice ca x.code.length cc) v1 v3 x,30⟩] w' → BegS w w' n i pb J gs (caF l (i + 1)) cM rb rm (rn5 + x.data.length) (loadF l (i + 1)) v6 v7 eb ec := fun h' => B8.upd (Hp.on1 h' (Upd.refl (fun b => b = c9) _) rfl) (fun b hb e => o98 b hb e) fun b hb e => by omega
  refine ⟨_,_,rfl,hq8,?_⟩
  repeat' first | refine Wl.move rfl rfl ?_ | refine Wl.assign rfl rfl ?_ | refine Wl.extract rfl rfl rfl ?_ | apply Wl.nil | apply Gt.next
  have hb8 := (B8.at hlt).1
  have np8 : pb ≠ c9 := o98 pb (.inl rfl)
  have lp8 := B8.lt pb (.inl rfl)
  have h6p : ∀ k,v6.ownBlock = some k → k ≠ pb := fun k hk e => (B8.ent.heap hk).elim fun _ hg => hne hg B8.pay ze e
  have h7p : ∀ k,v7.ownBlock = some k → k ≠ pb := fun k hk e => (B8.st.heap hk).elim fun _ hg => hne hg B8.pay ze e
  have h67 : ∀ k,v7.ownBlock = some k → v6.ownBlock ≠ some k := fun k hk hk6 => (B8.st.heap hk).elim fun _ hg => (B8.ent.heap hk6).elim fun _ hg6 => hne hg hg6 ze rfl
  refine St.tree (fun w' => w'.cell? ⟨pb,0 + (i : Int).toNat * 36 + 33,none⟩ = some (.int .u32 (biasI i))) mixed (fun _ h' => ⟨Hp.drew h',((mv8 (Hp.drew h')).at hlt).1⟩) ?_
  refine Mt.pm 0 ?_
  refine Mt.pm 1 ?_
  refine Mt.pm 4 ?_
  refine Mt.pm 5 ?_
  refine Mt.pm 6 ?_
  refine Mt.pu 7 ?_
  refine Wl.indexAddr rfl rfl rfl ?_ ?_;constructor <;> omega;apply Wl.nilB
  refine Mt.pu 8 ?_
  refine Wl.fieldAddr rfl rfl (Wl.nilB ?_)
  refine Mt.pu 9 ?_
  apply Wl.loadF;exact rfl;exact rfl;(intro w' h';exact h');apply Wl.nilB
  refine Mt.eff2 (i := 2) (j := 10) kg zd zd ?_ ?_
  ·repeat' first | (apply Wl.lit;exact rfl;exact ki;exact rfl;exact rfl;exact kj;intro c hc ho) | apply Wl.nil
   refine Mt.backE (fun _ h' => by first | exact h'.upd.cell hb8 (fun y => y zh) | exact h'.upd.cell hb9 (fun y => y zh) | exact h'.upd.cell hb10 (fun y => y zh)) ?_
   refine Mt.eff2 (i := 3) (j := 10) kg zd zd ?_ ?_
   ·apply Wl.appendH (base := w.heap.size) (n := i) (m := 1) (sz := 1) (e := 65) (xs := (List.range i).map fun j => .slice (some ⟨eb j,0,none⟩) 4 (ec j))
    ·exact rfl
    ·exact rfl
    ·exact rfl
    ·exact ke
    ·exact rfl
    ·exact B8.ent
    ·exact fun k hk => by have := hv6l k hk;repeat (first | exact trivial | refine ⟨fun e => by simp only at e;omega,?_⟩)
    ·exact rfl
    ·exact rfl
    ·decide
    ·unfold maxLen;omega
    ·omega
    ·omega
    intro v6' w9 ho6 u9 _ hoff6
    have s9 := u9.size
    have hb9 := u9.cell hb8 (fun hs => hs.elim (fun h => h6p _ h rfl) fun y => y zh)
    apply Wl.nil
    refine Mt.backE (fun _ h' => by first | exact h'.upd.cell hb8 (fun y => y zh) | exact h'.upd.cell hb9 (fun y => y zh) | exact h'.upd.cell hb10 (fun y => y zh)) ?_
    refine Mt.e1 10 ?_
    repeat' first | (apply Wl.lit;exact rfl;exact ki;exact rfl;exact rfl;exact kj;intro c hc ho) | apply Wl.nil
    refine Mt.backE (fun _ h' => by first | exact h'.upd.cell hb8 (fun y => y zh) | exact h'.upd.cell hb9 (fun y => y zh) | exact h'.upd.cell hb10 (fun y => y zh)) ?_
    refine Mt.e1 11 ?_
    apply Wl.appendH (base := w.heap.size) (n := i) (m := 1) (sz := 1) (e := 25) (xs := (List.range i).map fun j => .int .u32 (biasI j))
    ·exact rfl
    ·exact rfl
    ·exact rfl
    ·exact ke
    ·exact rfl
    ·exact (ownsRow_upd B8.st u9 fun k hk hs => hs.elim (h67 k hk) fun y => y qa)
    ·exact fun k hk => by have := hv7l k hk;repeat (first | exact trivial | refine ⟨fun e => by simp only at e;omega,?_⟩)
    ·exact rfl
    ·exact rfl
    ·decide
    ·unfold maxLen;omega
    ·omega
    ·omega
    intro v7' w10 ho7 u10 _ hoff7
    have s10 := u10.size
    have hb10 := u10.cell hb9 (fun hs => hs.elim (fun h => h7p _ h rfl) fun y => y zh)
    apply Wl.nil
    refine Mt.backE (fun _ h' => by first | exact h'.upd.cell hb8 (fun y => y zh) | exact h'.upd.cell hb9 (fun y => y zh) | exact h'.upd.cell hb10 (fun y => y zh)) ?_
    refine Mt.pu 12 ?_
    refine Wl.assign rfl rfl (Wl.nilB ?_)
    refine Mt.pu 13 ?_
    refine Wl.assign rfl rfl (Wl.nilB ?_)
    refine Mt.toGt kg ?_
    repeat' first | refine Wl.move rfl rfl ?_ | (refine Wl.addI rfl rfl rfl ?_ ?_;constructor <;> omega) | apply Wl.nil | apply St.region | apply Gt.next | apply Gt.inNormal
    refine Gt.reb (H' := []) fun w11 h11 => ⟨trivial,trivial,?_⟩
    have key9 : ∀ k,k < w8.heap.size → k ≠ c9 → ¬ (w8.heap.size ≤ k ∨ k = c9) := fun k h1 h2 h => h.elim (fun h => by omega) h2
    have u911 : Upd (fun k => v6.ownBlock = some k ∨ v7.ownBlock = some k ∨ k = c9 ∨ w8.heap.size ≤ k) w8 w11 := by
     have tH : ∀ {H : List Blk} {k : Nat},(∀ y ∈ H,y.b = c9 ∨ w8.heap.size ≤ y.b) → ¬ Off H k → k = c9 ∨ w8.heap.size ≤ k := fun hH hn => Classical.byContradiction fun hc => hn (Off.of fun y hy e => hc (e ▸ hH y hy))
     refine (u9.comp u10 (T := fun k => v6.ownBlock = some k ∨ v7.ownBlock = some k ∨ k = c9 ∨ w8.heap.size ≤ k) fun k hk hs => ?_).comp h11.upd fun k hk hs => hs.elim id fun y => .inr (.inr (tH zn y))
     rcases hs with (h | y) | h | y
     ·exact .inl h
     ·exact .inr (.inr (tH zn y))
     ·exact .inr (.inl h)
     ·exact .inr (.inr (tH zn y))
    have hvn : ∀ k,v6.ownBlock = some k ∨ v7.ownBlock = some k → k ≠ c9 := fun k hk => hk.elim (fun h => by have := hv6l k h;omega) (fun h => by have := hv7l k h;omega)
    have hr6 : w11.ownsRow w.heap.size 65 1 v6' (i + 1) ((List.range (i + 1)).map fun j => .slice (some ⟨if j = i then eb' else eb j,0,none⟩) 4 (if j = i then ec' else ec j)) := by
     have h := ownsRow_upd (ownsRow_upd ho6 u10 fun k hk hs => hs.elim (fun h7 => (ho6.heap hk).elim fun _ hg => ((ownsRow_upd B8.st u9 fun k hk hs => hs.elim (h67 k hk) fun y => y qa).heap h7).elim fun _ hg7 => hne hg hg7 ze rfl) fun y => y zt) h11.upd fun k hk y => y zt
     rw [List.range_succ,List.map_append]
     rw [List.map_congr_left (g := fun j => Value.slice (some ⟨eb j,0,none⟩) 4 (ec j)) (fun j hj => by have := List.mem_range.1 hj;simp only [if_neg (show ¬ j = i by omega)])]
     simp only [List.map_cons,List.map_nil,if_pos]
     exact h
    have hr7 : w11.ownsRow w.heap.size 25 1 v7' (i + 1) ((List.range (i + 1)).map fun j => .int .u32 (biasI j)) := by
     have h := ownsRow_upd ho7 h11.upd fun k hk y => y (hoff7 k hk).1
     rw [List.range_succ,List.map_append]
     exact h
    have hnb : ∀ k,k < w8.heap.size → (∀ cs t,w8.heap[k]? = some (.cells cs t (0,0)) → t ≠ 65 ∧ t ≠ 25 ∧ t ≠ 30) → True := fun _ _ _ => trivial
    have heX : ∀ j,j < i + 1 → w.heap.size ≤ (if j = i then eb' else eb j) ∧ ∃ cs : List Value,w8.heap[if j = i then eb' else eb j]? = some (.cells cs.toArray 160 (0,0)) ∧ EntX w8 (some ⟨if j = i then eb' else eb j,0,none⟩) 4 (en4 (biasI j)) := fun j hj => by
     by_cases e : j = i
     ·rw [if_pos e,e];exact ⟨by omega,ecs,hebb,hEx⟩
     ·rw [if_neg e];exact B8.enx j ky
    have heY : ∀ j,j < i + 1 → w.heap.size ≤ (if j = i then eb' else eb j) ∧ ∃ cs : List Value,w11.heap[if j = i then eb' else eb j]? = some (.cells cs.toArray 160 (0,0)) ∧ EntX w11 (some ⟨if j = i then eb' else eb j,0,none⟩) 4 (en4 (biasI j)) := fun j hj => by
     obtain ⟨h1,cs,h2,h3⟩ := heX j hj
     have hn : ¬ (v6.ownBlock = some (if j = i then eb' else eb j) ∨ v7.ownBlock = some (if j = i then eb' else eb j) ∨ (if j = i then eb' else eb j) = c9 ∨ w8.heap.size ≤ (if j = i then eb' else eb j)) := fun h => h.elim (fun h => (B8.ent.heap h).elim fun _ hg => hne h2 hg ze rfl) fun h => h.elim (fun h => (B8.st.heap h).elim fun _ hg => hne h2 hg ze rfl) fun h => h.elim (fun h => hne (t := 30) h2 h98 ze h) fun h => absurd (lt_of_block h2) (Nat.not_lt.2 h)
     refine ⟨h1,cs,u911.heap h2 hn,fun q hq => ?_⟩
     obtain ⟨b,o,e,c1,c2,c3⟩ := h3 q hq
     cases e
     exact ⟨_,_,rfl,u911.cell c1 hn,u911.cell c2 hn,u911.cell c3 hn⟩
    have B11 := B8.rows hr6 heY hr7 u911 (fun b hb hs => hs.elim .inl fun h => h.elim .inr fun h => h.elim (fun e => absurd e (o98 b hb)) fun h => absurd (B8.lt b hb).2 (Nat.not_lt.2 h)) (fun b hs => hs.elim (fun h => (B8.ent.ge b h).1) fun h => h.elim (fun h => (B8.st.ge b h).1) fun h => h.elim (fun e => by omega) fun h => by omega)
    refine Gt.round ⟨i + 1,w11,rn5 + x.data.length,v6',v7',fun j => if j = i then eb' else eb j,fun j => if j = i then ec' else ec j⟩ ⟨by simp only;omega,by simp only;omega,B11⟩ q7 kw (fun _ h => h)
   ·repeat' first | (apply Wl.lit;exact rfl;exact ki;exact rfl;exact rfl;exact kj;intro c hc ho) | apply Wl.nil
    refine Mt.backE (fun _ h' => by first | exact h'.upd.cell hb8 (fun y => y zh) | exact h'.upd.cell hb9 (fun y => y zh) | exact h'.upd.cell hb10 (fun y => y zh)) ?_
    refine Mt.e1 3 ?_
    apply Wl.appendH (base := w.heap.size) (n := i) (m := 1) (sz := 1) (e := 65) (xs := (List.range i).map fun j => .slice (some ⟨eb j,0,none⟩) 4 (ec j))
    ·exact rfl
    ·exact rfl
    ·exact rfl
    ·exact ke
    ·exact rfl
    ·exact B8.ent
    ·exact fun k hk => by have := hv6l k hk;repeat (first | exact trivial | refine ⟨fun e => by simp only at e;omega,?_⟩)
    ·exact rfl
    ·exact rfl
    ·decide
    ·unfold maxLen;omega
    ·omega
    ·omega
    intro v6' w9 ho6 u9 _ hoff6
    have s9 := u9.size
    have hb9 := u9.cell hb8 (fun hs => hs.elim (fun h => h6p _ h rfl) fun y => y zh)
    apply Wl.nil
    refine Mt.backE (fun _ h' => by first | exact h'.upd.cell hb8 (fun y => y zh) | exact h'.upd.cell hb9 (fun y => y zh) | exact h'.upd.cell hb10 (fun y => y zh)) ?_
    refine Mt.e1 11 ?_
    apply Wl.appendH (base := w.heap.size) (n := i) (m := 1) (sz := 1) (e := 25) (xs := (List.range i).map fun j => .int .u32 (biasI j))
    ·exact rfl
    ·exact rfl
    ·exact rfl
    ·exact ke
    ·exact rfl
    ·exact (ownsRow_upd B8.st u9 fun k hk hs => hs.elim (h67 k hk) fun y => y qa)
    ·exact fun k hk => by have := hv7l k hk;repeat (first | exact trivial | refine ⟨fun e => by simp only at e;omega,?_⟩)
    ·exact rfl
    ·exact rfl
    ·decide
    ·unfold maxLen;omega
    ·omega
    ·omega
    intro v7' w10 ho7 u10 _ hoff7
    have s10 := u10.size
    have hb10 := u10.cell hb9 (fun hs => hs.elim (fun h => h7p _ h rfl) fun y => y zh)
    apply Wl.nil
    refine Mt.backE (fun _ h' => by first | exact h'.upd.cell hb8 (fun y => y zh) | exact h'.upd.cell hb9 (fun y => y zh) | exact h'.upd.cell hb10 (fun y => y zh)) ?_
    refine Mt.pu 12 ?_
    refine Wl.assign rfl rfl (Wl.nilB ?_)
    refine Mt.pu 13 ?_
    refine Wl.assign rfl rfl (Wl.nilB ?_)
    refine Mt.toGt kg ?_
    repeat' first | refine Wl.move rfl rfl ?_ | (refine Wl.addI rfl rfl rfl ?_ ?_;constructor <;> omega) | apply Wl.nil | apply St.region | apply Gt.next | apply Gt.inNormal
    refine Gt.reb (H' := []) fun w11 h11 => ⟨trivial,trivial,?_⟩
    have key9 : ∀ k,k < w8.heap.size → k ≠ c9 → ¬ (w8.heap.size ≤ k ∨ k = c9) := fun k h1 h2 h => h.elim (fun h => by omega) h2
    have u911 : Upd (fun k => v6.ownBlock = some k ∨ v7.ownBlock = some k ∨ k = c9 ∨ w8.heap.size ≤ k) w8 w11 := by
     have tH : ∀ {H : List Blk} {k : Nat},(∀ y ∈ H,y.b = c9 ∨ w8.heap.size ≤ y.b) → ¬ Off H k → k = c9 ∨ w8.heap.size ≤ k := fun hH hn => Classical.byContradiction fun hc => hn (Off.of fun y hy e => hc (e ▸ hH y hy))
     refine (u9.comp u10 (T := fun k => v6.ownBlock = some k ∨ v7.ownBlock = some k ∨ k = c9 ∨ w8.heap.size ≤ k) fun k hk hs => ?_).comp h11.upd fun k hk hs => hs.elim id fun y => .inr (.inr (tH zn y))
     rcases hs with (h | y) | h | y
     ·exact .inl h
     ·exact .inr (.inr (tH zn y))
     ·exact .inr (.inl h)
     ·exact .inr (.inr (tH zn y))
    have hvn : ∀ k,v6.ownBlock = some k ∨ v7.ownBlock = some k → k ≠ c9 := fun k hk => hk.elim (fun h => by have := hv6l k h;omega) (fun h => by have := hv7l k h;omega)
    have hr6 : w11.ownsRow w.heap.size 65 1 v6' (i + 1) ((List.range (i + 1)).map fun j => .slice (some ⟨if j = i then eb' else eb j,0,none⟩) 4 (if j = i then ec' else ec j)) := by
     have h := ownsRow_upd (ownsRow_upd ho6 u10 fun k hk hs => hs.elim (fun h7 => (ho6.heap hk).elim fun _ hg => ((ownsRow_upd B8.st u9 fun k hk hs => hs.elim (h67 k hk) fun y => y qa).heap h7).elim fun _ hg7 => hne hg hg7 ze rfl) fun y => y zt) h11.upd fun k hk y => y zt
     rw [List.range_succ,List.map_append]
     rw [List.map_congr_left (g := fun j => Value.slice (some ⟨eb j,0,none⟩) 4 (ec j)) (fun j hj => by have := List.mem_range.1 hj;simp only [if_neg (show ¬ j = i by omega)])]
     simp only [List.map_cons,List.map_nil,if_pos]
     exact h
    have hr7 : w11.ownsRow w.heap.size 25 1 v7' (i + 1) ((List.range (i + 1)).map fun j => .int .u32 (biasI j)) := by
     have h := ownsRow_upd ho7 h11.upd fun k hk y => y (hoff7 k hk).1
     rw [List.range_succ,List.map_append]
     exact h
    have hnb : ∀ k,k < w8.heap.size → (∀ cs t,w8.heap[k]? = some (.cells cs t (0,0)) → t ≠ 65 ∧ t ≠ 25 ∧ t ≠ 30) → True := fun _ _ _ => trivial
    have heX : ∀ j,j < i + 1 → w.heap.size ≤ (if j = i then eb' else eb j) ∧ ∃ cs : List Value,w8.heap[if j = i then eb' else eb j]? = some (.cells cs.toArray 160 (0,0)) ∧ EntX w8 (some ⟨if j = i then eb' else eb j,0,none⟩) 4 (en4 (biasI j)) := fun j hj => by
     by_cases e : j = i
     ·rw [if_pos e,e];exact ⟨by omega,ecs,hebb,hEx⟩
     ·rw [if_neg e];exact B8.enx j ky
    have heY : ∀ j,j < i + 1 → w.heap.size ≤ (if j = i then eb' else eb j) ∧ ∃ cs : List Value,w11.heap[if j = i then eb' else eb j]? = some (.cells cs.toArray 160 (0,0)) ∧ EntX w11 (some ⟨if j = i then eb' else eb j,0,none⟩) 4 (en4 (biasI j)) := fun j hj => by
     obtain ⟨h1,cs,h2,h3⟩ := heX j hj
     have hn : ¬ (v6.ownBlock = some (if j = i then eb' else eb j) ∨ v7.ownBlock = some (if j = i then eb' else eb j) ∨ (if j = i then eb' else eb j) = c9 ∨ w8.heap.size ≤ (if j = i then eb' else eb j)) := fun h => h.elim (fun h => (B8.ent.heap h).elim fun _ hg => hne h2 hg ze rfl) fun h => h.elim (fun h => (B8.st.heap h).elim fun _ hg => hne h2 hg ze rfl) fun h => h.elim (fun h => hne (t := 30) h2 h98 ze h) fun h => absurd (lt_of_block h2) (Nat.not_lt.2 h)
     refine ⟨h1,cs,u911.heap h2 hn,fun q hq => ?_⟩
     obtain ⟨b,o,e,c1,c2,c3⟩ := h3 q hq
     cases e
     exact ⟨_,_,rfl,u911.cell c1 hn,u911.cell c2 hn,u911.cell c3 hn⟩
    have B11 := B8.rows hr6 heY hr7 u911 (fun b hb hs => hs.elim .inl fun h => h.elim .inr fun h => h.elim (fun e => absurd e (o98 b hb)) fun h => absurd (B8.lt b hb).2 (Nat.not_lt.2 h)) (fun b hs => hs.elim (fun h => (B8.ent.ge b h).1) fun h => h.elim (fun h => (B8.st.ge b h).1) fun h => h.elim (fun e => by omega) fun h => by omega)
    refine Gt.round ⟨i + 1,w11,rn5 + x.data.length,v6',v7',fun j => if j = i then eb' else eb j,fun j => if j = i then ec' else ec j⟩ ⟨by simp only;omega,by simp only;omega,B11⟩ q7 kw (fun _ h => h)
  ·repeat' first | (apply Wl.lit;exact rfl;exact ki;exact rfl;exact rfl;exact kj;intro c hc ho) | apply Wl.nil
   refine Mt.backE (fun _ h' => by first | exact h'.upd.cell hb8 (fun y => y zh) | exact h'.upd.cell hb9 (fun y => y zh) | exact h'.upd.cell hb10 (fun y => y zh)) ?_
   refine Mt.e1 2 ?_
   repeat' first | (apply Wl.lit;exact rfl;exact ki;exact rfl;exact rfl;exact kj;intro c hc ho) | apply Wl.nil
   refine Mt.backE (fun _ h' => by first | exact h'.upd.cell hb8 (fun y => y zh) | exact h'.upd.cell hb9 (fun y => y zh) | exact h'.upd.cell hb10 (fun y => y zh)) ?_
   refine Mt.e1 3 ?_
   apply Wl.appendH (base := w.heap.size) (n := i) (m := 1) (sz := 1) (e := 65) (xs := (List.range i).map fun j => .slice (some ⟨eb j,0,none⟩) 4 (ec j))
   ·exact rfl
   ·exact rfl
   ·exact rfl
   ·exact ke
   ·exact rfl
   ·exact B8.ent
   ·exact fun k hk => by have := hv6l k hk;repeat (first | exact trivial | refine ⟨fun e => by simp only at e;omega,?_⟩)
   ·exact rfl
   ·exact rfl
   ·decide
   ·unfold maxLen;omega
   ·omega
   ·omega
   intro v6' w9 ho6 u9 _ hoff6
   have s9 := u9.size
   have hb9 := u9.cell hb8 (fun hs => hs.elim (fun h => h6p _ h rfl) fun y => y zh)
   apply Wl.nil
   refine Mt.backE (fun _ h' => by first | exact h'.upd.cell hb8 (fun y => y zh) | exact h'.upd.cell hb9 (fun y => y zh) | exact h'.upd.cell hb10 (fun y => y zh)) ?_
   refine Mt.e1 11 ?_
   apply Wl.appendH (base := w.heap.size) (n := i) (m := 1) (sz := 1) (e := 25) (xs := (List.range i).map fun j => .int .u32 (biasI j))
   ·exact rfl
   ·exact rfl
   ·exact rfl
   ·exact ke
   ·exact rfl
   ·exact (ownsRow_upd B8.st u9 fun k hk hs => hs.elim (h67 k hk) fun y => y qa)
   ·exact fun k hk => by have := hv7l k hk;repeat (first | exact trivial | refine ⟨fun e => by simp only at e;omega,?_⟩)
   ·exact rfl
   ·exact rfl
   ·decide
   ·unfold maxLen;omega
   ·omega
   ·omega
   intro v7' w10 ho7 u10 _ hoff7
   have s10 := u10.size
   have hb10 := u10.cell hb9 (fun hs => hs.elim (fun h => h7p _ h rfl) fun y => y zh)
   apply Wl.nil
   refine Mt.backE (fun _ h' => by first | exact h'.upd.cell hb8 (fun y => y zh) | exact h'.upd.cell hb9 (fun y => y zh) | exact h'.upd.cell hb10 (fun y => y zh)) ?_
   refine Mt.pu 12 ?_
   refine Wl.assign rfl rfl (Wl.nilB ?_)
   refine Mt.pu 13 ?_
   refine Wl.assign rfl rfl (Wl.nilB ?_)
   refine Mt.toGt kg ?_
   repeat' first | refine Wl.move rfl rfl ?_ | (refine Wl.addI rfl rfl rfl ?_ ?_;constructor <;> omega) | apply Wl.nil | apply St.region | apply Gt.next | apply Gt.inNormal
   refine Gt.reb (H' := []) fun w11 h11 => ⟨trivial,trivial,?_⟩
   have key9 : ∀ k,k < w8.heap.size → k ≠ c9 → ¬ (w8.heap.size ≤ k ∨ k = c9) := fun k h1 h2 h => h.elim (fun h => by omega) h2
   have u911 : Upd (fun k => v6.ownBlock = some k ∨ v7.ownBlock = some k ∨ k = c9 ∨ w8.heap.size ≤ k) w8 w11 := by
    have tH : ∀ {H : List Blk} {k : Nat},(∀ y ∈ H,y.b = c9 ∨ w8.heap.size ≤ y.b) → ¬ Off H k → k = c9 ∨ w8.heap.size ≤ k := fun hH hn => Classical.byContradiction fun hc => hn (Off.of fun y hy e => hc (e ▸ hH y hy))
    refine (u9.comp u10 (T := fun k => v6.ownBlock = some k ∨ v7.ownBlock = some k ∨ k = c9 ∨ w8.heap.size ≤ k) fun k hk hs => ?_).comp h11.upd fun k hk hs => hs.elim id fun y => .inr (.inr (tH zn y))
    rcases hs with (h | y) | h | y
    ·exact .inl h
    ·exact .inr (.inr (tH zn y))
    ·exact .inr (.inl h)
    ·exact .inr (.inr (tH zn y))
   have hvn : ∀ k,v6.ownBlock = some k ∨ v7.ownBlock = some k → k ≠ c9 := fun k hk => hk.elim (fun h => by have := hv6l k h;omega) (fun h => by have := hv7l k h;omega)
   have hr6 : w11.ownsRow w.heap.size 65 1 v6' (i + 1) ((List.range (i + 1)).map fun j => .slice (some ⟨if j = i then eb' else eb j,0,none⟩) 4 (if j = i then ec' else ec j)) := by
    have h := ownsRow_upd (ownsRow_upd ho6 u10 fun k hk hs => hs.elim (fun h7 => (ho6.heap hk).elim fun _ hg => ((ownsRow_upd B8.st u9 fun k hk hs => hs.elim (h67 k hk) fun y => y qa).heap h7).elim fun _ hg7 => hne hg hg7 ze rfl) fun y => y zt) h11.upd fun k hk y => y zt
    rw [List.range_succ,List.map_append]
    rw [List.map_congr_left (g := fun j => Value.slice (some ⟨eb j,0,none⟩) 4 (ec j)) (fun j hj => by have := List.mem_range.1 hj;simp only [if_neg (show ¬ j = i by omega)])]
    simp only [List.map_cons,List.map_nil,if_pos]
    exact h
   have hr7 : w11.ownsRow w.heap.size 25 1 v7' (i + 1) ((List.range (i + 1)).map fun j => .int .u32 (biasI j)) := by
    have h := ownsRow_upd ho7 h11.upd fun k hk y => y (hoff7 k hk).1
    rw [List.range_succ,List.map_append]
    exact h
   have hnb : ∀ k,k < w8.heap.size → (∀ cs t,w8.heap[k]? = some (.cells cs t (0,0)) → t ≠ 65 ∧ t ≠ 25 ∧ t ≠ 30) → True := fun _ _ _ => trivial
   have heX : ∀ j,j < i + 1 → w.heap.size ≤ (if j = i then eb' else eb j) ∧ ∃ cs : List Value,w8.heap[if j = i then eb' else eb j]? = some (.cells cs.toArray 160 (0,0)) ∧ EntX w8 (some ⟨if j = i then eb' else eb j,0,none⟩) 4 (en4 (biasI j)) := fun j hj => by
    by_cases e : j = i
    ·rw [if_pos e,e];exact ⟨by omega,ecs,hebb,hEx⟩
    ·rw [if_neg e];exact B8.enx j ky
   have heY : ∀ j,j < i + 1 → w.heap.size ≤ (if j = i then eb' else eb j) ∧ ∃ cs : List Value,w11.heap[if j = i then eb' else eb j]? = some (.cells cs.toArray 160 (0,0)) ∧ EntX w11 (some ⟨if j = i then eb' else eb j,0,none⟩) 4 (en4 (biasI j)) := fun j hj => by
    obtain ⟨h1,cs,h2,h3⟩ := heX j hj
    have hn : ¬ (v6.ownBlock = some (if j = i then eb' else eb j) ∨ v7.ownBlock = some (if j = i then eb' else eb j) ∨ (if j = i then eb' else eb j) = c9 ∨ w8.heap.size ≤ (if j = i then eb' else eb j)) := fun h => h.elim (fun h => (B8.ent.heap h).elim fun _ hg => hne h2 hg ze rfl) fun h => h.elim (fun h => (B8.st.heap h).elim fun _ hg => hne h2 hg ze rfl) fun h => h.elim (fun h => hne (t := 30) h2 h98 ze h) fun h => absurd (lt_of_block h2) (Nat.not_lt.2 h)
    refine ⟨h1,cs,u911.heap h2 hn,fun q hq => ?_⟩
    obtain ⟨b,o,e,c1,c2,c3⟩ := h3 q hq
    cases e
    exact ⟨_,_,rfl,u911.cell c1 hn,u911.cell c2 hn,u911.cell c3 hn⟩
   have B11 := B8.rows hr6 heY hr7 u911 (fun b hb hs => hs.elim .inl fun h => h.elim .inr fun h => h.elim (fun e => absurd e (o98 b hb)) fun h => absurd (B8.lt b hb).2 (Nat.not_lt.2 h)) (fun b hs => hs.elim (fun h => (B8.ent.ge b h).1) fun h => h.elim (fun h => (B8.st.ge b h).1) fun h => h.elim (fun e => by omega) fun h => by omega)
   refine Gt.round ⟨i + 1,w11,rn5 + x.data.length,v6',v7',fun j => if j = i then eb' else eb j,fun j => if j = i then ec' else ec j⟩ ⟨by simp only;omega,by simp only;omega,B11⟩ q7 kw (fun _ h => h)
 obtain rfl : i = n := by omega
 have hd : decide ((i : Int) < (i : Int)) = false := decide_eq_false ky
 clear hlt hi
 obtain ⟨g6,cap6,J6,rfl,hg6,hb6⟩ := B0.ent.blk ky
 obtain ⟨g7,cap7,J7,rfl,hg7,hb7⟩ := B0.st.blk ky
 have hW0 : WordF w0 (some ⟨g7,0,none⟩) i biasI := fun q hq => by
  refine ⟨g7,0,rfl,cell_of hb7 ?_,?_⟩
  ·rw [Nat.zero_add,List.getElem?_append_left (by simp;exact hq)]
   simp [hq]
  ·unfold biasI;omega
 have z0 := B0.size
 repeat' first | refine Wl.move rfl rfl ?_ | refine Wl.lss rfl rfl rfl ?_ | apply Wl.nil | apply St.seq | apply St.region | (apply St.condF;exact rfl;exact ka) | apply St.exit | apply Gt.next | apply Gt.thenExit | apply Gt.inExit
 apply Wl.callC
 ·exact rfl
 ·exact ke
 intro wq hq
 have zq := hq.upd.size
 refine (monNew (some ⟨pb,0,none⟩) (some ⟨g6,0,none⟩) (some ⟨g7,0,none⟩) i pcap cap6 cap7 cM biasI (loadF l i) wq ky (fun q hq' => by obtain ⟨b,o,e,h1,h2⟩ := hW0 q hq';exact ⟨b,o,e,hq.upd.cell h1 nt0,h2⟩) (hq.upd.heap B0.mem fun y => y trivial) w.heap.size B0.ge.2.1 (Nat.le_trans z0 zq)).mono ?_
 rintro e w1 ⟨I,M,rfl,hM1,hIc,hMe,hMn,u1⟩
 obtain ⟨cf0,hMe'⟩ : ∃ cf0,M = ⟨.slice (some ⟨pb,0,none⟩) i pcap,.slice (some ⟨g6,0,none⟩) i cap6,.slice none 0 0,.slice none 0 0,0,[],newL biasI i,0,fun _ => [],[],0,List.replicate i [],loadF l i,xz,0,cf0⟩ := ⟨_,hMe⟩
 subst hMe'
 clear hMe hMn
 have u01 : Upd (fun k => w0.heap.size ≤ k) w0 w1 := (hq.upd.mono fun _ _ y => (y trivial).elim).comp u1 fun k _ hs => hs.elim id fun h => Nat.le_trans zq h
 have z1 := u01.size
 refine ⟨_,_,rfl,Hp.start w1,?_⟩
 clear hq u1
 have hd00 : decide ((0 : Int) ≠ 0) = false := by decide
 repeat' first | refine Wl.move rfl rfl ?_ | refine Wl.assign rfl rfl ?_ | refine Wl.extract rfl rfl rfl ?_ | (apply Wl.neqIs;exact rfl;exact rfl;exact rfl;exact kv) | apply Wl.nil | apply St.seq | apply St.region | (apply St.condF;exact rfl;exact ka) | apply St.skip | apply Gt.next
 apply Wl.callC
 ·exact rfl
 ·exact ke
 intro wr hr
 have zr := hr.upd.size
 refine (r26New (some ⟨pb,0,none⟩) (some ⟨g6,0,none⟩) (some ⟨g7,0,none⟩) (some ⟨rb,0,none⟩) i pcap cap6 cap7 biasI wr ky (fun q hq' => by obtain ⟨b,o,e,h1,h2⟩ := hW0 q hq';exact ⟨b,o,e,hr.upd.cell (u01.cell h1 (by have := cell_old h1;simp only at this ⊢;omega)) nt0,h2⟩)).mono ?_
 rintro e w2 ⟨rv,rfl,⟨rm2,rcw,rd,rfl,hrm2,hrw,hrcw,hrmg,hrmn⟩,u2⟩
 have u12 : Upd (fun k => w1.heap.size ≤ k) w1 w2 := (hr.upd.mono fun _ _ y => (y trivial).elim).comp u2 fun k _ hs => hs.elim id fun h => Nat.le_trans zr h
 have z2 := u12.size
 have hM2 := hM1.new u12 (Nat.le_refl _)
 have lrm := lt_of_block hrm2
 refine ⟨_,_,rfl,Hp.start w2,?_⟩
 clear hr u2
 repeat' first | refine Wl.move rfl rfl ?_ | refine Wl.assign rfl rfl ?_ | apply Wl.nil | apply St.seq | apply St.region | apply Gt.next
 apply Wl.callC
 ·exact rfl
 ·exact ke
 intro wr3 hr3
 have zr3 := hr3.upd.size
 refine (mStateZ w.heap.size I _ wr3 (hM2.upd hr3.upd fun b hb y => y trivial) ky (fun _ => rfl) (by show (0 : Nat) ≤ 1000;omega)).mono ?_
 rintro e w3 ⟨sv,iv,bv,lv,cM',vs,rfl,hSt,hcM',u3⟩
 have u23 : Upd (fun k => w2.heap.size ≤ k) w2 w3 := (hr3.upd.mono fun _ _ y => (y trivial).elim).comp u3 fun k _ hs => hs.elim id fun h => Nat.le_trans zr3 h
 have z3 := u23.size
 have hM3 := hM2.new u23 (Nat.le_refl _)
 obtain ⟨hSs,hSi,hSb,hSbl,hSln,hSm⟩ := hSt
 have hLn : (newL biasI i).length = i := newL_len _ _
 obtain ⟨svb,svc,Jv,hsve,hsvg,hsvh⟩ := hSs.blk (by show 0 < (newL biasI i).length;omega)
 have hsve' : sv = .slice (some ⟨svb,0,none⟩) i svc := by rw [hsve];show Value.slice _ (newL biasI i).length _ = _;rw [hLn]
 subst hsve'
 clear hsve
 have oi := hSi.one
 have ob := hSb.one
 have ol := hSln.one
 obtain ⟨la,lc,hlve⟩ : ∃ la lc,lv = .slice la 0 lc := by
  rcases hSln.2 with ⟨rfl,_⟩ | ⟨g,cap,cur,rfl,_⟩
  ·exact ⟨none,0,rfl⟩
  ·exact ⟨_,_,rfl⟩
 subst hlve
 have ht0 : turnV 0 = 0 := rfl
 refine ⟨_,_,rfl,Hp.start w3,?_⟩
 clear hr3 u3
 have hst6 : ([Value.int .i64 0,.slice (some ⟨svb,0,none⟩) i svc,iv,bv,.slice la 0 lc,.pointer (some ⟨cM',0,none⟩)]).all Value.oneCell' = true := by show (true && (true && (iv.oneCell' && (bv.oneCell' && (true && (true && true)))))) = true;rw [oi,ob];rfl
 have hdll : decide ((i : Int) < (i : Int)) = false := hd
 repeat' first | (apply Wl.storeA (xs := [.int .i64 0,.slice (some ⟨svb,0,none⟩) i svc,iv,bv,.slice la 0 lc,.pointer (some ⟨cM',0,none⟩)]);exact rfl;exact rfl;exact rfl;exact hst6;exact ke;exact .z (LOver.whole rfl)) | refine Wl.move rfl rfl ?_ | refine Wl.fieldAddrZ rfl rfl ?_ | (apply Wl.loadH;exact rfl;exact rfl;exact ke;exact rfl) | refine Wl.lss rfl rfl rfl ?_ | refine Wl.len rfl rfl ?_ | (apply Wl.alloc;exact rfl;intro c hc ho) | apply Wl.nil | apply St.seq | apply St.block | apply St.region | (apply St.condF;exact rfl;exact ka) | apply St.skip | apply Gt.next
 generalize c = c17 at *
 have hc17 : w3.heap.size ≤ c17 := by assumption
 have hs0 : newL biasI i = staL l 0 0 := by rw [staL_0,hl]
 have hsvh' : w3.heap[svb]? = some (.cells ((stas (staL l 0 0)).flatten ++ Jv).toArray 44 (0,0)) := by rw [← hs0];exact hsvh
 have lsv := lt_of_block hsvh'
 have nsv : svb ≠ c17 := by omega
 have U3 : Upd (fun k => w.heap.size ≤ k) w w3 := ((B0.up.comp u01 (T := fun k => w.heap.size ≤ k) fun k _ hs => hs.elim id fun h => Nat.le_trans z0 h).comp u12 (T := fun k => w.heap.size ≤ k) fun k _ hs => hs.elim id fun h => by omega).comp u23 fun k _ hs => hs.elim id fun h => by omega
 refine St.cls (fun _ h' => Hp.open h' hsvh' (by exact ⟨fun e => nsv e.symm,trivial⟩)) ?_
 refine St.loop (σ := Nat × World) (fun τ => τ.1 ≤ i ∧ Upd (fun k => k = svb ∨ k = c17 ∨ w3.heap.size ≤ k) w3 τ.2 ∧ True)
  (fun τ => [(14,.pointer (some ⟨I.m,0,none⟩)),(16,.pointer (some ⟨rm2,0,none⟩)),(17,.pointer (some ⟨c17,0,none⟩)),(141,.slice a i cl),(142,.int .i64 (i : Int)),(143,.int .i64 (τ.1 : Int))]) (fun τ => Hp τ.2 [⟨svb,(stas (staL l τ.1 0)).flatten ++ Jv,44⟩,⟨c17,[.int .i64 0,.slice (some ⟨svb,0,none⟩) i svc,iv,bv,.slice la 0 lc,.pointer (some ⟨cM',0,none⟩)],54⟩]) (fun τ => i - τ.1) (0,w3) ⟨Nat.zero_le _,Upd.refl _ _,trivial⟩ kw (fun _ h => h) ?_
 rintro ⟨j,w5⟩ ⟨hj,hu5,hl17⟩
 simp only at hj hu5 hl17 ⊢
 have s35 := hu5.size
 have U5 : Upd (fun k => w.heap.size ≤ k) w w5 := U3.comp hu5 fun k _ hs => hs.elim id fun h => by omega
 by_cases hjl : j < i
 ·have hdj : decide ((j : Int) < (i : Int)) = true := decide_eq_true ky
  obtain ⟨x,hx⟩ : ∃ x,l[j]? = some x := ⟨_,List.getElem?_eq_getElem ky⟩
  have hgx : ldD l j = x := by unfold ldD;rw [List.getD_eq_getElem?_getD,hx];rfl
  obtain ⟨lb,lo,rfl,v0,v1,v3,hcell,hV⟩ := hL j x hx
  have hlb : lb < w.heap.size := cell_old (hcell 0 _ rfl)
  have hcell' : ∀ q v,(loadC v0 v1 v3 x)[q]? = some v → w5.cell? ⟨lb,lo + (j : Int).toNat * 4 + q,none⟩ = some v := fun q v hq => by rw [Int.toNat_natCast];exact U5.cell (hcell q v hq) (Nat.not_le.2 hlb)
  obtain ⟨ca,cc,rfl,_⟩ := hV.code
  obtain ⟨xa,xc,rfl,hxr⟩ := hV.regs
  have ho1 : v1.oneCell' = true := by obtain ⟨va,vc,rfl,_⟩ := hV.data.shape;rfl
  have hlo : (loadC (.slice ca x.code.length cc) v1 (.slice xa x.regs.length xc) x).all Value.oneCell' = true := by show (true && (v1.oneCell' && (true && (true && true)))) = true;rw [ho1];rfl
  have hxl3 := hV.len.2.2
  repeat' first | (apply Wl.loadAB (xs := loadC (.slice ca x.code.length cc) v1 (.slice xa x.regs.length xc) x);exact rfl;exact rfl;(intro j v hj;exact hcell' j v hj);exact kh;exact rfl) | (apply Wl.storeA (xs := loadC (.slice ca x.code.length cc) v1 (.slice xa x.regs.length xc) x);exact rfl;exact rfl;exact rfl;exact hlo;exact ke;exact .z (LOver.whole rfl)) | refine Wl.move rfl rfl ?_ | refine Wl.assign rfl rfl ?_ | refine Wl.fieldAddrZ rfl rfl ?_ | (apply Wl.loadH;exact rfl;exact rfl;exact ke;exact rfl) | refine Wl.lss rfl rfl rfl ?_ | refine Wl.len rfl rfl ?_ | (apply Wl.alloc;exact rfl;intro c hc ho) | (refine Wl.indexAddr rfl rfl rfl ?_ ?_;constructor <;> omega) | apply Wl.nil | apply St.seq | apply St.block | apply St.region | (apply St.condT;exact rfl;exact ka) | apply St.skip | apply Gt.next
  generalize c = c19 at *
  have hc19 : w5.heap.size ≤ c19 := by assumption
  refine St.reb (H' := [⟨svb,(stas (staL l j 0)).flatten ++ Jv,44⟩,⟨c17,[.int .i64 0,.slice (some ⟨svb,0,none⟩) i svc,iv,bv,.slice la 0 lc,.pointer (some ⟨cM',0,none⟩)],54⟩]) fun w6 h6 => ⟨⟨h6.own.at (.tail _ (.head _)),h6.own.at (.tail _ (.tail _ (.head _))),trivial⟩,⟨⟨fun e => nsv e.symm,trivial⟩,trivial,trivial⟩,?_⟩
  have u36 : Upd (fun k => k = svb ∨ k = c17 ∨ w3.heap.size ≤ k) w3 w6 := Hp.on3 h6 hu5 (.inr (.inr q7)) (.inl rfl) (.inr (.inl rfl))
  have z6 := h6.upd.size
  refine St.loop (σ := Nat × World) (fun τ => τ.1 ≤ x.regs.length ∧ Upd (fun k => k = svb ∨ k = c17 ∨ w3.heap.size ≤ k) w3 τ.2 ∧ True)
   (fun τ => [(14,.pointer (some ⟨I.m,0,none⟩)),(16,.pointer (some ⟨rm2,0,none⟩)),(17,.pointer (some ⟨c17,0,none⟩)),(18,.int .i64 (j : Int)),(141,.slice (some ⟨lb,lo,none⟩) i cl),(142,.int .i64 (i : Int)),(143,.int .i64 (j : Int)),(149,.slice xa x.regs.length xc),(150,.int .i64 (x.regs.length : Int)),(151,.int .i64 (τ.1 : Int))]) (fun τ => Hp τ.2 [⟨svb,(stas (staL l j τ.1)).flatten ++ Jv,44⟩,⟨c17,[.int .i64 0,.slice (some ⟨svb,0,none⟩) i svc,iv,bv,.slice la 0 lc,.pointer (some ⟨cM',0,none⟩)],54⟩]) (fun τ => x.regs.length - τ.1) (0,w6) ⟨Nat.zero_le _,u36,trivial⟩ kw (fun _ h => h) ?_
  rintro ⟨k,w7⟩ ⟨hk,hu7,hl177⟩
  simp only at hk hu7 hl177 ⊢
  have s37 := hu7.size
  have U7 : Upd (fun k => w.heap.size ≤ k) w w7 := U3.comp hu7 fun k _ hs => hs.elim id fun h => by omega
  by_cases hkl : k < x.regs.length
  ·have hdk : decide ((k : Int) < (x.regs.length : Int)) = true := decide_eq_true ky
   obtain ⟨⟨rr,rv⟩,hrr⟩ : ∃ r,x.regs[k]? = some r := ⟨_,List.getElem?_eq_getElem hkl⟩
   obtain ⟨xb,xo,rfl,⟨r1,r2⟩,r3,r4⟩ := hxr k _ hrr
   simp only at r1 r2 r3 r4
   have hxb : xb < w.heap.size := cell_old r1
   have hgr : (ldD l j).regs.getD k (0,0) = (rr,rv) := by rw [hgx,List.getD_eq_getElem?_getD,hrr];rfl
   have hrc : ∀ q v,[Value.int .u32 rr,.int .u32 rv][q]? = some v → w7.cell? ⟨xb,xo + (k : Int).toNat * 2 + q,none⟩ = some v := by
    intro q v hq
    rw [Int.toNat_natCast]
    match q,hq with
    | 0,hq => cases hq;exact U7.cell r1 (Nat.not_le.2 hxb)
    | 1,hq => cases hq;exact U7.cell r3 (Nat.not_le.2 hxb)
   have hand := and31 rr
   have hreb : ∀ {w' : World} {c : Nat} {k' : Nat} {cs : List Value} {t : Nat},w7.heap.size ≤ c → Hp w7 [⟨c,cs,t⟩,⟨svb,(stas (staL l j k')).flatten ++ Jv,44⟩,⟨c17,[.int .i64 0,.slice (some ⟨svb,0,none⟩) i svc,iv,bv,.slice la 0 lc,.pointer (some ⟨cM',0,none⟩)],54⟩] w' → Upd (fun k => k = svb ∨ k = c17 ∨ w3.heap.size ≤ k) w3 w' := fun hc h => Hp.on3 h hu7 (.inr (.inr q7)) (.inl rfl) (.inr (.inl rfl))
   by_cases hb : 0 < bits .and .u32 rr 31
   ·have hdb : decide (bits .and .u32 rr 31 > 0) = true := decide_eq_true hb
    repeat' first | (apply Wl.loadAB (xs := [Value.int .u32 rr,.int .u32 rv]);exact rfl;exact rfl;(intro j v hj;exact hrc j v hj);exact kh;exact rfl) | (apply Wl.storeA (xs := [Value.int .u32 rr,.int .u32 rv]);exact rfl;exact rfl;exact rfl;exact rfl;exact ke;exact .z (LOver.whole rfl)) | (apply Wl.loadH;exact rfl;exact rfl;exact ke;exact rfl) | refine Wl.lss rfl rfl rfl ?_ | refine Wl.gtr rfl rfl rfl ?_ | refine Wl.and rfl rfl rfl ?_ | (apply Wl.alloc;exact rfl;intro c hc ho) | (refine Wl.indexAddr rfl rfl rfl ?_ ?_;constructor <;> omega) | (refine Wl.indexArr rfl rfl rfl ?_ ?_;constructor <;> omega) | apply Wl.nil | apply St.seq | apply St.block | apply St.region | (apply St.condT;exact rfl;exact ka) | apply St.skip | apply Gt.next
    generalize c = c21 at *
    have hc21 : w7.heap.size ≤ c21 := by assumption
    refine St.tree (fun w' => w'.heap[c17]? = some (.cells ([.int .i64 0,.slice (some ⟨svb,0,none⟩) i svc,iv,bv,.slice la 0 lc,.pointer (some ⟨cM',0,none⟩)]).toArray 54 (0,0)) ∧ w'.heap[c21]? = some (.cells #[.int .u32 rr,.int .u32 rv] 124 (0,0))) mixed (fun _ h' => ⟨Hp.drew h',(Hp.drew h').own.at (.tail _ (.tail _ (.head _))),(Hp.drew h').own.at (.head _)⟩) ?_
    have hset : LSet ((stas (staL l j k)).flatten ++ Jv) (0 + (j : Int).toNat * 35 + 3 + (bits .and .u32 rr 31).toNat * 1) (.int .u32 rv) ((stas (staL l j (k + 1))).flatten ++ Jv) := by
     have hlj : j < l.length := by omega
     have hok : ∀ y ∈ stas (staL l j k),y.length = 35 := by
      intro y hy
      obtain ⟨z,hz,rfl⟩ := List.mem_map.1 hy
      obtain ⟨q,hq,rfl⟩ := List.mem_map.1 hz
      show (_ :: _ :: _ :: _ : List Value).length = 35
      have hr : ∀ q' k',(regsF xz (ldD l q').regs k').length = 32 := fun q' k' => by
       have hR : ∀ k',(regsF xz (ldD l q').regs k').length = xz.length := fun k' => by
        induction k' with
        | zero => rfl
        | succ k' ih => unfold regsF;split;rw [List.length_set,ih];exact ih
       exact hR k'
      simp only [List.length_cons]
      split
      ·rw [hr]
      ·split
       ·rw [hr]
       ·rfl
     have hat : (stas (staL l j k))[j]? = some (Sta.cells ⟨0,0,biasI j,regsF xz (ldD l j).regs k⟩) := by
      have h := stas_at (staL_at l (j := j) (k := k) hlj)
      rw [if_neg ky,if_pos rfl] at h
      exact h
     rw [← staL_set l hlj,Int.toNat_natCast,Nat.zero_add,Nat.mul_one,Nat.add_assoc]
     have hcs : (Sta.cells ⟨0,0,biasI j,regsF xz (ldD l j).regs k⟩).set (3 + (bits .and .u32 rr 31).toNat) (.int .u32 rv) = Sta.cells ⟨0,0,biasI j,regsF xz (ldD l j).regs (k + 1)⟩ := by
      have e : regsF xz (ldD l j).regs (k + 1) = (regsF xz (ldD l j).regs k).set (bits .and .u32 rr 31).toNat (.int .u32 rv) := by
       conv => lhs;unfold regsF
       rw [hgr]
       exact if_pos hb
      rw [e,Nat.add_comm 3]
      rfl
     have h := LSet.flat (J := Jv) (v := .int .u32 rv) (q := 3 + (bits .and .u32 rr 31).toNat) hok hat ky
     rw [hcs] at h
     exact h
    refine Mt.pz 0 ?_
    refine Mt.pm 2 ?_
    refine Mt.pu 3 ?_
    refine Wl.indexArr rfl rfl rfl ?_ ?_;constructor <;> omega;apply Wl.nilB
    refine Mt.pu 6 ?_
    refine Wl.indexArr rfl rfl rfl ?_ ?_;constructor <;> omega;apply Wl.nilB
    refine Mt.pu 1 ?_
    apply Wl.loadF;exact rfl;exact rfl;(intro w' h';first | exact cell_of h'.1 rfl | exact cell_of h'.2 rfl);apply Wl.nilB
    refine Mt.pu 4 ?_
    apply Wl.loadF;exact rfl;exact rfl;(intro w' h';first | exact cell_of h'.1 rfl | exact cell_of h'.2 rfl);apply Wl.nilB
    refine Mt.pu 7 ?_
    apply Wl.loadF;exact rfl;exact rfl;(intro w' h';first | exact cell_of h'.1 rfl | exact cell_of h'.2 rfl);apply Wl.nilB
    refine Mt.pu 5 ?_
    refine Wl.and rfl rfl rfl (Wl.nilB ?_)
    refine Mt.pu 8 ?_
    refine Wl.indexAddr rfl rfl rfl ?_ ?_;constructor <;> omega;apply Wl.nilB
    refine Mt.pu 9 ?_
    refine Wl.fieldAddr rfl rfl (Wl.nilB ?_)
    refine Mt.pu 10 ?_
    refine Wl.indexArr rfl rfl rfl ?_ ?_;constructor <;> omega;apply Wl.nilB
    refine Mt.e1 11 ?_
    apply Wl.store
    ·exact rfl
    ·exact rfl
    ·exact rfl
    ·exact ke
    ·exact hset
    apply Wl.nil
    refine Mt.backE (fun _ h' => ⟨h'.own.at (.tail _ (.tail _ (.head _))),h'.own.at (.head _)⟩) ?_
    refine Mt.toGt kg ?_
    repeat' first | refine Wl.move rfl rfl ?_ | (refine Wl.addI rfl rfl rfl ?_ ?_;constructor <;> omega) | apply Wl.nil | apply St.region | apply Gt.next | apply Gt.inNormal
    refine Gt.reb (H' := [⟨svb,(stas (staL l j (k + 1))).flatten ++ Jv,44⟩,⟨c17,[.int .i64 0,.slice (some ⟨svb,0,none⟩) i svc,iv,bv,.slice la 0 lc,.pointer (some ⟨cM',0,none⟩)],54⟩]) fun w8 h8 => ⟨⟨h8.own.at (.tail _ (.head _)),h8.own.at (.tail _ (.tail _ (.head _))),trivial⟩,⟨⟨fun e => nsv e.symm,trivial⟩,trivial,trivial⟩,?_⟩
    refine Gt.round (k + 1,w8) ⟨by simp only;omega,hreb hc21 h8,trivial⟩ q7 kw (fun _ h => h)
   ·have hdb : decide (bits .and .u32 rr 31 > 0) = false := decide_eq_false hb
    have hsk : staL l j (k + 1) = staL l j k := by
     unfold staL
     refine List.map_congr_left fun q hq => ?_
     by_cases e : q = j
     ·subst e
      rw [if_pos rfl,if_pos rfl]
      have e : regsF xz (ldD l q).regs (k + 1) = regsF xz (ldD l q).regs k := by
       conv => lhs;unfold regsF
       rw [hgr]
       exact if_neg hb
      rw [e]
     ·rw [if_neg e,if_neg e]
    repeat' first | (apply Wl.loadAB (xs := [Value.int .u32 rr,.int .u32 rv]);exact rfl;exact rfl;(intro j v hj;exact hrc j v hj);exact kh;exact rfl) | (apply Wl.storeA (xs := [Value.int .u32 rr,.int .u32 rv]);exact rfl;exact rfl;exact rfl;exact rfl;exact ke;exact .z (LOver.whole rfl)) | refine Wl.move rfl rfl ?_ | (apply Wl.loadH;exact rfl;exact rfl;exact ke;exact rfl) | refine Wl.lss rfl rfl rfl ?_ | refine Wl.gtr rfl rfl rfl ?_ | (refine Wl.addI rfl rfl rfl ?_ ?_;constructor <;> omega) | refine Wl.and rfl rfl rfl ?_ | (apply Wl.alloc;exact rfl;intro c hc ho) | (refine Wl.indexAddr rfl rfl rfl ?_ ?_;constructor <;> omega) | (refine Wl.indexArr rfl rfl rfl ?_ ?_;constructor <;> omega) | apply Wl.nil | apply St.seq | apply St.block | apply St.region | (apply St.condT;exact rfl;exact ka) | (apply St.condF;exact rfl;exact ka) | apply St.skip | apply Gt.next | apply Gt.inNormal
    generalize c = c21 at *
    have hc21 : w7.heap.size ≤ c21 := by assumption
    refine Gt.reb (H' := [⟨svb,(stas (staL l j k)).flatten ++ Jv,44⟩,⟨c17,[.int .i64 0,.slice (some ⟨svb,0,none⟩) i svc,iv,bv,.slice la 0 lc,.pointer (some ⟨cM',0,none⟩)],54⟩]) fun w8 h8 => ⟨⟨h8.own.at (.tail _ (.head _)),h8.own.at (.tail _ (.tail _ (.head _))),trivial⟩,⟨⟨fun e => nsv e.symm,trivial⟩,trivial,trivial⟩,?_⟩
    refine Gt.round (k + 1,w8) ⟨by simp only;omega,hreb hc21 h8,trivial⟩ q7 kw (fun _ h => by simp only [hsk];exact h)
  obtain rfl : k = x.regs.length := by omega
  have hdk : decide ((x.regs.length : Int) < (x.regs.length : Int)) = false := decide_eq_false ky
  repeat' first | refine Wl.move rfl rfl ?_ | refine Wl.lss rfl rfl rfl ?_ | (refine Wl.addI rfl rfl rfl ?_ ?_;constructor <;> omega) | apply Wl.nil | apply St.seq | apply St.region | (apply St.condF;exact rfl;exact ka) | apply St.exit | apply Gt.next | apply Gt.thenExit | apply Gt.inNormal | apply Gt.inExit
  refine Gt.reb (H' := [⟨svb,(stas (staL l j x.regs.length)).flatten ++ Jv,44⟩,⟨c17,[.int .i64 0,.slice (some ⟨svb,0,none⟩) i svc,iv,bv,.slice la 0 lc,.pointer (some ⟨cM',0,none⟩)],54⟩]) fun w8 h8 => ⟨⟨h8.own.at (.head _),h8.own.at (.tail _ (.head _)),trivial⟩,⟨⟨fun e => nsv e.symm,trivial⟩,trivial,trivial⟩,?_⟩
  have hnx := staL_next l j
  rw [hgx] at hnx
  refine Gt.round (j + 1,w8) ⟨by simp only;omega,Hp.on2 h8 hu7 (.inl rfl) (.inr (.inl rfl)),trivial⟩ q7 kw (fun _ h => by simp only [← hnx];exact h)
 obtain rfl : j = i := by omega
 have hdj : decide ((j : Int) < (j : Int)) = false := decide_eq_false ky
 have hSl : (staL l j 0) = (List.range l.length).map (staB l) := by rw [← hl];exact staL_end l
 have hlL : (staL l j 0).length = j := by rw [staL_len,hl]
 have nM : MonF I ⟨.slice (some ⟨pb,0,none⟩) j pcap,.slice (some ⟨g6,0,none⟩) j cap6,.slice none 0 0,.slice none 0 0,0,[],newL biasI j,0,fun _ => [],[],0,List.replicate j [],loadF l j,xz,0,cf0⟩ svb → False := fun h => by
  have := (hM2.lt svb h).2
  have h3 := hsvg
  omega
 have hStaX : ∀ x ∈ staL l j 0,StaOk x ∧ StaV x ∧ x.s = 0 ∧ x.c = 0 ∧ x.xs[0]? = some (.int .u32 0) := by
  intro x hx
  rw [hSl] at hx
  obtain ⟨q,hq,rfl⟩ := List.mem_map.1 hx
  have hq' := List.mem_range.1 hq
  obtain ⟨y,hy⟩ : ∃ y,l[q]? = some y := ⟨_,List.getElem?_eq_getElem hq'⟩
  have hgy : ldD l q = y := by unfold ldD;rw [List.getD_eq_getElem?_getD,hy];rfl
  obtain ⟨b,o,_,v0,v1,v3,_,hV⟩ := hL q y hy
  have hrg : Rg (regsF xz (ldD l q).regs (ldD l q).regs.length) := regsF_rg xz_rg _ (fun r hr => by
   rw [hgy] at hr
   obtain ⟨k,hk⟩ := List.mem_iff_getElem?.1 hr
   obtain ⟨xa,xc,_,hxr⟩ := hV.regs
   obtain ⟨_,_,_,_,_,h⟩ := hxr k r hk
   exact h) _
  have h0 : (regsF xz (ldD l q).regs (ldD l q).regs.length)[0]? = some (.int .u32 0) := regsF_0 rfl _ _
  exact ⟨⟨hrg,⟨by show (0 : Int) ≤ 0;decide,by show (0 : Int) < 4294967296;decide⟩,by show 0 ≤ biasI q ∧ biasI q < 4294967296;unfold biasI;omega⟩,⟨⟨by show (0 : Int) ≤ 0;decide,by show (0 : Int) ≤ 2;decide⟩,h0,fun _ => rfl⟩,rfl,rfl,h0⟩
 have hall : ∀ x ∈ staL l j 0,StaOk x ∧ StaV x := fun x hx => ⟨(hStaX x hx).1,(hStaX x hx).2.1⟩
 have hany : anyR (staL l j 0) = decide ((0 : Int) ≤ 0) := by
  have h0 : (staL l j 0)[0]? = some _ := List.getElem?_eq_getElem (by rw [hlL];omega)
  unfold anyR
  rw [show decide ((0 : Int) ≤ 0) = true from rfl,List.any_eq_true]
  exact ⟨_,List.mem_of_getElem? h0,decide_eq_true (hStaX _ (List.mem_of_getElem? h0)).2.2.1⟩
 have hM3s : ∀ {w' : World},Hp w5 [⟨svb,(stas (staL l j 0)).flatten ++ Jv,44⟩,⟨c17,[.int .i64 0,.slice (some ⟨svb,0,none⟩) j svc,iv,bv,.slice la 0 lc,.pointer (some ⟨cM',0,none⟩)],54⟩] w' → MonS w' w.heap.size I ⟨.slice (some ⟨pb,0,none⟩) j pcap,.slice (some ⟨g6,0,none⟩) j cap6,.slice none 0 0,.slice none 0 0,0,[],newL biasI j,0,fun _ => [],[],0,List.replicate j [],loadF l j,xz,0,cf0⟩ := fun h' => hM2.upd (S := fun k => w2.heap.size ≤ k) ((u23.comp hu5 (T := fun k => w2.heap.size ≤ k) fun k _ hs => hs.elim id fun h => by omega).comp h'.upd fun k _ hs => hs.elim id fun y => Classical.byContradiction fun hn => y ⟨fun e => by simp only at e;omega,fun e => by simp only at e;omega,trivial⟩) fun b hb => Nat.not_le.2 (hM2.lt b hb).2
 have hOld : ∀ {w' : World},Hp w5 [⟨svb,(stas (staL l j 0)).flatten ++ Jv,44⟩,⟨c17,[.int .i64 0,.slice (some ⟨svb,0,none⟩) j svc,iv,bv,.slice la 0 lc,.pointer (some ⟨cM',0,none⟩)],54⟩] w' → Upd (fun k => k = svb ∨ k = c17 ∨ w3.heap.size ≤ k) w3 w' := fun h' => Hp.on2 h' hu5 (.inl rfl) (.inr (.inl rfl))
 have hSn : ∀ k,k < w3.heap.size → k ≠ svb → ¬ (k = svb ∨ k = c17 ∨ w3.heap.size ≤ k) := fun k h1 h2 h => h.elim h2 fun h => by omega
 repeat' first | (apply Wl.loadAH (xs := [.int .i64 0,.slice (some ⟨svb,0,none⟩) j svc,iv,bv,.slice la 0 lc,.pointer (some ⟨cM',0,none⟩)]);exact rfl;exact rfl;exact ke;exact LSub.whole' rfl) | refine Wl.move rfl rfl ?_ | refine Wl.lss rfl rfl rfl ?_ | apply Wl.nil | apply St.seq | apply St.region | (apply St.condF;exact rfl;exact ka) | apply St.exit | apply Gt.next | apply Gt.thenExit | apply Gt.inExit
 apply Wl.callC
 ·exact rfl
 ·exact ke
 intro wq hq
 have zq := hq.upd.size
 have U3q := hOld hq
 have hni : ∀ k,iv.ownBlock = some k → k < w3.heap.size ∧ k ≠ svb := fun k hk => ⟨(hSi.ge k hk).2,fun e => (hSi.heap hk).elim fun _ hg => hne hg hsvh' ze e⟩
 have hnb : ∀ k,bv.ownBlock = some k → k < w3.heap.size ∧ k ≠ svb := fun k hk => ⟨(hSb.ge k hk).2,fun e => (hSb.heap hk).elim fun _ hg => hne hg hsvh' ze e⟩
 have hSiq := ownsRow_upd hSi U3q fun k hk => hSn k (hni k hk).1 (hni k hk).2
 have hSbq := ownsRow_upd hSb U3q fun k hk => hSn k (hnb k hk).1 (hnb k hk).2
 have hSlq := ownsRow_upd hSln U3q fun k hk => hSn k (hSln.ge k hk).2 fun e => (hSln.heap hk).elim fun _ hg => hne hg hsvh' ze e
 have lcm := lt_of_block hSm
 have hSmq := U3q.heap hSm (hSn _ lcm (hne hSm hsvh' ze))
 have hsvq := hq.own.at (.head _)
 have hsvF : ∀ wz : World,wz.heap[svb]? = some (.cells ((stas (staL l j 0)).flatten ++ Jv).toArray 44 (0,0)) → Sv wz 35 j (.slice (some ⟨svb,0,none⟩) j svc) (stas (staL l j 0)).flatten := fun wz hz => by
  have h0 : Sv w3 35 (newL biasI j).length (.slice (some ⟨svb,0,none⟩) j svc) (stas (newL biasI j)).flatten := Sv.ofOwn hSs
  rw [hLn] at h0
  obtain ⟨k1,k2,k3,k4,k5,k6,k7⟩ := h0
  have hfl : (stas (staL l j 0)).flatten.length = j * 35 := by rw [flat_len (stas_len fun x hx => (hStaX x hx).1)];simp [stas,hlL]
  cases k4
  exact ⟨hfl,_,_,rfl,k5,k6,k7.1,fun _ => ⟨svb,0,rfl,fun q hq => cell_of hz (by rw [Nat.zero_add,List.getElem?_append_left hq];exact List.getElem?_eq_getElem hq)⟩⟩
 have hsvS := hsvF wq hsvq
 refine (mWithZ w.heap.size I _ (staL l j 0) 0 (some ⟨pb,0,none⟩) (some ⟨g6,0,none⟩) pcap cap6 cM' (.slice (some ⟨svb,0,none⟩) j svc) iv bv _ vs (List.replicate j []) (loadF l j) wq (hM3s hq) ky (by show Value.slice _ j _ = Value.slice _ (newL biasI j).length _;rw [hLn]) (by show Value.slice _ j _ = Value.slice _ (newL biasI j).length _;rw [hLn])
  (by show Sv wq 35 (newL biasI j).length _ _;rw [hLn];exact hsvS) (by show _ = (newL biasI j).length;rw [hLn];exact hlL) hall (by rw [hlL];omega) hany (fun x _ hx => (hStaX x (List.mem_of_getElem? hx)).2.2.1) (Sv.ofOwn hSiq) (fun s hs => by rw [List.eq_of_mem_replicate hs];decide) (Sv.ofOwn hSbq) (fun q hq' => by obtain ⟨v,e1,e2⟩ := hSbl.2 q hq';exact ⟨v,e1,Sv.ofOwn (ownsRow_upd e2 U3q fun k hk => hSn k (e2.ge k hk).2 fun e => (e2.heap hk).elim fun _ hg => hne hg hsvh' ze e)⟩) (Sv.ofOwn hSlq) hSmq).mono ?_
 rintro e w6 ⟨I',M',rfl,hM6,hMe,u6⟩
 obtain ⟨cf1,hMe'⟩ : ∃ cf1,M' = ⟨.slice (some ⟨pb,0,none⟩) j pcap,.slice (some ⟨g6,0,none⟩) j cap6,.slice none 0 0,.slice none 0 0,0,[],staL l j 0,0,fun _ => [],[],0,List.replicate j [],loadF l j,xz,0,cf1⟩ := ⟨_,hMe⟩
 subst hMe'
 clear hMe
 have hlq7 := hq.own.lt (.tail _ (.head _))
 have hlq8 := hq.own.lt (.head _)
 simp only at hlq7 hlq8
 have hq6 := Hp.restD hq u6 kb
 have z6 := u6.size
 refine ⟨_,_,rfl,hq6,?_⟩
 have hd00' : decide ((0 : Int) ≠ 0) = false := by decide
 repeat' first | refine Wl.move rfl rfl ?_ | refine Wl.assign rfl rfl ?_ | refine Wl.extract rfl rfl rfl ?_ | apply Wl.nil | apply St.seq | apply Gt.next
 have u26 : Upd (fun k => k = svb ∨ k = c17 ∨ w3.heap.size ≤ k) w3 w6 := U3q.comp u6 fun k hk hs => hs.elim id fun h => by omega
 have hrm6 : w6.heap[rm2]? = some (.cells #[.pointer (some ⟨rcw,0,none⟩),.pointer (some ⟨rd,0,none⟩)] 91 (0,0)) := u26.heap (u23.heap hrm2 ky) (hSn _ ky ky)
 have hrlt : rcw < w2.heap.size := by obtain ⟨_,_,k1,_⟩ := hrw;exact lt_of_block k1
 have u2x : ∀ {w' : World},Hp w6 [⟨svb,(stas (staL l j 0)).flatten ++ Jv,44⟩,⟨c17,[.int .i64 0,.slice (some ⟨svb,0,none⟩) j svc,iv,bv,.slice la 0 lc,.pointer (some ⟨cM',0,none⟩)],54⟩] w' → Upd (fun k => w2.heap.size ≤ k) w2 w' := fun h' => Hp.on2 h' (u23.comp u26 fun k _ hs => hs.elim id fun h => by omega) q7 q7
 have hrw6 : ∀ {w' : World},Hp w6 [⟨svb,(stas (staL l j 0)).flatten ++ Jv,44⟩,⟨c17,[.int .i64 0,.slice (some ⟨svb,0,none⟩) j svc,iv,bv,.slice la 0 lc,.pointer (some ⟨cM',0,none⟩)],54⟩] w' → RW w' wr.heap.size rcw j := fun h' => hrw.upd (u2x h') ky fun k _ hk => Nat.not_le.2 hk
 have nrm17 : ∀ {w' : World},Hp w6 [⟨svb,(stas (staL l j 0)).flatten ++ Jv,44⟩,⟨c17,[.int .i64 0,.slice (some ⟨svb,0,none⟩) j svc,iv,bv,.slice la 0 lc,.pointer (some ⟨cM',0,none⟩)],54⟩] w' → w'.heap[rm2]? = some (.cells #[.pointer (some ⟨rcw,0,none⟩),.pointer (some ⟨rd,0,none⟩)] 91 (0,0)) := fun h' => (u2x h').heap hrm2 ky
 refine St.tree (fun w' => w'.heap[rm2]? = some (.cells #[.pointer (some ⟨rcw,0,none⟩),.pointer (some ⟨rd,0,none⟩)] 91 (0,0)) ∧ w'.heap[c17]? = some (.cells ([.int .i64 0,.slice (some ⟨svb,0,none⟩) j svc,iv,bv,.slice la 0 lc,.pointer (some ⟨cM',0,none⟩)]).toArray 54 (0,0))) mixed (fun _ h' => ⟨Hp.drew h',nrm17 (Hp.drew h'),(Hp.drew h').own.at (.tail _ (.head _))⟩) ?_
 refine Mt.pm 0 ?_
 refine Mt.pu 1 ?_
 apply Wl.neqIs;exact rfl;exact rfl;exact rfl;exact kv;apply Wl.nilB
 refine Mt.pm 2 ?_
 refine Mt.pu 3 ?_
 repeat' first | refine Wl.move rfl rfl ?_ | (apply Wl.on;exact rfl;exact rfl;exact ka) | apply Wl.nilB
 refine Mt.pu 7 ?_
 repeat' first | (apply Wl.on;exact rfl;exact rfl;exact ka) | refine Wl.fieldAddrZ rfl rfl ?_ | apply Wl.nilB
 refine Mt.pu 4 ?_
 repeat' first | (apply Wl.on;exact rfl;exact rfl;exact ka) | refine Wl.nilCheck rfl rfl ?_ | apply Wl.nilB
 refine Mt.pu 8 ?_
 repeat' first | (apply Wl.loadF;exact rfl;exact rfl;(intro w' h';first | exact cell_of h'.1 rfl | exact cell_of h'.2 rfl)) | (apply Wl.on;exact rfl;exact rfl;exact ka) | apply Wl.nilB
 refine Mt.pu 5 ?_
 repeat' first | (apply Wl.on;exact rfl;exact rfl;exact ka) | refine Wl.fieldAddr0 rfl rfl ?_ | apply Wl.nilB
 refine Mt.pu 6 ?_
 repeat' first | (apply Wl.loadF;exact rfl;exact rfl;(intro w' h';first | exact cell_of h'.1 rfl | exact cell_of h'.2 rfl)) | (apply Wl.on;exact rfl;exact rfl;exact ka) | apply Wl.nilB
 refine Mt.e1 9 ?_
 apply Wl.on
 ·exact rfl
 ·exact rfl
 ·first | with_reducible rfl | with_reducible assumption | decide
 apply Wl.callC
 ·exact rfl
 ·exact ke
 intro wr9 hr9
 have zr9 := hr9.upd.size
 refine (rwSet wr.heap.size rcw j (.slice (some ⟨svb,0,none⟩) j svc) (staL l j 0) wr9 (hrw6 hr9) ky ky hlL (hsvF wr9 (hr9.own.at (.head _))) (fun k hk e => by cases hk;have e2 : svb = rcw := e;omega) (fun x hx => ⟨(hStaX x hx).1,(hStaX x hx).2.2.1,(hStaX x hx).2.2.2.1,(hStaX x hx).2.2.2.2⟩)).mono ?_
 rintro e w9 ⟨rfl,u9⟩
 have hlr7 := hr9.own.lt (.tail _ (.head _))
 have hlr8 := hr9.own.lt (.head _)
 simp only at hlr7 hlr8
 have hq9 := Hp.restD hr9 u9 kb
 have z9 := u9.size
 have u69 : Upd (fun k => k = svb ∨ k = c17 ∨ k = rcw ∨ wr9.heap.size ≤ k) w6 w9 := (Hp.on2 (S := fun k => k = svb ∨ k = c17 ∨ k = rcw ∨ wr9.heap.size ≤ k) hr9 (Upd.refl _ _) (.inl rfl) (.inr (.inl rfl))).comp u9 fun k _ hs => hs.elim id fun h => .inr (.inr h)
 refine ⟨_,_,rfl,hq9,?_⟩
 apply Wl.nil
 refine Mt.backE (fun w' h' => ⟨(Hp.on2 (S := fun k => k = svb ∨ k = c17 ∨ k = rcw ∨ wr9.heap.size ≤ k) h' u69 (.inl rfl) (.inr (.inl rfl))).heap hrm6 (fun hs => by rcases hs with h | h | h | h <;> omega),h'.own.at (.tail _ (.head _))⟩) ?_
 refine Mt.pu 10 ?_
 repeat' first | (apply Wl.on;exact rfl;exact rfl;exact ka) | (apply Wl.neqIs;exact rfl;exact rfl;exact rfl;exact kv) | apply Wl.nilB
 refine Mt.pu 11 ?_
 apply Wl.pickF;exact rfl;exact rfl;exact ka;exact rfl;apply Wl.nilB
 refine Mt.toGt kg ?_
 repeat' first | refine Wl.move rfl rfl ?_ | refine Wl.assign rfl rfl ?_ | (apply Wl.buildS;exact rfl;exact ki;exact kc) | (apply Wl.boxA;exact rfl;exact rfl;intro c hc ho) | apply Wl.nil | apply St.seq | apply St.region | (apply St.condF;exact rfl;exact ka) | apply St.ret | apply St.skip | apply Gt.next | (apply Gt.out1;exact rfl;exact rfl;intro w' hp)
 generalize c = cp at *
 have hcp : w9.heap.size ≤ cp := by assumption
 have u6f : Upd (fun k => k = svb ∨ k = c17 ∨ k = rcw ∨ w6.heap.size ≤ k) w6 w' := Hp.on3 hp (u69.mono fun k _ h => h.imp id fun h => h.imp id fun h => h.imp id fun h => by omega) (.inr (.inr (.inr q7))) (.inl rfl) (.inr (.inl rfl))
 have zf := u6f.size
 have hMf := hM6.upd u6f fun b hb hs => by
  have := hM6.lt b hb
  rcases hs with h | h | h | h <;> omega
 have U0f : Upd (fun k => w0.heap.size ≤ k) w0 w' := (((u01.comp u12 (T := fun k => w0.heap.size ≤ k) fun k _ hs => hs.elim id fun h => by omega).comp u23 (T := fun k => w0.heap.size ≤ k) fun k _ hs => hs.elim id fun h => by omega).comp u26 (T := fun k => w0.heap.size ≤ k) fun k _ hs => hs.elim id fun h => by omega).comp u6f fun k _ hs => hs.elim id fun h => by omega
 have Uf : Upd (fun k => w.heap.size ≤ k) w w' := B0.up.comp U0f fun k _ hs => hs.elim id fun h => by omega
 have lpb := lt_of_block B0.pay
 have lg6 := lt_of_block hb6
 rw [hSl] at hMf
 subst hl
 refine ⟨cp,wq.heap.size,I',_,_,cf1,_,rfl,hp.own.at (.head _),hMf,?_,⟨by omega,by omega⟩,by omega,Uf⟩
 intro Su w'' us hsu hs0
 exact {
  pay := ⟨pb,0,pcap,rfl,by omega,fun q hq => ⟨gs q,0,3,by have := lt_of_block (B0.gr q hq).2;omega,fun r v hv => by
    have hr : r < 36 := by
     have := (List.getElem?_eq_some_iff.1 hv).1
     simp only [List.length_append,byteCells_length] at this
     rw [show ((begE l).dg q).length = 32 from dgL_len q] at this
     exact this
    have hf := flat_get (payRs_len gs (caF l l.length) l.length) (payRs_at gs (caF l l.length) hq) hr
    have hv' : (payX q (gs q) (caF l l.length q))[r]? = some v := hv
    rw [hv'] at hf
    rw [Nat.zero_add]
    exact us.cell (U0f.cell (cell_of B0.pay (by rw [List.getElem?_append_left (List.getElem?_eq_some_iff.1 hf).1];exact hf)) (by show ¬ w0.heap.size ≤ pb;omega)) (hsu pb B0.ge.1 ky),
   fun k hk => grF (us.heap (U0f.heap (B0.gr q hq).2 (by have := lt_of_block (B0.gr q hq).2;omega)) (hsu _ (B0.gr q hq).1 (by have := lt_of_block (B0.gr q hq).2;omega))) k hk⟩⟩
  ent := ⟨g6,0,cap6,rfl,by omega,fun q hq => ⟨eb q,0,ec q,by
    refine us.cell (U0f.cell (cell_of hb6 ?_) (by show ¬ w0.heap.size ≤ g6;omega)) (hsu g6 hg6 ky)
    rw [Nat.zero_add,List.getElem?_append_left (by simp;exact hq)]
    simp [hq]
    rfl,by obtain ⟨cs,h,_⟩ := (B0.enx q hq).2;have := lt_of_block h;omega,fun r hr => by
    obtain ⟨h1,cs,h2,h3⟩ := B0.enx q hq
    have hn : ¬ w0.heap.size ≤ eb q := by have := lt_of_block h2;omega
    obtain ⟨b,o,e,c1,c2,c3⟩ := h3 r hr
    cases e
    have hx := hsu (eb q) h1 (by have := lt_of_block h2;omega)
    exact ⟨_,_,rfl,us.cell (U0f.cell c1 hn) hx,us.cell (U0f.cell c2 hn) hx,us.cell (U0f.cell c3 hn) hx⟩⟩⟩
  tab := (hT.upd Uf ky).upd us hs0
  pos := by omega
  ok := {
   dg := fun q _ => dgL_len q
   ca := fun q _ => caF_rng l _ q
   gn := fun q _ => by show 3 ≤ 4;decide
   g := fun q k hq hk => by
    obtain ⟨o1,o2,o3,o4,o5,o6,o7⟩ := gr3_ok (i := q) ky (k := k) hk
    show (0 ≤ (gr3 (biasI q) k).1 ∧ (gr3 (biasI q) k).1 < 4294967296) ∧ (0 ≤ (gr3 (biasI q) k).2.1 ∧ (gr3 (biasI q) k).2.1 < 4294967296) ∧ (0 ≤ (gr3 (biasI q) k).2.2 ∧ (gr3 (biasI q) k).2.2 < 8)
    omega
   m := fun q _ => by show 4 ≤ 16;decide } }
theorem begin26 (a : Option Addr) (n cl : Nat) (l : List LoadD) (w : World) (hl : l.length = n) (hn : 1 ≤ n ∧ n ≤ 3) (hL : LoadsF w a l) (hT : tabOk w) :
  Calls Tryz.prog 15 #[.slice a n cl] w fun e w' => ∃ p base I pv ev cf rv,e = .returned (.pointer (some ⟨p,0,none⟩)) ∧ w'.heap[p]? = some (.cells #[.pointer (some ⟨I.m,0,none⟩),rv] 39 (0,0)) ∧ MonS w' base I ((begP l).mv pv ev (.slice none 0 0) (.slice none 0 0) [] xz 0 cf) ∧
   EnvS w' base n pv ev (begE l) ∧ (w.heap.size ≤ base ∧ base ≤ w'.heap.size) ∧ w.heap.size ≤ p ∧ Upd (fun k => w.heap.size ≤ k) w w' :=
 (begin26F a n cl l w hl hn hL hT).mono fun e w' h => by
  obtain ⟨p,base,I,pv,ev,cf,rv,h1,h2,h3,h4,h5⟩ := h
  exact ⟨p,base,I,pv,ev,cf,rv,h1,h2,h3,h4 (fun _ => False) w' (Upd.refl _ _) (fun _ _ _ h => h) (fun h => h),h5⟩
theorem mTurn (base : Nat) (I : Mi) (M : Mv2) (w : World) (hM : MonS w base I M) :
  Calls Tryz.prog 22 #[.pointer (some ⟨I.m,0,none⟩)] w fun e w' => e = .returned (.int .i64 (turnV M.t)) ∧ Hp w [] w' := by
 have q2 : w.cell? ⟨I.m,2,none⟩ = some (.pointer (some ⟨I.wd,0,none⟩)) := cell_of hM.mm rfl
 have hTn := fun wq (k : WardS wq I.wd I.sa M.L M.t) => wTurn I.wd I.sa M.L M.t wq k
 change ∀ wq,WardS wq I.wd I.sa M.L M.t → Calls Tryz.prog 58 #[.pointer (some ⟨I.wd,0,none⟩)] wq (fun e w' => e = .returned (.int .i64 (turnV M.t)) ∧ Hp wq [] w') at hTn
 refine enter (args := [_]) (Γ := [(0,_)]) Tryz.func22 Tryz.ntmps22 rfl odq (.cons rfl .nil) ?_
 repeat' first | (apply Wl.loadO;exact rfl;exact rfl;exact zw;exact kh) | refine Wl.move rfl rfl ?_ | refine Wl.assign rfl rfl ?_ | refine Wl.nilCheck rfl rfl ?_ | refine Wl.fieldAddrZ rfl rfl ?_ | refine Wl.eqlPN rfl rfl rfl ?_ | apply Wl.nil | apply St.seq | apply St.region | (apply St.condF;exact rfl;exact ka) | apply St.skip | apply Gt.next
 apply Wl.callQ
 exact rfl
 (focus repeat constructor)
 ·intro wq hq
  exact hq.q (hTn wq (hM.ward.upd hq.upd nt0 nt0))
 repeat' first | refine Wl.assign rfl rfl ?_ | apply Wl.nil | apply St.ret | apply Gt.next | (apply Gt.out1;exact rfl;exact rfl;intro w' hp)
 exact ⟨rfl,hp⟩
theorem mStatus (base : Nat) (I : Mi) (M : Mv2) (i : Nat) (x : Sta) (w : World) (hM : MonS w base I M) (hx : M.L[i]? = some x) :
  Calls Tryz.prog 18 #[.pointer (some ⟨I.m,0,none⟩),.int .i64 (i : Int)] w fun e w' => e = .returned (.agg x.cells.toArray) ∧ Hp w [] w' := by
 have q2 : w.cell? ⟨I.m,2,none⟩ = some (.pointer (some ⟨I.wd,0,none⟩)) := cell_of hM.mm rfl
 have lm := lt_of_block hM.mm
 have hxo : StaOk x := hM.ward.2.1 x (List.mem_of_getElem? hx)
 have hxl : x.cells.length = 35 := hxo.len
 have hx1 := hxo.one
 refine enter (args := [_,_]) (Γ := [(0,_),(1,_)]) Tryz.func18 Tryz.ntmps18 rfl odq (.cons rfl (.cons rfl .nil)) ?_
 repeat' first | (apply Wl.loadO;exact rfl;exact rfl;exact zw;exact kh) | refine Wl.move rfl rfl ?_ | refine Wl.nilCheck rfl rfl ?_ | refine Wl.fieldAddrZ rfl rfl ?_ | refine Wl.eqlPN rfl rfl rfl ?_ | (apply Wl.alloc;exact rfl;intro c hc ho) | apply Wl.nil | apply St.seq | apply St.region | (apply St.condF;exact rfl;exact ka) | apply St.skip | apply Gt.next
 apply Wl.callQ
 exact rfl
 (focus repeat constructor)
 ·intro wq hq
  exact hq.q (wStatus I.wd I.sa M.L M.t i x wq (hM.hp hq qt).ward hx)
 repeat' first | (apply Wl.storeA (xs := x.cells);exact rfl;exact rfl;exact hxl;exact hx1;exact ke;exact .z (LOver.whole (by rw [hxl];rfl))) | (apply Gt.outC' (xs := x.cells);exact rfl;infer_instance;exact rfl;(exact .head _);exact LSub.whole' hxl;intro w' hp) | apply Wl.nil | apply St.ret | apply Gt.next
 exact ⟨rfl,hp.drop zx⟩
def stepsN (n : Int) : Int := ((n.tmod 60 + 60).tmod 60) + 1
theorem stepsN_rng (n : Int) : 1 ≤ stepsN n ∧ stepsN n ≤ 60 := by
 unfold stepsN
 have h1 : -60 < n.tmod 60 ∧ n.tmod 60 < 60 := by
  have := Int.tmod_lt_of_pos n (b := 60) ze
  have := Int.lt_tmod_of_pos n (b := 60) ze
  omega
 have h2 : 0 ≤ (n.tmod 60 + 60).tmod 60 := Int.tmod_nonneg _ ky
 have h3 := Int.tmod_lt_of_pos (n.tmod 60 + 60) (b := 60) ze
 omega
theorem stepsX (n : Int) (w : World) : Calls Tryz.prog 17 #[.int .i64 n] w fun e w' => e = .returned (.int .i64 (stepsN n)) ∧ Hp w [] w' := by
 have h1 : -60 < n.tmod 60 ∧ n.tmod 60 < 60 := by
  have := Int.tmod_lt_of_pos n (b := 60) ze
  have := Int.lt_tmod_of_pos n (b := 60) ze
  omega
 have h2 : 0 ≤ (n.tmod 60 + 60).tmod 60 := Int.tmod_nonneg _ ky
 have h3 := Int.tmod_lt_of_pos (n.tmod 60 + 60) (b := 60) ze
 refine enter (args := [_]) (Γ := [(0,_)]) Tryz.func17 Tryz.ntmps17 rfl odq (.cons rfl .nil) ?_
 repeat' first | refine Wl.move rfl rfl ?_ | refine Wl.assign rfl rfl ?_ | (refine Wl.addI rfl rfl rfl ?_ ?_;constructor <;> omega) | (apply Wl.rem;exact rfl;exact rfl;exact rfl;exact qx) | apply Wl.nil | apply St.seq | apply St.region | apply St.ret | apply Gt.next | (apply Gt.out1;exact rfl;exact rfl;intro w' hp)
 exact ⟨rfl,hp⟩
def ldF : LoadD := ⟨[2195,115],[],255,[]⟩
set_option maxRecDepth 100000 in
theorem fitLen : (runO (begE [ldF]) (begP [ldF]) 0 (staB [ldF] 0) 10).tr.length = 2 := by decide +kernel
set_option maxRecDepth 100000 in
theorem fitWhy : (runO (begE [ldF]) (begP [ldF]) 0 (staB [ldF] 0) 10).why = 3 := by decide +kernel
end Go.Proofs.YtabbklpalbikdaaGreatDoor
end
