/-
 2 texts,one behind the other;each says what it proves. Conditions: as each text says.
-/
import Derived.Test.YtmjlceimjlabpaaDoorM07
section
namespace Go.Pt
open Go.RowKit
theorem LSub.pre {xs r : List Value} {n : Nat} (h : xs.length = n) : LSub (xs ++ r) 0 n xs := by
 subst h
 induction xs with
 | nil => exact .z
 | cons x xs ih => exact .t ih
theorem off3 {x1 x2 x3 : Blk} {q : Nat} (h : ¬ Off [x1,x2,x3] q) : q = x1.b ∨ q = x2.b ∨ q = x3.b := Classical.byContradiction fun hn => h ⟨fun e => hn (.inl e.symm),fun e => hn (.inr (.inl e.symm)),fun e => hn (.inr (.inr e.symm)),trivial⟩
theorem off5 {x1 x2 x3 x4 x5 : Blk} {q : Nat} (h : ¬ Off [x1,x2,x3,x4,x5] q) : q = x1.b ∨ q = x2.b ∨ q = x3.b ∨ q = x4.b ∨ q = x5.b := Classical.byContradiction fun hn => h ⟨fun e => hn (.inl e.symm),fun e => hn (.inr (.inl e.symm)),fun e => hn (.inr (.inr (.inl e.symm))),fun e => hn (.inr (.inr (.inr (.inl e.symm)))),fun e => hn (.inr (.inr (.inr (.inr e.symm)))),trivial⟩
end Go.Pt
namespace Go.Proofs.YtmjlceimjlabpaaDoor
open Go.RowKit Go.Pt
theorem pay_len (f : Nat → Nat) (a b c d : Value) : (cellsN .u8 32 f ++ [a,b,c,d]).length = 36 := by simp [cellsN]
theorem pay_32 (f : Nat → Nat) (a : Value) (r : List Value) : (cellsN .u8 32 f ++ a :: r)[32]? = some a := by
 rw [List.getElem?_append_right (by simp [cellsN])]
 simp [cellsN]
theorem pay_one {f : Nat → Nat} {a b d : Int} {v : Value} {w : World} {n sz : Nat} {cs : List Value} (h : Sv w sz n v cs) : (cellsN .u8 32 f ++ [Value.int .u32 a,.int .u32 b,v,.int .i64 d]).all Value.oneCell' = true := by
 obtain ⟨_,_,_,rfl,_⟩ := h
 rw [List.all_append,cellsN_one]
 rfl
theorem Wl.appBs7 {ops : Array Oper} {N : Nat} {rest : List Oper} {Γ : Env} {Q : Exit → Act → World → Prop} {d : Nat} {ty : TypeId} {pos : String} {af : Array Edge} {w0 : World} {H : List Blk} {base : Nat} {v y : Value} {l m : List UInt8} {s x : Operand}
  (hd : Nat.blt d N = true) (hs' : ev Γ s = some v) (hx : ev Γ x = some y) (hb : Bo w0 base v l) (hy : Bs w0 y m) (hyo : ∀ k,y.ownBlock = some k → k < w0.heap.size → m ≠ [] → Off H k) (hoff : ∀ k,v.ownBlock = some k → Off H k)
  (hlen : l.length + m.length ≤ 1000000) (hbase : base ≤ w0.heap.size)
  (h : ∀ v' w1,Bo w1 base v' (l ++ m) → Upd (fun k => v.ownBlock = some k ∨ ¬ Off H k) w0 w1 → (∀ k,v'.ownBlock = some k → Off H k ∧ (v.ownBlock = some k ∨ w0.heap.size ≤ k)) → Wl rest Tryd.prog .seq ops N ((d,v') :: Γ) (Hp w1 H) Q) :
  Wl (⟨some d,.call { callee := .builtin .append,args := #[s,x],argTypes := #[22,22] },ty,pos,af,none⟩ :: rest) Tryd.prog .seq ops N Γ (Hp w0 H) Q := by
 refine Wl.appendV (e := 5) (sz := 1) hd hs' hx hy (fun k h1 h2 h3 => hyo k h1 h2 (byteCells_ne.1 h3)) hb hoff (byteCells_all m) rfl (by decide) (by unfold maxLen;omega) (by omega) hbase ?_
 intro v' w1 h1 h2 _ h4
 exact h v' w1 (Bo.of h1 rfl rfl) h2 h4
open Sha (byteAt byteAt_get byteAt_lt)
set_option maxHeartbeats 8000000 in
theorem popen_any (iv kv : Value) (f : List UInt8) (ks : List ByteArray) (cn : Nat) (a : Int) (w : World) (hv : Bs w iv f) (hk : Ks w kv ks) (hf : f.length ≤ 40000) (hkn : ks.length ≤ 10) (hks : ∀ b ∈ ks,b.size ≤ 200) (hcn : cn < 4294967296) (hK : ArrAt w 0 0 .u32 64 Sha.K)
  (hV : ∀ kb,ks[(decMan (part f 68 (num f 64 4))).key.toNat]? = some kb → ∀ kv mv gv wq,ArrAt wq 0 0 .u32 64 Sha.K → Bs wq kv kb.data.toList → Bs wq mv (part f 68 (num f 64 4)) → Bs wq gv (part f 0 64) → Calls Tryd.prog 15 #[kv,mv,gv] wq fun e w' => e = .returned (.int .i64 a) ∧ Hp wq [] w') :
  Calls Tryd.prog 5 #[iv,kv,.int .u32 (cn : Int)] w fun e w' => ∃ c k p fv er,e = .returned (.tuple #[.agg #[c,k,p,fv],.int .i64 er]) ∧ OpAns f ks.length a cn (.agg #[c,k,p]) fv er w w' := by
 obtain ⟨ia,ic,rfl,hlc,hm⟩ := hv.shape
 unfold maxLen at hm
 have h0K := hK.lt (by decide)
 have hKu : ∀ {u : World},Upd (fun k => w.heap.size ≤ k) w u → ArrAt u 0 0 .u32 64 Sha.K := fun hu => hK.upd hu (by omega)
 obtain ⟨hkl,ka,kc,rfl,hkc,hkm,hkz,hkcell⟩ := hk
 unfold maxLen at hkm
 refine enter (args := [_,_,_]) (Γ := [(0,_),(1,_),(2,_)]) Tryd.func5 Tryd.ntmps5 rfl (of_decide_eq_true rfl) (.cons rfl (.cons rfl (.cons rfl .nil))) ?_
 by_cases hbig : (f.length : Int) > 32768
 ·have hd : decide ((f.length : Int) > 32768) = true := decide_eq_true hbig
  repeat' first | (apply Gt.outCT;exact rfl;infer_instance;exact rfl;exact rfl;(focus repeat constructor);(focus repeat constructor);intro w' hp) | refine Wl.move rfl rfl ?_ | refine Wl.assign rfl rfl ?_ | refine Wl.gtr rfl rfl rfl ?_ | refine Wl.len rfl rfl ?_ | (apply Wl.storeA;exact rfl;exact rfl;exact rfl;exact rfl;(focus repeat constructor);(repeat (first | apply LPut.s | apply LPut.z | apply LOver.nil | apply LOver.cons))) | (apply Wl.buildS;exact rfl;(repeat (first | exact Parts.nil | apply Parts.cons rfl));(repeat (first | apply Fills.nil | (apply Fills.one;exact rfl;exact rfl;(repeat (first | apply LSet.z | apply LSet.s))) | (apply Fills.agg;exact rfl;exact rfl;(repeat (first | apply LPut.s | apply LPut.z | apply LOver.nil | apply LOver.cons)))))) | (apply Wl.alloc;exact rfl;intro c hc ho) | apply Wl.nil | apply St.seq | apply St.region | (apply St.condT;exact rfl;(with_reducible first | rfl | assumption | decide)) | apply St.ret | apply Gt.next | apply Gt.thenRet
  exact ⟨_,_,_,_,_,rfl,opAns_err (opAll_err (by unfold opE;rw [if_pos (by omega)]) (by decide)) (hp.on (Upd.refl _ _) (by simp;omega))⟩
 have hd : decide ((f.length : Int) > 32768) = false := decide_eq_false hbig
 repeat' first | refine Wl.move rfl rfl ?_ | refine Wl.assign rfl rfl ?_ | refine Wl.gtr rfl rfl rfl ?_ | refine Wl.len rfl rfl ?_ | (apply Wl.alloc;exact rfl;intro c hc ho) | apply Wl.nil | apply St.seq | apply St.region | (apply St.condF;exact rfl;(with_reducible first | rfl | assumption | decide)) | apply St.skip | apply Gt.next
 generalize c = c6 at *
 have hc6 : w.heap.size ≤ c6 := by assumption
 apply Wl.callC
 ·exact rfl
 ·repeat constructor
 intro wq hq
 have hbw (wq : World) (H : List Blk) (hq : Hp w H wq) (hH : ∀ x ∈ H,w.heap.size ≤ x.b) : Bs wq (.slice ia f.length ic) f := hv.upd hq.upd fun j _ hj _ hno => hno (Off.of fun x hx e => by have := hH x hx;omega)
 refine (at_pos (.slice ia f.length ic) f wq (hbw wq _ hq (by simp;omega))).mono ?_
 rintro e wr ⟨c8,rfl,h8,hr⟩
 refine ⟨_,_,rfl,hq.callNew hr h8,?_⟩
 have hc8 : w.heap.size ≤ c8 := by have := hq.upd.size;omega
 have n68 : c6 < c8 := by have := hq.own.lt (.head _);simp only at this;omega
 clear hq hr h8
 have hv0 := left0 (.slice ia f.length ic) f
 repeat' first | refine Wl.makeF1 rfl rfl ?_ | refine Wl.move rfl rfl ?_ | refine Wl.assign rfl rfl ?_ | apply Wl.nil | apply St.seq | apply St.region | apply Gt.next
 apply Wl.callVB (bs := [.pointer (some ⟨c8,0,none⟩)]) (f := 12)
 ·exact rfl
 ·exact rfl
 ·infer_instance
 ·repeat constructor
 intro wq hq
 refine (take_pos c8 (.slice ia f.length ic) _ f 0 64 wq (hq.own.at (.head _)) (hbw _ _ hq (by simp;omega)) hv0).mono ?_
 rintro e wr ⟨xs,v1,rfl,hp,hv1,hxs⟩
 refine ⟨_,_,rfl,hq.callSet (by repeat constructor) hp,?_⟩
 clear hp hq wq wr
 repeat' first | refine Wl.move rfl rfl ?_ | refine Wl.assign rfl rfl ?_ | apply Wl.nil | apply St.seq | apply St.region | apply Gt.next
 apply Wl.callC
 exact rfl
 (focus repeat constructor)
 intro wq hq
 refine (u32_pos c8 (.slice ia f.length ic) _ f 64 wq (hq.own.at (.head _)) (hbw _ _ hq (by simp;omega)) hv1).mono ?_
 rintro e wr ⟨v2,rfl,hp,hv2⟩
 refine ⟨_,_,rfl,hq.callSet (by repeat constructor) hp,?_⟩
 clear hp hq wq wr
 have hn4 := num4 f 64
 by_cases hn2 : num f 64 4 > 32768
 ·have hd1 : decide ((num f 64 4 : Int) > 32768) = true := decide_eq_true (by omega)
  repeat' first | (apply Gt.outCT;exact rfl;infer_instance;exact rfl;exact rfl;(focus repeat constructor);(focus repeat constructor);intro w' hp) | refine Wl.move rfl rfl ?_ | refine Wl.assign rfl rfl ?_ | refine Wl.gtr rfl rfl rfl ?_ | (apply Wl.storeA;exact rfl;exact rfl;exact rfl;exact rfl;(focus repeat constructor);(repeat (first | apply LPut.s | apply LPut.z | apply LOver.nil | apply LOver.cons))) | (apply Wl.buildS;exact rfl;(repeat (first | exact Parts.nil | apply Parts.cons rfl));(repeat (first | apply Fills.nil | (apply Fills.one;exact rfl;exact rfl;(repeat (first | apply LSet.z | apply LSet.s))) | (apply Fills.agg;exact rfl;exact rfl;(repeat (first | apply LPut.s | apply LPut.z | apply LOver.nil | apply LOver.cons)))))) | apply Wl.nil | apply St.seq | apply St.region | (apply St.condT;exact rfl;(with_reducible first | rfl | assumption | decide)) | apply St.ret | apply Gt.next | apply Gt.thenRet
  exact ⟨_,_,_,_,_,rfl,opAns_err (opAll_err (by unfold opE;rw [if_neg (by omega),if_pos (by omega)]) (by decide)) (hp.on (Upd.refl _ _) (by simp;omega))⟩
 have hd1 : decide ((num f 64 4 : Int) > 32768) = false := decide_eq_false (by omega)
 repeat' first | refine Wl.move rfl rfl ?_ | refine Wl.assign rfl rfl ?_ | refine Wl.gtr rfl rfl rfl ?_ | (refine Wl.convI64 rfl rfl ?_ ?_;constructor <;> omega) | apply Wl.nil | apply St.seq | apply St.region | (apply St.condF;exact rfl;(with_reducible first | rfl | assumption | decide)) | apply St.skip | apply Gt.next
 apply Wl.callVB (bs := [.pointer (some ⟨c8,0,none⟩)]) (f := 12)
 ·exact rfl
 ·exact rfl
 ·infer_instance
 ·repeat constructor
 intro wq hq
 refine (take_pos c8 (.slice ia f.length ic) _ f 68 (num f 64 4) wq (hq.own.at (.head _)) (hbw _ _ hq (by simp;omega)) hv2).mono ?_
 rintro e wr ⟨xr,v3,rfl,hp,hv3,hxr⟩
 refine ⟨_,_,rfl,hq.callSet (by repeat constructor) hp,?_⟩
 clear hp hq wq wr
 repeat' first | refine Wl.move rfl rfl ?_ | refine Wl.assign rfl rfl ?_ | apply Wl.nil | apply St.seq | apply St.region | apply Gt.next
 apply Wl.callQ
 exact rfl
 (focus repeat constructor)
 ·intro wq hq
  exact hq.q (bad_any c8 v3 _ wq (hq.own.at (.head _)))
 by_cases hbad : f.length < 68 + num f 64 4
 ·have hd2 : decide (f.length < 68 + num f 64 4) = true := decide_eq_true hbad
  rw [hd2]
  repeat' first | (apply Gt.outCT;exact rfl;infer_instance;exact rfl;exact rfl;(focus repeat constructor);(focus repeat constructor);intro w' hp) | refine Wl.assign rfl rfl ?_ | (apply Wl.storeA;exact rfl;exact rfl;exact rfl;exact rfl;(focus repeat constructor);(repeat (first | apply LPut.s | apply LPut.z | apply LOver.nil | apply LOver.cons))) | (apply Wl.buildS;exact rfl;(repeat (first | exact Parts.nil | apply Parts.cons rfl));(repeat (first | apply Fills.nil | (apply Fills.one;exact rfl;exact rfl;(repeat (first | apply LSet.z | apply LSet.s))) | (apply Fills.agg;exact rfl;exact rfl;(repeat (first | apply LPut.s | apply LPut.z | apply LOver.nil | apply LOver.cons)))))) | apply Wl.nil | apply St.seq | apply St.region | (apply St.condT;exact rfl;(with_reducible first | rfl | assumption | decide)) | apply St.ret | apply Gt.next | apply Gt.thenRet
  exact ⟨_,_,_,_,_,rfl,opAns_err (opAll_err (by unfold opE;rw [if_neg (by omega),if_pos hbad]) (by decide)) (hp.on (Upd.refl _ _) (by simp;omega))⟩
 have hd2 : decide (f.length < 68 + num f 64 4) = false := decide_eq_false hbad
 rw [hd2]
 have hE1 : opE f ks.length a cn = if decErr (part f 68 (num f 64 4)) ≠ 0 then (decErr (part f 68 (num f 64 4)) : Int) else if (ks.length : Int) ≤ (decMan (part f 68 (num f 64 4))).key then 5 else if a ≠ 0 then a else if (decMan (part f 68 (num f 64 4))).counter < cn then 6 else 0 := by
  unfold opE
  rw [if_neg (by omega),if_neg hbad]
 have hR1 : opR f = opF f (decMan (part f 68 (num f 64 4))).pays (68 + num f 64 4) [] := rfl
 have hkey0 := decMan_key (part f 68 (num f 64 4))
 have hgl : (part f 68 (num f 64 4)).length ≤ 40000 := by
  unfold part
  rw [if_pos (by omega),List.length_take,List.length_drop]
  omega
 obtain ⟨va3,vc3,rfl,_,_⟩ := (hv3 w hv).shape
 generalize hn : num f 64 4 = n at *
 generalize hG : part f 68 n = G at *
 repeat' first | refine Wl.move rfl rfl ?_ | apply Wl.nil | apply St.seq | apply St.region | (apply St.condF;exact rfl;(with_reducible first | rfl | assumption | decide)) | apply St.skip | apply Gt.next
 apply Wl.callC
 ·exact rfl
 ·repeat constructor
 intro wq hq
 refine (decode_any xr G wq (hxr wq (hbw _ _ hq (by simp;omega))) hgl).mono ?_
 rintro e w2 ⟨mv,rfl,hmv,u2⟩
 have hq2 := hq.newer u2
 have s1 := hq.upd.size
 have s2 := u2.size
 have hall := fun x hx => hq.own.lt (x := x) hx
 simp only [List.mem_cons,List.not_mem_nil,or_false,forall_eq_or_imp,forall_eq] at hall
 have hu2 : Upd (fun k => w.heap.size ≤ k) w w2 := hq2.on (Upd.refl _ _) (by simp;omega)
 refine ⟨_,_,rfl,hq2.rb,?_⟩
 obtain ⟨pv,pys,rfl,hpys,hpsv,hpy,hctr,hkey⟩ := hmv
 have hown2 := hq2.own
 have hpsv' := hpsv
 obtain ⟨_,pa,pc,rfl,hpc1,hpc2,_,hpcell⟩ := hpsv'
 unfold maxLen at hpc2
 have hpb : pys ≠ [] → ∃ pb po,pa = some ⟨pb,po,none⟩ ∧ pb < w2.heap.size ∧ pb ≠ c8 ∧ pb ≠ c6 ∧ ∀ i (h : i < (pys.flatMap pyCells).length),w2.cell? ⟨pb,po + i,none⟩ = some (pys.flatMap pyCells)[i] := fun hne => by
  obtain ⟨y,r,rfl⟩ := List.exists_cons_of_ne_nil hne
  have hdl := (hpy y (by simp)).2.1
  have hl36 : 0 < ((y :: r).flatMap pyCells).length := by rw [List.flatMap_cons];unfold pyCells;simp;omega
  obtain ⟨pb,po,rfl,hc⟩ := hpcell (fun e => by rw [e] at hl36;cases hl36)
  have h0 := hc 0 hl36
  have hd0 : ∃ q : Int,((y :: r).flatMap pyCells)[0]? = some (.int .u8 q) := by
   rw [List.flatMap_cons]
   unfold pyCells byteCells
   cases hy : y.1.dig with
   | nil => rw [hy] at hdl;cases hdl
   | cons d ds => exact ⟨_,rfl⟩
  obtain ⟨q,hq0⟩ := hd0
  rw [List.getElem?_eq_getElem hl36] at hq0
  rw [Option.some.inj hq0] at h0
  have hlt := World.block_lt_of_cell? w2 _ h0
  have key : ∀ (x : Blk),x ∈ ([⟨c8,[.slice va3 (f.drop (68 + n)).length vc3,.bool false],66⟩,⟨c6,(Value.agg #[.int .u32 0,.int .i64 0,.slice none 0 0,.slice none 0 0]).cells.toList,31⟩] : List Blk) → (∀ v ∈ x.cs,∀ q,v ≠ .int .u8 q) → pb ≠ x.b := fun x hx hno e => by
   have hh := hown2.at hx
   rw [← e] at hh
   rw [cellAt hh] at h0
   exact hno _ (List.mem_of_getElem? (by simpa using h0)) q rfl
  exact ⟨pb,po,rfl,hlt,key _ (.head _) (by simp),key _ (.tail _ (.head _)) (by simp [Value.cells]),hc⟩
 clear hq hq2 u2
 have hp4 : pys.length ≤ 4 := by have := decMan_pays G;rw [← hpys,List.length_map] at this;exact this
 generalize hM : decMan G = M at *
 by_cases hde : decErr G = 0
 ·have hd3 : decide (((decErr G : Nat) : Int) ≠ 0) = false := decide_eq_false (by omega)
  by_cases hkk : (ks.length : Int) ≤ M.key
  ·have hd4 : decide (M.key ≥ (ks.length : Int)) = true := decide_eq_true hkk
   repeat' first | (apply Gt.outCT;exact rfl;infer_instance;exact rfl;exact rfl;(focus repeat constructor);(focus repeat constructor);intro w' hp) | refine Wl.move rfl rfl ?_ | refine Wl.assign rfl rfl ?_ | refine Wl.extract rfl rfl rfl ?_ | refine Wl.fieldAddrZ rfl rfl ?_ | (apply Wl.loadH;exact rfl;exact rfl;(focus repeat constructor);exact rfl) | refine Wl.neq rfl rfl rfl ?_ | refine Wl.geq rfl rfl rfl ?_ | refine Wl.len rfl rfl ?_ | (apply Wl.storeA;exact rfl;exact rfl;exact rfl;exact rfl;(focus repeat constructor);(repeat (first | apply LPut.s | apply LPut.z | apply LOver.nil | apply LOver.cons))) | (apply Wl.buildS;exact rfl;(repeat (first | exact Parts.nil | apply Parts.cons rfl));(repeat (first | apply Fills.nil | (apply Fills.one;exact rfl;exact rfl;(repeat (first | apply LSet.z | apply LSet.s))) | (apply Fills.agg;exact rfl;exact rfl;(repeat (first | apply LPut.s | apply LPut.z | apply LOver.nil | apply LOver.cons)))))) | (apply Wl.alloc;exact rfl;intro c hc ho) | apply Wl.nil | apply St.seq | apply St.block | apply St.region | (apply St.condT;exact rfl;(with_reducible first | rfl | assumption | decide)) | (apply St.condF;exact rfl;(with_reducible first | rfl | assumption | decide)) | apply St.ret | apply Gt.next | apply Gt.thenRet | apply Gt.inRet
   exact ⟨_,_,_,_,_,rfl,opAns_err (opAll_err (by rw [hE1,if_neg (fun h => h hde),if_pos hkk]) (by decide)) (hp.on hu2 (by simp;omega))⟩
  have hd4 : decide (M.key ≥ (ks.length : Int)) = false := decide_eq_false hkk
  obtain ⟨j,hj⟩ : ∃ j : Nat,M.key = (j : Int) := ⟨M.key.toNat,by omega⟩
  have hjl : j < ks.length := by omega
  obtain ⟨kg,ko,rfl,hkc1⟩ := hkcell (by intro e;have := congrArg List.length e;simp at this;subst this;simp at hjl)
  have hkj : w2.cell? ⟨kg,ko + (j : Int).toNat,none⟩ = some (.string ks[j]) := by
   have := hkc1 j (by rw [List.length_map];exact hjl)
   rw [List.getElem_map] at this
   rw [Int.toNat_natCast]
   refine hu2.cell this ?_
   have := World.block_lt_of_cell? w _ this
   simp only at this ⊢
   omega
  have hkg : kg < w.heap.size := World.block_lt_of_cell? w _ (hkc1 j (by rw [List.length_map];exact hjl))
  have hks2 : ks[j].size ≤ 200 := hks _ (List.getElem_mem hjl)
  have hVj := hV ks[j] (by rw [hj,Int.toNat_natCast];exact List.getElem?_eq_getElem hjl)
  have e6 : c6 ≠ kg := by omega
  have e8 : c8 ≠ kg := by omega
  rw [hj]
  have hd4' : decide ((j : Int) ≥ (ks.length : Int)) = false := decide_eq_false (by omega)
  repeat' first | (apply Wl.loadO;exact rfl;exact rfl;exact hkj;(refine ⟨?_,e8,e6,trivial⟩;(simp only);omega)) | refine Wl.move rfl rfl ?_ | refine Wl.assign rfl rfl ?_ | refine Wl.extract rfl rfl rfl ?_ | refine Wl.fieldAddrZ rfl rfl ?_ | (apply Wl.loadH;exact rfl;exact rfl;(focus repeat constructor);exact rfl) | refine Wl.neq rfl rfl rfl ?_ | refine Wl.geq rfl rfl rfl ?_ | refine Wl.len rfl rfl ?_ | (apply Wl.storeA;exact rfl;exact rfl;exact rfl;exact rfl;(focus repeat constructor);(repeat (first | apply LPut.s | apply LPut.z | apply LOver.nil | apply LOver.cons))) | (apply Wl.alloc;exact rfl;intro c hc ho) | (refine Wl.indexAddr1 rfl rfl rfl ?_ ?_;constructor <;> omega) | apply Wl.nil | apply St.seq | apply St.block | apply St.region | (apply St.condF;exact rfl;(with_reducible first | rfl | assumption | decide)) | apply St.skip | apply Gt.next | apply Gt.inNormal
  generalize c = c13 at *
  have hc13 : w2.heap.size ≤ c13 := by assumption
  have hH13 : ∀ x ∈ ([⟨c13,[.int .u32 M.counter,.int .i64 j,.slice pa pys.length pc],28⟩,⟨c8,[.slice va3 (f.drop (68 + n)).length vc3,.bool false],66⟩,⟨c6,(Value.agg #[.int .u32 0,.int .i64 0,.slice none 0 0,.slice none 0 0]).cells.toList,31⟩] : List Blk),w.heap.size ≤ x.b := by simp;omega
  apply Wl.reb
  intro w2' hw2
  refine ⟨hw2.own,hw2.apart,?_⟩
  have s2' := hw2.upd.size
  have hall2 := fun x hx => hw2.own.lt (x := x) hx
  simp only [List.mem_cons,List.not_mem_nil,or_false,forall_eq_or_imp,forall_eq] at hall2
  have hu2' : Upd (fun k => w.heap.size ≤ k) w w2' := hw2.on hu2 hH13
  apply Wl.convSB
  ·exact rfl
  ·exact rfl
  ·omega
  intro kv3 w3 hkb u3 hko
  have hu3 : Upd (fun k => w.heap.size ≤ k) w w3 := hu2'.comp u3 fun k hk hs => hs.elim id fun hs => offGe hH13 hs
  have s3 := u3.size
  repeat' first | refine Wl.move rfl rfl ?_
  apply Wl.callQ
  ·exact rfl
  ·repeat constructor
  ·intro wq hq
   have hbq : Bs wq (.slice ia f.length ic) f := hv.upd (hq.on hu3 hH13) fun q _ hq' _ hno => by omega
   exact hq.q (hVj _ _ _ wq (hKu (hq.on hu3 hH13)) (hkb.upd hq.upd fun q hq' _ _ hs => hs (hko q hq').2.1) (hxr wq hbq) (hxs wq hbq))
  by_cases ha : a = 0
  ·have hd5 : decide (a ≠ 0) = false := decide_eq_false (fun h => h ha)
   by_cases hcc : M.counter < cn
   ·have hd6 : decide ((M.counter : Int) < (cn : Int)) = true := decide_eq_true (by omega)
    repeat' first | (apply Gt.outCT;exact rfl;infer_instance;exact rfl;exact rfl;(focus repeat constructor);(focus repeat constructor);intro w' hp) | refine Wl.move rfl rfl ?_ | refine Wl.assign rfl rfl ?_ | refine Wl.fieldAddr0 rfl rfl ?_ | (apply Wl.loadH;exact rfl;exact rfl;(focus repeat constructor);exact rfl) | (apply Wl.neqIs;exact rfl;exact rfl;exact rfl;(first | with_reducible assumption | with_reducible rfl)) | refine Wl.lss rfl rfl rfl ?_ | (apply Wl.storeA;exact rfl;exact rfl;exact rfl;exact rfl;(focus repeat constructor);(repeat (first | apply LPut.s | apply LPut.z | apply LOver.nil | apply LOver.cons))) | (apply Wl.buildS;exact rfl;(repeat (first | exact Parts.nil | apply Parts.cons rfl));(repeat (first | apply Fills.nil | (apply Fills.one;exact rfl;exact rfl;(repeat (first | apply LSet.z | apply LSet.s))) | (apply Fills.agg;exact rfl;exact rfl;(repeat (first | apply LPut.s | apply LPut.z | apply LOver.nil | apply LOver.cons)))))) | apply Wl.nil | apply St.seq | apply St.region | (apply St.condT;exact rfl;(with_reducible first | rfl | assumption | decide)) | (apply St.condF;exact rfl;(with_reducible first | rfl | assumption | decide)) | apply St.ret | apply St.skip | apply Gt.next | apply Gt.thenRet
    exact ⟨_,_,_,_,_,rfl,opAns_err (opAll_err (by rw [hE1,if_neg (fun h => h hde),if_neg hkk,if_neg (fun h => h ha),if_pos hcc]) (by decide)) (hp.on hu3 hH13)⟩
   have hd6 : decide ((M.counter : Int) < (cn : Int)) = false := decide_eq_false (by omega)
   have hE0 : opE f ks.length a cn = 0 := by rw [hE1,if_neg (fun h => h hde),if_neg hkk,if_neg (fun h => h ha),if_neg hcc]
   repeat' first | refine Wl.move rfl rfl ?_ | refine Wl.assign rfl rfl ?_ | refine Wl.fieldAddr0 rfl rfl ?_ | refine Wl.fieldAddrZ rfl rfl ?_ | (apply Wl.loadH;exact rfl;exact rfl;(focus repeat constructor);exact rfl) | (apply Wl.neqIs;exact rfl;exact rfl;exact rfl;(first | with_reducible assumption | with_reducible rfl)) | refine Wl.lss rfl rfl rfl ?_ | refine Wl.len rfl rfl ?_ | (apply Wl.storeA;exact rfl;exact rfl;exact rfl;exact rfl;(focus repeat constructor);(repeat (first | apply LPut.s | apply LPut.z | apply LOver.nil | apply LOver.cons))) | (apply Wl.loadAH;exact rfl;exact rfl;(focus repeat constructor);(focus repeat constructor)) | (apply Wl.buildS;exact rfl;(repeat (first | exact Parts.nil | apply Parts.cons rfl));(repeat (first | apply Fills.nil | (apply Fills.one;exact rfl;exact rfl;(repeat (first | apply LSet.z | apply LSet.s))) | (apply Fills.agg;exact rfl;exact rfl;(repeat (first | apply LPut.s | apply LPut.z | apply LOver.nil | apply LOver.cons)))))) | (apply Wl.alloc;exact rfl;intro c hc ho) | apply Wl.nil | apply St.seq | apply St.block | apply St.region | (apply St.condF;exact rfl;(with_reducible first | rfl | assumption | decide)) | apply St.skip | apply Gt.next
   generalize c = c16 at *
   have hc16 : w3.heap.size ≤ c16 := by assumption
   apply St.base
   intro w4 hw4
   have s4 := hw4.upd.size
   have hall4 := fun x hx => hw4.own.lt (x := x) hx
   simp only [List.mem_cons,List.not_mem_nil,or_false,forall_eq_or_imp,forall_eq] at hall4
   have hu4 : Upd (fun k => w.heap.size ≤ k) w w4 := hw4.on hu3 (by simp;omega)
   refine St.loop (σ := Nat × Nat × Value × World × Value × List Value × List (List UInt8))
    (fun τ => τ.1 ≤ pys.length ∧ τ.2.1 ≤ f.length ∧ Left (.slice ia f.length ic) f τ.2.2.1 τ.2.1 ∧ opR f = opF f (M.pays.drop τ.1) τ.2.1 τ.2.2.2.2.2.2 ∧ Upd (fun q => w4.heap.size ≤ q ∨ q = c16 ∨ q = c13 ∨ q = c8 ∨ q = c6) w4 τ.2.2.2.1 ∧ τ.2.2.2.1.ownsRow w4.heap.size 22 1 τ.2.2.2.2.1 τ.1 τ.2.2.2.2.2.1 ∧ τ.2.2.2.2.2.2.length = τ.1 ∧ (∀ q x l,τ.2.2.2.2.2.1[q]? = some x → τ.2.2.2.2.2.2[q]? = some l → Bo τ.2.2.2.1 w4.heap.size x l ∧ ∀ k,x.ownBlock = some k → τ.2.2.2.2.1.ownBlock ≠ some k))
    (fun τ => [(6,.pointer (some ⟨c6,0,none⟩)),(8,.pointer (some ⟨c8,0,none⟩)),(9,.func (.func 12) #[.pointer (some ⟨c8,0,none⟩)] #[]),(16,.pointer (some ⟨c16,0,none⟩)),(80,.slice pa pys.length pc),(81,.int .i64 (pys.length : Int)),(82,.int .i64 (τ.1 : Int))])
    (fun τ => Hp τ.2.2.2.1 [⟨c16,[.int .u32 M.counter,.int .i64 j,.slice pa pys.length pc,τ.2.2.2.2.1],31⟩,⟨c13,[.int .u32 M.counter,.int .i64 j,.slice pa pys.length pc],28⟩,⟨c8,[τ.2.2.1,.bool (decide (f.length < τ.2.1))],66⟩,⟨c6,(Value.agg #[.int .u32 0,.int .i64 0,.slice none 0 0,.slice none 0 0]).cells.toList,31⟩])
    (fun τ => pys.length - τ.1) (0,68 + n,.slice va3 (f.drop (68 + n)).length vc3,w4,.slice none 0 0,[],[]) ⟨Nat.zero_le _,by simp only;omega,hv3,hR1,Upd.refl _ _,⟨rfl,.inl ⟨rfl,rfl⟩⟩,rfl,by intro q x l hx;cases (List.getElem?_nil (α := Value) (i := q)).symm.trans hx⟩ (by repeat constructor) (fun _ h => by simp only [hd2];exact h) ?_
   rintro ⟨i,k,vc,w0,fv,vs,acc⟩ ⟨hi,hkf,hvc,hop,hu0,hrow,hal,hfs⟩
   simp only at hi hkf hvc hop hu0 hrow hal hfs ⊢
   have s40 := hu0.size
   have huw : Upd (fun q => w.heap.size ≤ q) w w0 := hu4.comp hu0 fun q hq hs => by omega
   have hvs : vs.length = i := by have := hrow.1;omega
   obtain ⟨_,fa,fc,rfl,_⟩ := Sv.ofOwn hrow
   have hbX : ∀ {H' : List Blk} {wq : World},Hp w0 H' wq → (∀ q,q < w.heap.size → Off H' q) → Bs wq (.slice ia f.length ic) f := fun hq hO => (hv.upd huw fun q _ hq' _ hs => by omega).upd hq.upd fun q hown hlt hne hno => hno (hO q (hv.oldB hne q hown))
   have hbf0 : decide (f.length < k) = false := decide_eq_false (by omega)
   by_cases hlt : i < pys.length
   ·have hd7 : decide ((i : Int) < (pys.length : Int)) = true := decide_eq_true (by omega)
    obtain ⟨pb,po,rfl,hpbl,hb8,hb6,hpc⟩ := hpb (fun e => by subst e;cases hlt)
    obtain ⟨y,hy⟩ : ∃ y,pys[i]? = some y := ⟨_,List.getElem?_eq_getElem hlt⟩
    have hym : y ∈ pys := List.mem_of_getElem? hy
    obtain ⟨_,hdl,hsz,_⟩ := hpy y hym
    have hdv : byteCells y.1.dig = cellsN .u8 32 (byteAt y.1.dig) := by
     rw [← hdl]
     refine List.ext_getElem (by simp [byteCells,cellsN]) fun q h1 h2 => ?_
     have hq' : q < y.1.dig.length := by simpa [byteCells] using h1
     simp [byteCells,cellsN,byteAt_get hq']
    have hcell : ∀ q v,(cellsN .u8 32 (byteAt y.1.dig) ++ [Value.int .u32 (y.1.size : Int),.int .u32 (y.1.bias : Int),y.2,.int .i64 y.1.calls])[q]? = some v → w0.cell? ⟨pb,po + (i : Int).toNat * 36 + q,none⟩ = some v := fun q v hq => by
     have h36 : q < 36 := by
      obtain ⟨h1,_⟩ := List.getElem?_eq_some_iff.1 hq
      simpa [cellsN] using h1
     rw [← hdv] at hq
     have h1 := flatE (g := pyCells) (m := 36) (fun x hx => pyCells_len x (hpy x hx).2.1) hy h36
     unfold pyCells at h1
     rw [hq] at h1
     obtain ⟨h2,h3⟩ := List.getElem?_eq_some_iff.1 h1
     have h4 := hpc _ h2
     unfold pyCells at h4
     rw [h3] at h4
     rw [Int.toNat_natCast,Nat.add_assoc]
     exact hu0.cell (hw4.upd.cell (u3.cell (hw2.upd.cell h4 fun hs => hs ⟨by simp only;omega,hb8.symm,hb6.symm,trivial⟩) fun hs => hs ⟨by simp only;omega,hb8.symm,hb6.symm,trivial⟩) fun hs => hs ⟨by simp only;omega,by simp only;omega,hb8.symm,hb6.symm,trivial⟩) (by simp only;omega)
    have hdrop : M.pays.drop i = y.1 :: M.pays.drop (i + 1) := by
     have : M.pays[i]? = some y.1 := by rw [← hpys,List.getElem?_map,hy];rfl
     obtain ⟨h1,h2⟩ := List.getElem?_eq_some_iff.1 this
     rw [List.drop_eq_getElem_cons h1,h2]
    repeat' first | (apply Wl.loadAF (xs := cellsN .u8 32 (byteAt y.1.dig) ++ [Value.int .u32 (y.1.size : Int),.int .u32 (y.1.bias : Int),y.2,.int .i64 y.1.calls]);exact rfl;exact rfl;exact pay_len _ _ _ _ _;(intro wq hq q v hq';rw [addLit];exact hq.old (hcell q v hq') (by show Off _ pb;(repeat (first | exact trivial | exact hX.off (by omega) | refine ⟨by first | assumption | omega | (simp only;omega),?_⟩))))) | (apply Wl.storeAll (n := 36);exact rfl;exact rfl;(focus repeat constructor);exact pay_len _ _ _ _ _;exact rfl;exact pay_one (hpy y hym).1) | (apply Wl.loadH;exact rfl;exact rfl;(focus repeat constructor);exact pay_32 _ _ _) | refine Wl.move rfl rfl ?_ | refine Wl.fieldAddrZ rfl rfl ?_ | refine Wl.lss rfl rfl rfl ?_ | (refine Wl.convI64 rfl rfl ?_ ?_;constructor <;> omega) | (apply Wl.alloc;exact rfl;intro c hc ho) | (refine Wl.indexAddr rfl rfl rfl ?_ ?_;constructor <;> omega) | apply Wl.nil | apply St.seq | apply St.block | apply St.region | (apply St.condT;exact rfl;(with_reducible first | rfl | assumption | decide)) | apply St.skip | apply Gt.next
    generalize c = c18 at *
    have hc18 : w0.heap.size ≤ c18 := by assumption
    apply Wl.callVB (bs := [.pointer (some ⟨c8,0,none⟩)]) (f := 12)
    ·exact rfl
    ·exact rfl
    ·infer_instance
    ·repeat constructor
    intro wq hq
    refine (take_pos c8 (.slice ia f.length ic) vc f k y.1.size wq (hq.own.at (.tail _ (.tail _ (.tail _ (.head _))))) (hbX hq fun q hq => by (repeat (first | exact trivial | exact hX.off (by omega) | refine ⟨by first | assumption | omega | (simp only;omega),?_⟩))) hvc).mono ?_
    rintro e wr ⟨xf,v',rfl,hp,hv',hxf⟩
    refine ⟨_,_,rfl,hq.callSet (by repeat constructor) hp,?_⟩
    clear hp hq wq wr
    repeat' first | refine Wl.move rfl rfl ?_ | refine Wl.assign rfl rfl ?_ | apply Wl.nil | apply St.seq | apply St.region | apply Gt.next
    apply Wl.callQ
    exact rfl
    (focus repeat constructor)
    ·intro wq hq
     refine (bad_any c8 v' _ wq (hq.own.at (.tail _ (.tail _ (.tail _ (.head _)))))).mono ?_
     rintro e wr ⟨rfl,hr⟩
     exact ⟨rfl,hq.keep hr⟩
    by_cases hbd : f.length < k + y.1.size
    ·have hd8 : decide (f.length < k + y.1.size) = true := decide_eq_true hbd
     rw [hd8]
     repeat' first | (apply Gt.outCT;exact rfl;infer_instance;exact rfl;exact rfl;(focus repeat constructor);(focus repeat constructor);intro w' hp) | refine Wl.assign rfl rfl ?_ | (apply Wl.storeA;exact rfl;exact rfl;exact rfl;exact rfl;(focus repeat constructor);(repeat (first | apply LPut.s | apply LPut.z | apply LOver.nil | apply LOver.cons))) | (apply Wl.buildS;exact rfl;(repeat (first | exact Parts.nil | apply Parts.cons rfl));(repeat (first | apply Fills.nil | (apply Fills.one;exact rfl;exact rfl;(repeat (first | apply LSet.z | apply LSet.s))) | (apply Fills.agg;exact rfl;exact rfl;(repeat (first | apply LPut.s | apply LPut.z | apply LOver.nil | apply LOver.cons)))))) | apply Wl.nil | apply St.seq | apply St.region | (apply St.condT;exact rfl;(with_reducible first | rfl | assumption | decide)) | apply St.ret | apply Gt.next | apply Gt.thenRet | apply Gt.inRet
     exact ⟨_,_,_,_,_,rfl,opAns_err (opAll_bad hE0 (by rw [hop,hdrop];unfold opF;rw [if_pos hbd]) (by decide)) (hp.on huw (by simp;omega))⟩
    have hd8 : decide (f.length < k + y.1.size) = false := decide_eq_false hbd
    rw [hd8]
    have hpkl : (part f k y.1.size).length ≤ 40000 := by
     unfold part
     rw [if_pos (by omega),List.length_take,List.length_drop]
     omega
    have s31 := huw.size
    have hKw0 := hKu huw
    have hlt8 : ∀ q,Sha.of (part f k y.1.size) q < 256 := fun q => by rw [Sha.of_eq];exact Nat.mod_lt _ (by decide)
    have hsd : shaL (part f k y.1.size) = y.1.dig ↔ ∀ j,j < 32 → Sha.of (part f k y.1.size) j = byteAt y.1.dig j := by
     constructor
     ·intro e q hq
      rw [← e,byteAt_get (by rw [shaL_len];exact hq)]
      simp only [shaL,List.getElem_map,List.getElem_range]
      rw [UInt8.toNat_ofNat']
      exact (Nat.mod_eq_of_lt (hlt8 q)).symm
     ·intro e
      refine List.ext_getElem (by rw [shaL_len,hdl]) fun q h1 h2 => ?_
      have hq : q < 32 := by rw [shaL_len] at h1;exact h1
      have := e q hq
      rw [byteAt_get h2] at this
      simp only [shaL,List.getElem_map,List.getElem_range]
      rw [this]
      simp
    by_cases hsm : shaL (part f k y.1.size) = y.1.dig
    ·have hbb := fun (_ : true = true) => hsd.1 hsm
     have hbt : true = true ↔ ∀ j,j < 32 → Sha.of (part f k y.1.size) j = byteAt y.1.dig j := ⟨hbb,fun _ => rfl⟩
     repeat' first | (apply St.bagX (i := 29) 5 [4];exact mixed;(decide +kernel);kernel_rfl) | (apply Wl.loadAH;exact rfl;exact rfl;(focus repeat constructor);exact LSub.pre (cellsN_len _ _ _)) | (apply Wl.callQ (f := 16);exact rfl;(focus repeat constructor);(intro wq hq;refine (shaOf xf (part f k y.1.size) wq (hxf wq (hbX hq fun q hq' => by (repeat (first | exact trivial | exact hX.off (by omega) | refine ⟨by first | assumption | omega | (simp only;omega),?_⟩)))) (by omega) (fun hne => (hxf wq (hbX hq fun q hq' => by (repeat (first | exact trivial | exact hX.off (by omega) | refine ⟨by first | assumption | omega | (simp only;omega),?_⟩)))).oldB hne) (hKw0.upd hq.upd (fun y => y (by (repeat (first | exact trivial | exact hX.off (by omega) | refine ⟨by first | assumption | omega | (simp only;omega),?_⟩)))))).mono ?_;rintro e wr ⟨rfl,hr⟩;exact ⟨rfl,hq.keep hr⟩)) | (apply Wl.neqA;exact rfl;exact rfl;exact rfl;kernel_rfl;kernel_rfl;kernel_rfl;kernel_rfl;(exact fun j _ => byte8 (hlt8 j));(exact fun j _ => byte8 (byteAt_lt _ j));exact hbt) | apply OpsX.nil | (apply OpsX.v;(intro X hX;change Wl [_] _ _ _ _ _ _ _;apply Wl.catX;(focus repeat constructor))) | (apply Gt.endX;exact rfl) | (apply EndX.on;exact rfl) | (apply EndX.off;exact rfl) | (apply EndX.nil';apply Wl.catE;(focus repeat constructor)) | refine Wl.move rfl rfl ?_ | refine Wl.fieldAddr0 rfl rfl ?_ | apply Wl.nil | apply St.seq | (apply St.condF;exact rfl;(with_reducible first | rfl | assumption | decide)) | apply St.skip | apply Gt.next
     have hbw0 : Bs w (.slice ia f.length ic) f := hv
     have hfx0 := hxf w hv
     have hfx := hxf w0 (hv.upd huw fun q _ hq' _ hs => by omega)
     obtain ⟨xa,xc,rfl,_,_⟩ := hfx.shape
     refine St.tree (fun _ => True) mixed (fun _ h => ⟨Hp.drew h,trivial⟩) ?_
     refine Mt.pure 0 (by decide +kernel) (by exact rfl) (by exact rfl) (by decide +kernel) (by decide +kernel) ?_
     repeat' first | refine Wl.fieldAddrZ rfl rfl ?_ | apply Wl.nilM
     apply Mt.back
     refine Mt.pure 2 (by decide +kernel) (by exact rfl) (by exact rfl) (by decide +kernel) (by decide +kernel) ?_
     repeat' first | refine Wl.move rfl rfl ?_ | apply Wl.nilM
     apply Mt.back
     refine Mt.eff2 (i := 1) (j := 3) (by decide +kernel) (by exact rfl) (by exact rfl) ?_ ?_
     ·skip
      repeat' first | (apply Wl.loadH;exact rfl;exact rfl;(focus repeat constructor);exact rfl) | apply Wl.nil
      refine Mt.backE (fun _ _ => trivial) ?_
      refine Mt.eff1 (i := 3) (by decide +kernel) (by exact rfl) ?_
      apply Wl.appBs7 (v := .slice none 0 0) (l := []) (m := part f k y.1.size) (base := w4.heap.size)
      ·exact rfl
      ·exact rfl
      ·exact rfl
      ·exact Bo.nil _ _
      ·exact hfx
      ·intro q hq hq' hne
       have := hfx0.oldB hne q hq
       (repeat (first | exact trivial | exact hX.off (by omega) | refine ⟨by first | assumption | omega | (simp only;omega),?_⟩))
      ·intro q hq
       cases hq
      ·simp only [List.length_nil];omega
      ·exact s40
      intro x1 w1 hb1 u1 hoff1
      obtain ⟨x1a,x1c,rfl,_,_⟩ := hb1.shape
      have s10 := u1.size
      repeat' first | apply Wl.nil
      refine Mt.backE (fun _ _ => trivial) ?_
      refine Mt.eff1 (i := 4) (by decide +kernel) (by exact rfl) ?_
      apply Wl.lit
      ·exact rfl
      ·(repeat (first | exact Parts.nil | apply Parts.cons rfl))
      ·exact rfl
      ·exact rfl
      ·(repeat (first | apply CatP.nil | (apply CatP.one;exact rfl;exact rfl) | (apply CatP.agg;exact rfl) | apply LApp.nil | apply LApp.cons))
      intro d hd hod
      repeat' first | apply Wl.nil
      refine Mt.backE (fun _ _ => trivial) ?_
      refine Mt.eff1 (i := 5) (by decide +kernel) (by exact rfl) ?_
      have hrow1 := ownsRow_upd hrow u1 fun q hq y => y.elim (fun e => by cases e) fun ho => ho (by have := hrow.lt q hq;(repeat (first | exact trivial | exact hX.off (by omega) | refine ⟨by first | assumption | omega | (simp only;omega),?_⟩)))
      apply Wl.appendT
      ·exact rfl
      ·exact rfl
      ·exact rfl
      ·exact hd
      ·exact rfl
      ·exact hrow1
      ·intro q hq
       have := hrow.lt q hq
       (repeat (first | exact trivial | exact hX.off (by omega) | refine ⟨by first | assumption | omega | (simp only;omega),?_⟩))
      ·exact rfl
      ·exact rfl
      ·decide
      ·unfold maxLen;omega
      ·omega
      ·omega
      intro v5 w5 ho5 u5 _ hoff5
      obtain ⟨_,va,vk,rfl,_⟩ := Sv.ofOwn ho5
      have s51 := u5.size
      repeat' first | apply Wl.nil
      refine Mt.backE (fun _ _ => trivial) ?_
      refine Mt.pure 6 (by decide +kernel) (by exact rfl) (by exact rfl) (by decide +kernel) (by decide +kernel) ?_
      repeat' first | refine Wl.fieldAddrZ rfl rfl ?_ | apply Wl.nilM
      apply Mt.back
      refine Mt.eff1 (i := 7) (by decide +kernel) (by exact rfl) ?_
      apply Wl.reb (H' := [⟨c16,[.int .u32 M.counter,.int .i64 j,.slice (some ⟨pb,po,none⟩) pys.length pc,.slice fa i fc],31⟩,⟨c13,[.int .u32 M.counter,.int .i64 j,.slice (some ⟨pb,po,none⟩) pys.length pc],28⟩,⟨c8,[v',.bool false],66⟩,⟨c6,(Value.agg #[.int .u32 0,.int .i64 0,.slice none 0 0,.slice none 0 0]).cells.toList,31⟩])
      intro w6 hw6
      refine ⟨hw6.own.2,hw6.apart.2,?_⟩
      have s65 := hw6.upd.size
      have huA : Upd (fun q => w4.heap.size ≤ q ∨ q = c16 ∨ q = c13 ∨ q = c8 ∨ q = c6) w4 w6 := by
       refine ((hu0.comp (T := fun q => w4.heap.size ≤ q ∨ q = c16 ∨ q = c13 ∨ q = c8 ∨ q = c6) u1 ?_).comp (T := fun q => w4.heap.size ≤ q ∨ q = c16 ∨ q = c13 ∨ q = c8 ∨ q = c6) u5 ?_).comp hw6.upd ?_
       ·intro q hq hs
        rcases hs with hs | hs | hs
        ·exact hs
        ·cases hs
        ·have := off5 hs
         simp only at this
         omega
       ·intro q hq hs
        rcases hs with hs | hs | hs
        ·exact hs
        ·exact .inl (hrow.lt q hs).1
        ·have := off5 hs
         simp only at this
         omega
       ·intro q hq hs
        rcases hs with hs | hs
        ·exact hs
        ·have := off5 hs
         simp only at this
         omega
      have hrowA : w6.ownsRow w4.heap.size 22 1 (.slice va (i + 1) vk) (i + 1) (vs ++ [Value.slice x1a ([] ++ part f k y.1.size).length x1c]) := ownsRow_upd ho5 hw6.upd fun q hq y => y (hoff5 q hq).1
      have hfA : ∀ (q : Nat) (x : Value) (l : List UInt8),(vs ++ [Value.slice x1a ([] ++ part f k y.1.size).length x1c])[q]? = some x → (acc ++ [part f k y.1.size])[q]? = some l → Bo w6 w4.heap.size x l ∧ ∀ k,x.ownBlock = some k → (Value.slice va (i + 1) vk).ownBlock ≠ some k := by
       intro q x l hx hl
       by_cases hqi : q < i
       ·rw [List.getElem?_append_left (by omega)] at hx hl
        obtain ⟨g1,g2⟩ := hfs q x l hx hl
        have g0 : ∀ k,x.ownBlock = some k → w4.heap.size ≤ k ∧ k < w0.heap.size := fun k hk => g1.lt k hk
        refine ⟨((g1.upd u1 fun q hq y => ?_).upd u5 fun q hq y => ?_).upd hw6.upd fun q hq y => ?_,fun q hq e => ?_⟩
        ·have := g0 q hq
         exact y.elim (fun e => by cases e) fun ho => ho (by (repeat (first | exact trivial | exact hX.off (by omega) | refine ⟨by first | assumption | omega | (simp only;omega),?_⟩)))
        ·have := g0 q hq
         exact y.elim (fun e => g2 q hq e) fun ho => ho (by (repeat (first | exact trivial | exact hX.off (by omega) | refine ⟨by first | assumption | omega | (simp only;omega),?_⟩)))
        ·have := g0 q hq
         exact y (by (repeat (first | exact trivial | exact hX.off (by omega) | refine ⟨by first | assumption | omega | (simp only;omega),?_⟩)))
        ·have := g0 q hq
         rcases (hoff5 q e).2 with e' | e'
         ·exact g2 q hq e'
         ·omega
       ·obtain ⟨h1,_⟩ := List.getElem?_eq_some_iff.1 hx
        rw [List.length_append,List.length_singleton] at h1
        rw [List.getElem?_append_right (by omega),show q - vs.length = 0 by omega] at hx
        rw [List.getElem?_append_right (by omega),show q - acc.length = 0 by omega] at hl
        cases hx
        cases hl
        have g0 : ∀ k,(Value.slice x1a ([] ++ part f k y.1.size).length x1c).ownBlock = some k → True := fun _ _ => trivial
        refine ⟨(Bo.upd (l := [] ++ part f k y.1.size) (hb1.upd u5 fun q hq y => ?_) hw6.upd fun q hq y => ?_),fun q hq e => ?_⟩
        ·obtain ⟨h2,h3⟩ := hoff1 q hq
         rcases h3 with h3 | h3
         ·cases h3
         rcases y with y | y
         ·have := (hrow.lt q y).2
          omega
         ·exact y h2
        ·exact y (hoff1 q hq).1
        ·obtain ⟨h2,h3⟩ := hoff1 q hq
         have h4 := (hb1.lt q hq).2
         rcases h3 with h3 | h3
         ·cases h3
         rcases (hoff5 q e).2 with e' | e'
         ·have := (hrow.lt q e').2
          omega
         ·omega
      repeat' first | (apply Wl.store;exact rfl;exact rfl;exact rfl;(focus repeat constructor);(repeat (first | apply LSet.z | apply LSet.s))) | apply Wl.nil
      refine Mt.backE (fun _ _ => trivial) ?_
      refine Mt.toGt (by decide +kernel) ?_
      repeat' first | refine Wl.move rfl rfl ?_ | (refine Wl.addI rfl rfl rfl ?_ ?_;constructor <;> omega) | apply Wl.nil | apply St.region | apply Gt.next | apply Gt.inNormal
      apply Gt.round (i + 1,k + y.1.size,v',w6,.slice va (i + 1) vk,vs ++ [.slice x1a ([] ++ part f k y.1.size).length x1c],acc ++ [part f k y.1.size])
      rotate_left
      ·simp only;omega
      ·repeat constructor
      ·intro _ h
       simp only [hd8]
       exact h
      refine ⟨hlt,by simp only;omega,hv',?_,huA,hrowA,by simp only [List.length_append,List.length_singleton];omega,hfA⟩
      rw [hop,hdrop]
      show opF f (y.1 :: M.pays.drop (i + 1)) k acc = opF f (M.pays.drop (i + 1)) (k + y.1.size) (acc ++ [part f k y.1.size])
      conv => lhs;unfold opF
      rw [if_neg hbd,if_neg (fun h => h hsm)]
     ·skip
      apply Wl.appBs7 (v := .slice none 0 0) (l := []) (m := part f k y.1.size) (base := w4.heap.size)
      ·exact rfl
      ·exact rfl
      ·exact rfl
      ·exact Bo.nil _ _
      ·exact hfx
      ·intro q hq hq' hne
       have := hfx0.oldB hne q hq
       (repeat (first | exact trivial | exact hX.off (by omega) | refine ⟨by first | assumption | omega | (simp only;omega),?_⟩))
      ·intro q hq
       cases hq
      ·simp only [List.length_nil];omega
      ·exact s40
      intro x1 w1 hb1 u1 hoff1
      obtain ⟨x1a,x1c,rfl,_,_⟩ := hb1.shape
      have s10 := u1.size
      repeat' first | apply Wl.nil
      refine Mt.backE (fun _ _ => trivial) ?_
      refine Mt.eff2 (i := 1) (j := 4) (by decide +kernel) (by exact rfl) (by exact rfl) ?_ ?_
      ·skip
       repeat' first | (apply Wl.loadH;exact rfl;exact rfl;(focus repeat constructor);exact rfl) | apply Wl.nil
       refine Mt.backE (fun _ _ => trivial) ?_
       refine Mt.eff1 (i := 4) (by decide +kernel) (by exact rfl) ?_
       apply Wl.lit
       ·exact rfl
       ·(repeat (first | exact Parts.nil | apply Parts.cons rfl))
       ·exact rfl
       ·exact rfl
       ·(repeat (first | apply CatP.nil | (apply CatP.one;exact rfl;exact rfl) | (apply CatP.agg;exact rfl) | apply LApp.nil | apply LApp.cons))
       intro d hd hod
       repeat' first | apply Wl.nil
       refine Mt.backE (fun _ _ => trivial) ?_
       refine Mt.eff1 (i := 5) (by decide +kernel) (by exact rfl) ?_
       have hrow1 := ownsRow_upd hrow u1 fun q hq y => y.elim (fun e => by cases e) fun ho => ho (by have := hrow.lt q hq;(repeat (first | exact trivial | exact hX.off (by omega) | refine ⟨by first | assumption | omega | (simp only;omega),?_⟩)))
       apply Wl.appendT
       ·exact rfl
       ·exact rfl
       ·exact rfl
       ·exact hd
       ·exact rfl
       ·exact hrow1
       ·intro q hq
        have := hrow.lt q hq
        (repeat (first | exact trivial | exact hX.off (by omega) | refine ⟨by first | assumption | omega | (simp only;omega),?_⟩))
       ·exact rfl
       ·exact rfl
       ·decide
       ·unfold maxLen;omega
       ·omega
       ·omega
       intro v5 w5 ho5 u5 _ hoff5
       obtain ⟨_,va,vk,rfl,_⟩ := Sv.ofOwn ho5
       have s51 := u5.size
       repeat' first | apply Wl.nil
       refine Mt.backE (fun _ _ => trivial) ?_
       refine Mt.pure 6 (by decide +kernel) (by exact rfl) (by exact rfl) (by decide +kernel) (by decide +kernel) ?_
       repeat' first | refine Wl.fieldAddrZ rfl rfl ?_ | apply Wl.nilM
       apply Mt.back
       refine Mt.eff1 (i := 7) (by decide +kernel) (by exact rfl) ?_
       apply Wl.reb (H' := [⟨c16,[.int .u32 M.counter,.int .i64 j,.slice (some ⟨pb,po,none⟩) pys.length pc,.slice fa i fc],31⟩,⟨c13,[.int .u32 M.counter,.int .i64 j,.slice (some ⟨pb,po,none⟩) pys.length pc],28⟩,⟨c8,[v',.bool false],66⟩,⟨c6,(Value.agg #[.int .u32 0,.int .i64 0,.slice none 0 0,.slice none 0 0]).cells.toList,31⟩])
       intro w6 hw6
       refine ⟨hw6.own.2,hw6.apart.2,?_⟩
       have s65 := hw6.upd.size
       have huA : Upd (fun q => w4.heap.size ≤ q ∨ q = c16 ∨ q = c13 ∨ q = c8 ∨ q = c6) w4 w6 := by
        refine ((hu0.comp (T := fun q => w4.heap.size ≤ q ∨ q = c16 ∨ q = c13 ∨ q = c8 ∨ q = c6) u1 ?_).comp (T := fun q => w4.heap.size ≤ q ∨ q = c16 ∨ q = c13 ∨ q = c8 ∨ q = c6) u5 ?_).comp hw6.upd ?_
        ·intro q hq hs
         rcases hs with hs | hs | hs
         ·exact hs
         ·cases hs
         ·have := off5 hs
          simp only at this
          omega
        ·intro q hq hs
         rcases hs with hs | hs | hs
         ·exact hs
         ·exact .inl (hrow.lt q hs).1
         ·have := off5 hs
          simp only at this
          omega
        ·intro q hq hs
         rcases hs with hs | hs
         ·exact hs
         ·have := off5 hs
          simp only at this
          omega
       have hrowA : w6.ownsRow w4.heap.size 22 1 (.slice va (i + 1) vk) (i + 1) (vs ++ [Value.slice x1a ([] ++ part f k y.1.size).length x1c]) := ownsRow_upd ho5 hw6.upd fun q hq y => y (hoff5 q hq).1
       have hfA : ∀ (q : Nat) (x : Value) (l : List UInt8),(vs ++ [Value.slice x1a ([] ++ part f k y.1.size).length x1c])[q]? = some x → (acc ++ [part f k y.1.size])[q]? = some l → Bo w6 w4.heap.size x l ∧ ∀ k,x.ownBlock = some k → (Value.slice va (i + 1) vk).ownBlock ≠ some k := by
        intro q x l hx hl
        by_cases hqi : q < i
        ·rw [List.getElem?_append_left (by omega)] at hx hl
         obtain ⟨g1,g2⟩ := hfs q x l hx hl
         have g0 : ∀ k,x.ownBlock = some k → w4.heap.size ≤ k ∧ k < w0.heap.size := fun k hk => g1.lt k hk
         refine ⟨((g1.upd u1 fun q hq y => ?_).upd u5 fun q hq y => ?_).upd hw6.upd fun q hq y => ?_,fun q hq e => ?_⟩
         ·have := g0 q hq
          exact y.elim (fun e => by cases e) fun ho => ho (by (repeat (first | exact trivial | exact hX.off (by omega) | refine ⟨by first | assumption | omega | (simp only;omega),?_⟩)))
         ·have := g0 q hq
          exact y.elim (fun e => g2 q hq e) fun ho => ho (by (repeat (first | exact trivial | exact hX.off (by omega) | refine ⟨by first | assumption | omega | (simp only;omega),?_⟩)))
         ·have := g0 q hq
          exact y (by (repeat (first | exact trivial | exact hX.off (by omega) | refine ⟨by first | assumption | omega | (simp only;omega),?_⟩)))
         ·have := g0 q hq
          rcases (hoff5 q e).2 with e' | e'
          ·exact g2 q hq e'
          ·omega
        ·obtain ⟨h1,_⟩ := List.getElem?_eq_some_iff.1 hx
         rw [List.length_append,List.length_singleton] at h1
         rw [List.getElem?_append_right (by omega),show q - vs.length = 0 by omega] at hx
         rw [List.getElem?_append_right (by omega),show q - acc.length = 0 by omega] at hl
         cases hx
         cases hl
         have g0 : ∀ k,(Value.slice x1a ([] ++ part f k y.1.size).length x1c).ownBlock = some k → True := fun _ _ => trivial
         refine ⟨(Bo.upd (l := [] ++ part f k y.1.size) (hb1.upd u5 fun q hq y => ?_) hw6.upd fun q hq y => ?_),fun q hq e => ?_⟩
         ·obtain ⟨h2,h3⟩ := hoff1 q hq
          rcases h3 with h3 | h3
          ·cases h3
          rcases y with y | y
          ·have := (hrow.lt q y).2
           omega
          ·exact y h2
         ·exact y (hoff1 q hq).1
         ·obtain ⟨h2,h3⟩ := hoff1 q hq
          have h4 := (hb1.lt q hq).2
          rcases h3 with h3 | h3
          ·cases h3
          rcases (hoff5 q e).2 with e' | e'
          ·have := (hrow.lt q e').2
           omega
          ·omega
       repeat' first | (apply Wl.store;exact rfl;exact rfl;exact rfl;(focus repeat constructor);(repeat (first | apply LSet.z | apply LSet.s))) | apply Wl.nil
       refine Mt.backE (fun _ _ => trivial) ?_
       refine Mt.toGt (by decide +kernel) ?_
       repeat' first | refine Wl.move rfl rfl ?_ | (refine Wl.addI rfl rfl rfl ?_ ?_;constructor <;> omega) | apply Wl.nil | apply St.region | apply Gt.next | apply Gt.inNormal
       apply Gt.round (i + 1,k + y.1.size,v',w6,.slice va (i + 1) vk,vs ++ [.slice x1a ([] ++ part f k y.1.size).length x1c],acc ++ [part f k y.1.size])
       rotate_left
       ·simp only;omega
       ·repeat constructor
       ·intro _ h
        simp only [hd8]
        exact h
       refine ⟨hlt,by simp only;omega,hv',?_,huA,hrowA,by simp only [List.length_append,List.length_singleton];omega,hfA⟩
       rw [hop,hdrop]
       show opF f (y.1 :: M.pays.drop (i + 1)) k acc = opF f (M.pays.drop (i + 1)) (k + y.1.size) (acc ++ [part f k y.1.size])
       conv => lhs;unfold opF
       rw [if_neg hbd,if_neg (fun h => h hsm)]
      ·skip
       apply Wl.lit
       ·exact rfl
       ·(repeat (first | exact Parts.nil | apply Parts.cons rfl))
       ·exact rfl
       ·exact rfl
       ·(repeat (first | apply CatP.nil | (apply CatP.one;exact rfl;exact rfl) | (apply CatP.agg;exact rfl) | apply LApp.nil | apply LApp.cons))
       intro d hd hod
       repeat' first | apply Wl.nil
       refine Mt.backE (fun _ _ => trivial) ?_
       refine Mt.eff1 (i := 1) (by decide +kernel) (by exact rfl) ?_
       repeat' first | (apply Wl.loadH;exact rfl;exact rfl;(focus repeat constructor);exact rfl) | apply Wl.nil
       refine Mt.backE (fun _ _ => trivial) ?_
       refine Mt.eff1 (i := 5) (by decide +kernel) (by exact rfl) ?_
       have hrow1 := ownsRow_upd hrow u1 fun q hq y => y.elim (fun e => by cases e) fun ho => ho (by have := hrow.lt q hq;(repeat (first | exact trivial | exact hX.off (by omega) | refine ⟨by first | assumption | omega | (simp only;omega),?_⟩)))
       apply Wl.appendT
       ·exact rfl
       ·exact rfl
       ·exact rfl
       ·exact hd
       ·exact rfl
       ·exact hrow1
       ·intro q hq
        have := hrow.lt q hq
        (repeat (first | exact trivial | exact hX.off (by omega) | refine ⟨by first | assumption | omega | (simp only;omega),?_⟩))
       ·exact rfl
       ·exact rfl
       ·decide
       ·unfold maxLen;omega
       ·omega
       ·omega
       intro v5 w5 ho5 u5 _ hoff5
       obtain ⟨_,va,vk,rfl,_⟩ := Sv.ofOwn ho5
       have s51 := u5.size
       repeat' first | apply Wl.nil
       refine Mt.backE (fun _ _ => trivial) ?_
       refine Mt.pure 6 (by decide +kernel) (by exact rfl) (by exact rfl) (by decide +kernel) (by decide +kernel) ?_
       repeat' first | refine Wl.fieldAddrZ rfl rfl ?_ | apply Wl.nilM
       apply Mt.back
       refine Mt.eff1 (i := 7) (by decide +kernel) (by exact rfl) ?_
       apply Wl.reb (H' := [⟨c16,[.int .u32 M.counter,.int .i64 j,.slice (some ⟨pb,po,none⟩) pys.length pc,.slice fa i fc],31⟩,⟨c13,[.int .u32 M.counter,.int .i64 j,.slice (some ⟨pb,po,none⟩) pys.length pc],28⟩,⟨c8,[v',.bool false],66⟩,⟨c6,(Value.agg #[.int .u32 0,.int .i64 0,.slice none 0 0,.slice none 0 0]).cells.toList,31⟩])
       intro w6 hw6
       refine ⟨hw6.own.2,hw6.apart.2,?_⟩
       have s65 := hw6.upd.size
       have huA : Upd (fun q => w4.heap.size ≤ q ∨ q = c16 ∨ q = c13 ∨ q = c8 ∨ q = c6) w4 w6 := by
        refine ((hu0.comp (T := fun q => w4.heap.size ≤ q ∨ q = c16 ∨ q = c13 ∨ q = c8 ∨ q = c6) u1 ?_).comp (T := fun q => w4.heap.size ≤ q ∨ q = c16 ∨ q = c13 ∨ q = c8 ∨ q = c6) u5 ?_).comp hw6.upd ?_
        ·intro q hq hs
         rcases hs with hs | hs | hs
         ·exact hs
         ·cases hs
         ·have := off5 hs
          simp only at this
          omega
        ·intro q hq hs
         rcases hs with hs | hs | hs
         ·exact hs
         ·exact .inl (hrow.lt q hs).1
         ·have := off5 hs
          simp only at this
          omega
        ·intro q hq hs
         rcases hs with hs | hs
         ·exact hs
         ·have := off5 hs
          simp only at this
          omega
       have hrowA : w6.ownsRow w4.heap.size 22 1 (.slice va (i + 1) vk) (i + 1) (vs ++ [Value.slice x1a ([] ++ part f k y.1.size).length x1c]) := ownsRow_upd ho5 hw6.upd fun q hq y => y (hoff5 q hq).1
       have hfA : ∀ (q : Nat) (x : Value) (l : List UInt8),(vs ++ [Value.slice x1a ([] ++ part f k y.1.size).length x1c])[q]? = some x → (acc ++ [part f k y.1.size])[q]? = some l → Bo w6 w4.heap.size x l ∧ ∀ k,x.ownBlock = some k → (Value.slice va (i + 1) vk).ownBlock ≠ some k := by
        intro q x l hx hl
        by_cases hqi : q < i
        ·rw [List.getElem?_append_left (by omega)] at hx hl
         obtain ⟨g1,g2⟩ := hfs q x l hx hl
         have g0 : ∀ k,x.ownBlock = some k → w4.heap.size ≤ k ∧ k < w0.heap.size := fun k hk => g1.lt k hk
         refine ⟨((g1.upd u1 fun q hq y => ?_).upd u5 fun q hq y => ?_).upd hw6.upd fun q hq y => ?_,fun q hq e => ?_⟩
         ·have := g0 q hq
          exact y.elim (fun e => by cases e) fun ho => ho (by (repeat (first | exact trivial | exact hX.off (by omega) | refine ⟨by first | assumption | omega | (simp only;omega),?_⟩)))
         ·have := g0 q hq
          exact y.elim (fun e => g2 q hq e) fun ho => ho (by (repeat (first | exact trivial | exact hX.off (by omega) | refine ⟨by first | assumption | omega | (simp only;omega),?_⟩)))
         ·have := g0 q hq
          exact y (by (repeat (first | exact trivial | exact hX.off (by omega) | refine ⟨by first | assumption | omega | (simp only;omega),?_⟩)))
         ·have := g0 q hq
          rcases (hoff5 q e).2 with e' | e'
          ·exact g2 q hq e'
          ·omega
        ·obtain ⟨h1,_⟩ := List.getElem?_eq_some_iff.1 hx
         rw [List.length_append,List.length_singleton] at h1
         rw [List.getElem?_append_right (by omega),show q - vs.length = 0 by omega] at hx
         rw [List.getElem?_append_right (by omega),show q - acc.length = 0 by omega] at hl
         cases hx
         cases hl
         have g0 : ∀ k,(Value.slice x1a ([] ++ part f k y.1.size).length x1c).ownBlock = some k → True := fun _ _ => trivial
         refine ⟨(Bo.upd (l := [] ++ part f k y.1.size) (hb1.upd u5 fun q hq y => ?_) hw6.upd fun q hq y => ?_),fun q hq e => ?_⟩
         ·obtain ⟨h2,h3⟩ := hoff1 q hq
          rcases h3 with h3 | h3
          ·cases h3
          rcases y with y | y
          ·have := (hrow.lt q y).2
           omega
          ·exact y h2
         ·exact y (hoff1 q hq).1
         ·obtain ⟨h2,h3⟩ := hoff1 q hq
          have h4 := (hb1.lt q hq).2
          rcases h3 with h3 | h3
          ·cases h3
          rcases (hoff5 q e).2 with e' | e'
          ·have := (hrow.lt q e').2
           omega
          ·omega
       repeat' first | (apply Wl.store;exact rfl;exact rfl;exact rfl;(focus repeat constructor);(repeat (first | apply LSet.z | apply LSet.s))) | apply Wl.nil
       refine Mt.backE (fun _ _ => trivial) ?_
       refine Mt.toGt (by decide +kernel) ?_
       repeat' first | refine Wl.move rfl rfl ?_ | (refine Wl.addI rfl rfl rfl ?_ ?_;constructor <;> omega) | apply Wl.nil | apply St.region | apply Gt.next | apply Gt.inNormal
       apply Gt.round (i + 1,k + y.1.size,v',w6,.slice va (i + 1) vk,vs ++ [.slice x1a ([] ++ part f k y.1.size).length x1c],acc ++ [part f k y.1.size])
       rotate_left
       ·simp only;omega
       ·repeat constructor
       ·intro _ h
        simp only [hd8]
        exact h
       refine ⟨hlt,by simp only;omega,hv',?_,huA,hrowA,by simp only [List.length_append,List.length_singleton];omega,hfA⟩
       rw [hop,hdrop]
       show opF f (y.1 :: M.pays.drop (i + 1)) k acc = opF f (M.pays.drop (i + 1)) (k + y.1.size) (acc ++ [part f k y.1.size])
       conv => lhs;unfold opF
       rw [if_neg hbd,if_neg (fun h => h hsm)]
    ·have hbt : false = true ↔ ∀ j,j < 32 → Sha.of (part f k y.1.size) j = byteAt y.1.dig j := ⟨fun h => (by cases h),fun h => (hsm (hsd.2 h)).elim⟩
     repeat' first | (apply St.bagX (i := 29) 5 [4];exact mixed;(decide +kernel);kernel_rfl) | (apply Wl.loadAH;exact rfl;exact rfl;(focus repeat constructor);exact LSub.pre (cellsN_len _ _ _)) | (apply Wl.callQ (f := 16);exact rfl;(focus repeat constructor);(intro wq hq;refine (shaOf xf (part f k y.1.size) wq (hxf wq (hbX hq fun q hq' => by (repeat (first | exact trivial | exact hX.off (by omega) | refine ⟨by first | assumption | omega | (simp only;omega),?_⟩)))) (by omega) (fun hne => (hxf wq (hbX hq fun q hq' => by (repeat (first | exact trivial | exact hX.off (by omega) | refine ⟨by first | assumption | omega | (simp only;omega),?_⟩)))).oldB hne) (hKw0.upd hq.upd (fun y => y (by (repeat (first | exact trivial | exact hX.off (by omega) | refine ⟨by first | assumption | omega | (simp only;omega),?_⟩)))))).mono ?_;rintro e wr ⟨rfl,hr⟩;exact ⟨rfl,hq.keep hr⟩)) | (apply Wl.neqA;exact rfl;exact rfl;exact rfl;kernel_rfl;kernel_rfl;kernel_rfl;kernel_rfl;(exact fun j _ => byte8 (hlt8 j));(exact fun j _ => byte8 (byteAt_lt _ j));exact hbt) | apply OpsX.nil | (apply OpsX.v;(intro X hX;change Wl [_] _ _ _ _ _ _ _;apply Wl.catX;(focus repeat constructor))) | (apply Gt.endX;exact rfl) | (apply EndX.on;exact rfl) | (apply EndX.off;exact rfl) | (apply EndX.nil';apply Wl.catE;(focus repeat constructor)) | (apply Gt.outCT;exact rfl;infer_instance;exact rfl;exact rfl;(focus repeat constructor);(focus repeat constructor);intro w' hp) | refine Wl.move rfl rfl ?_ | refine Wl.assign rfl rfl ?_ | refine Wl.fieldAddr0 rfl rfl ?_ | (apply Wl.storeA;exact rfl;exact rfl;exact rfl;exact rfl;(focus repeat constructor);(repeat (first | apply LPut.s | apply LPut.z | apply LOver.nil | apply LOver.cons))) | (apply Wl.buildS;exact rfl;(repeat (first | exact Parts.nil | apply Parts.cons rfl));(repeat (first | apply Fills.nil | (apply Fills.one;exact rfl;exact rfl;(repeat (first | apply LSet.z | apply LSet.s))) | (apply Fills.agg;exact rfl;exact rfl;(repeat (first | apply LPut.s | apply LPut.z | apply LOver.nil | apply LOver.cons)))))) | apply Wl.nil | apply St.seq | apply St.region | (apply St.condT;exact rfl;(with_reducible first | rfl | assumption | decide)) | (apply St.condF;exact rfl;(with_reducible first | rfl | assumption | decide)) | apply St.ret | apply St.skip | apply Gt.next | apply Gt.thenRet | apply Gt.inRet
     exact ⟨_,_,_,_,_,rfl,opAns_err (opAll_bad hE0 (by rw [hop,hdrop];unfold opF;rw [if_neg hbd,if_pos hsm]) (by decide)) (hp.on huw (by simp;omega))⟩
   ·obtain rfl : i = pys.length := by omega
    have hd7 : decide ((pys.length : Int) < (pys.length : Int)) = false := decide_eq_false (by omega)
    have hdn : M.pays.drop pys.length = [] := List.drop_eq_nil_of_le (by rw [← hpys,List.length_map];exact Nat.le_refl _)
    repeat' first | refine Wl.move rfl rfl ?_ | refine Wl.lss rfl rfl rfl ?_ | apply Wl.nil | apply St.seq | apply St.region | (apply St.condF;exact rfl;(with_reducible first | rfl | assumption | decide)) | apply St.exit | apply Gt.next | apply Gt.thenExit | apply Gt.inExit
    apply Wl.callQ
    exact rfl
    (focus repeat constructor)
    ·intro wq hq
     refine (end_any c8 vc (f.drop k) _ wq wq (hq.own.at (.tail _ (.tail _ (.head _)))) (hvc wq (hbX hq fun q hq => by (repeat (first | exact trivial | exact hX.off (by omega) | refine ⟨by first | assumption | omega | (simp only;omega),?_⟩))))).mono ?_
     rintro e wr ⟨rfl,hr⟩
     exact ⟨rfl,hq.keep hr⟩
    rw [hbf0]
    by_cases hkl2 : k = f.length
    ·have hpe : decide (f.drop k = []) = true := decide_eq_true (by rw [hkl2];exact List.drop_length)
     rw [hpe,show (!false && true) = true from rfl]
     repeat' first | (apply Gt.outCT;exact rfl;infer_instance;exact rfl;exact rfl;(focus repeat constructor);(focus repeat constructor);intro w' hp) | refine Wl.assign rfl rfl ?_ | refine Wl.not rfl rfl ?_ | (apply Wl.storeA;exact rfl;exact rfl;exact rfl;exact rfl;(focus repeat constructor);(repeat (first | apply LPut.s | apply LPut.z | apply LOver.nil | apply LOver.cons))) | (apply Wl.loadAH;exact rfl;exact rfl;(focus repeat constructor);(focus repeat constructor)) | apply Wl.nil | apply St.seq | apply St.region | (apply St.condF;exact rfl;(with_reducible first | rfl | assumption | decide)) | apply St.ret | apply St.skip | apply Gt.next
     have hor : opR f = (0,acc) := by rw [hop,hdn];unfold opF;rw [if_pos hkl2]
     have hmv : MfV w2 (.agg #[.int .u32 M.counter,.int .i64 j,.slice pa pys.length pc]) M := ⟨_,pys,by rw [hj],hpys,hpsv,hpy,hctr,hkey⟩
     have hS : Upd (fun q => w2.heap.size ≤ q ∨ q = c8 ∨ q = c6) w2 w' := by
      have a1 : Upd (fun q => w2.heap.size ≤ q ∨ q = c8 ∨ q = c6) w2 w3 := hw2.upd.comp u3 fun q hq hs => by
       rcases hs with hs | hs <;> (have := off3 hs;simp only at this;omega)
      have a2 : Upd (fun q => w2.heap.size ≤ q ∨ q = c8 ∨ q = c6) w2 w4 := a1.comp hw4.upd fun q hq hs => by
       rcases hs with hs | hs
       ·exact hs
       ·have := off4 hs;simp only at this;omega
      have a3 : Upd (fun q => w2.heap.size ≤ q ∨ q = c8 ∨ q = c6) w2 w0 := a2.comp hu0 fun q hq hs => by omega
      exact a3.comp hp.upd fun q hq hs => by
       rcases hs with hs | hs
       ·exact hs
       ·have := off4 hs;simp only at this;omega
     have hwf : Upd (fun q => w.heap.size ≤ q) w w' := hp.on huw (by simp;omega)
     refine ⟨_,_,_,_,_,rfl,?_⟩
     unfold OpAns
     rw [opAll_ok hE0 hor,hn,hG,hM]
     refine ⟨rfl,hmv.updH hown2 ?_ hS ?_,⟨vs,hvs.trans hal.symm,?_,?_⟩,fun q hqq => by have := (hrow.lt q hqq).1;have := hu4.size;omega,hwf⟩
     ·simp only [List.mem_cons,List.not_mem_nil,or_false,forall_eq_or_imp,forall_eq]
      refine ⟨⟨?_,?_⟩,⟨?_,?_⟩⟩ <;> intro i <;> (rcases i with _ | _ | _ | _ | i) <;> simp [Value.cells]
     ·intro q hq hs ho
      rcases hs with h | h | h
      ·omega
      ·exact ho.1 h.symm
      ·exact ho.2.1 h.symm
     ·rw [hvs]
      exact Sv.ofOwn (ownsRow_upd hrow hp.upd fun q hqq y => y (by have := (hrow.lt q hqq);(repeat (first | exact trivial | exact hX.off (by omega) | refine ⟨by first | assumption | omega | (simp only;omega),?_⟩))))
     ·intro q x l hx hl
      obtain ⟨g1,_⟩ := hfs q x l hx hl
      exact (g1.upd hp.upd fun q hqq y => y (by have := (g1.lt q hqq);(repeat (first | exact trivial | exact hX.off (by omega) | refine ⟨by first | assumption | omega | (simp only;omega),?_⟩)))).bs
    ·have hpe : decide (f.drop k = []) = false := decide_eq_false (fun e => by have := congrArg List.length e;rw [List.length_drop,List.length_nil] at this;omega)
     rw [hpe,show (!false && false) = false from rfl]
     repeat' first | (apply Gt.outCT;exact rfl;infer_instance;exact rfl;exact rfl;(focus repeat constructor);(focus repeat constructor);intro w' hp) | refine Wl.assign rfl rfl ?_ | refine Wl.not rfl rfl ?_ | (apply Wl.storeA;exact rfl;exact rfl;exact rfl;exact rfl;(focus repeat constructor);(repeat (first | apply LPut.s | apply LPut.z | apply LOver.nil | apply LOver.cons))) | (apply Wl.buildS;exact rfl;(repeat (first | exact Parts.nil | apply Parts.cons rfl));(repeat (first | apply Fills.nil | (apply Fills.one;exact rfl;exact rfl;(repeat (first | apply LSet.z | apply LSet.s))) | (apply Fills.agg;exact rfl;exact rfl;(repeat (first | apply LPut.s | apply LPut.z | apply LOver.nil | apply LOver.cons)))))) | apply Wl.nil | apply St.seq | apply St.region | (apply St.condT;exact rfl;(with_reducible first | rfl | assumption | decide)) | apply St.ret | apply Gt.next | apply Gt.thenRet
     exact ⟨_,_,_,_,_,rfl,opAns_err (opAll_bad hE0 (by rw [hop,hdn];unfold opF;rw [if_neg hkl2]) (by decide)) (hp.on huw (by simp;omega))⟩
  ·have hd5 : decide (a ≠ 0) = true := decide_eq_true ha
   repeat' first | (apply Gt.outCT;exact rfl;infer_instance;exact rfl;exact rfl;(focus repeat constructor);(focus repeat constructor);intro w' hp) | refine Wl.move rfl rfl ?_ | refine Wl.assign rfl rfl ?_ | refine Wl.neq rfl rfl rfl ?_ | (apply Wl.storeA;exact rfl;exact rfl;exact rfl;exact rfl;(focus repeat constructor);(repeat (first | apply LPut.s | apply LPut.z | apply LOver.nil | apply LOver.cons))) | (apply Wl.buildS;exact rfl;(repeat (first | exact Parts.nil | apply Parts.cons rfl));(repeat (first | apply Fills.nil | (apply Fills.one;exact rfl;exact rfl;(repeat (first | apply LSet.z | apply LSet.s))) | (apply Fills.agg;exact rfl;exact rfl;(repeat (first | apply LPut.s | apply LPut.z | apply LOver.nil | apply LOver.cons)))))) | apply Wl.nil | apply St.seq | apply St.region | (apply St.condT;exact rfl;(with_reducible first | rfl | assumption | decide)) | apply St.ret | apply Gt.next | apply Gt.thenRet
   exact ⟨_,_,_,_,_,rfl,opAns_err (opAll_err (by rw [hE1,if_neg (fun h => h hde),if_neg hkk,if_pos ha]) ha) (hp.on hu3 hH13)⟩
 ·have hd3 : decide (((decErr G : Nat) : Int) ≠ 0) = true := decide_eq_true (by omega)
  repeat' first | (apply Gt.outCT;exact rfl;infer_instance;exact rfl;exact rfl;(focus repeat constructor);(focus repeat constructor);intro w' hp) | refine Wl.move rfl rfl ?_ | refine Wl.assign rfl rfl ?_ | refine Wl.extract rfl rfl rfl ?_ | refine Wl.neq rfl rfl rfl ?_ | (apply Wl.storeA;exact rfl;exact rfl;exact rfl;exact rfl;(focus repeat constructor);(repeat (first | apply LPut.s | apply LPut.z | apply LOver.nil | apply LOver.cons))) | (apply Wl.buildS;exact rfl;(repeat (first | exact Parts.nil | apply Parts.cons rfl));(repeat (first | apply Fills.nil | (apply Fills.one;exact rfl;exact rfl;(repeat (first | apply LSet.z | apply LSet.s))) | (apply Fills.agg;exact rfl;exact rfl;(repeat (first | apply LPut.s | apply LPut.z | apply LOver.nil | apply LOver.cons)))))) | (apply Wl.alloc;exact rfl;intro c hc ho) | apply Wl.nil | apply St.seq | apply St.block | apply St.region | (apply St.condT;exact rfl;(with_reducible first | rfl | assumption | decide)) | apply St.ret | apply Gt.next | apply Gt.thenRet | apply Gt.inRet
  exact ⟨_,_,_,_,_,rfl,opAns_err (opAll_err (by rw [hE1,if_pos hde]) (by omega)) (hp.on hu2 (by simp;omega))⟩
end Go.Proofs.YtmjlceimjlabpaaDoor
end
section
namespace Go.Proofs.YtmjlceimjlabpaaDoor
open Go.RowKit Go.Pt
theorem Bss.upd {w w' : World} {S : Nat → Prop} {v : Value} {ls : List (List UInt8)} (h : Bss w v ls) (u : Upd S w w') (hs : ∀ k,k < w.heap.size → ¬ S k) : Bss w' v ls := by
 obtain ⟨vs,h1,h2,h3⟩ := h
 exact ⟨vs,h1,Sv.upd h2 u fun k _ hk _ => hs k hk,fun i x l hx hl => (h3 i x l hx hl).upd u fun k _ hk _ => hs k hk⟩
theorem Ks.upd {w w' : World} {S : Nat → Prop} {v : Value} {ks : List ByteArray} (h : Ks w v ks) (u : Upd S w w') (hs : ∀ k,k < w.heap.size → ¬ S k) : Ks w' v ks := Sv.upd h u fun k _ hk _ => hs k hk
theorem verOf (f : List UInt8) (ks : List ByteArray) (hG : (part f 68 (num f 64 4)).length < 100000000) : ∃ a : Int,
  (∀ kb,ks[(decMan (part f 68 (num f 64 4))).key.toNat]? = some kb → ∀ kv mv gv wq,ArrAt wq 0 0 .u32 64 Sha.K → Bs wq kv kb.data.toList → Bs wq mv (part f 68 (num f 64 4)) → Bs wq gv (part f 0 64) → Calls Tryd.prog 15 #[kv,mv,gv] wq fun e w' => e = .returned (.int .i64 a) ∧ Hp wq [] w') ∧
  (∀ kb,ks[(decMan (part f 68 (num f 64 4))).key.toNat]? = some kb → ∀ kv mv gv wq,Bs wq kv kb.data.toList → Bs wq mv (part f 68 (num f 64 4)) → Bs wq gv (part f 0 64) → Calls Tryd.prog 21 #[kv,mv,gv] wq fun e w' => e = .returned (.int .i64 a) ∧ Hp wq [] w') := by
 cases h : ks[(decMan (part f 68 (num f 64 4))).key.toNat]? with
 | none => exact ⟨0,fun kb e => by (cases e),fun kb e => by (cases e)⟩
 | some kb0 =>
  obtain ⟨a,h1,h2,_⟩ := verBoth kb0.data.toList (part f 68 (num f 64 4)) (part f 0 64) hG
  exact ⟨a,fun kb e => by (cases e;exact h1),fun kb e => by (cases e;exact h2)⟩
set_option maxHeartbeats 8000000 in
theorem opens07 (iv kv : Value) (f : List UInt8) (ks : List ByteArray) (cn : Nat) (w : World) (hK : ArrAt w 0 0 .u32 64 Sha.K) (hv : Bs w iv f) (hk : Ks w kv ks) (hcn : cn < 4294967296) :
  Calls Tryd.prog 3 #[iv,kv,.int .u32 (cn : Int)] w fun e w' => e = .returned (.bool true) ∧ Hp w [] w' := by
 obtain ⟨ia,ic,rfl,hlc,hm⟩ := hv.shape
 unfold maxLen at hm
 have hk0 := hk
 obtain ⟨hkl,ka,kc,rfl,hkc,hkm,hkz,hkcell⟩ := hk
 unfold maxLen at hkm
 refine enter (args := [_,_,_]) (Γ := [(0,_),(1,_),(2,_)]) Tryd.func3 Tryd.ntmps3 rfl (of_decide_eq_true rfl) (.cons rfl (.cons rfl (.cons rfl .nil))) ?_
 repeat' first | refine Wl.assign rfl rfl ?_ | apply Wl.nil | apply St.seq | apply St.region | apply Gt.next
 apply Wl.callQ
 exact rfl
 (focus repeat constructor)
 ·intro wq hq
  exact hq.q (fit07_any wq)
 by_cases hf : (f.length : Int) > 40000
 ·have hd1 : decide ((f.length : Int) > 40000) = true := decide_eq_true hf
  repeat' first | refine Wl.move rfl rfl ?_ | refine Wl.assign rfl rfl ?_ | (apply Wl.off;exact rfl;exact rfl;exact rfl;(first | with_reducible rfl | (show _ = false;with_reducible assumption) | (show _ = true;with_reducible assumption) | decide)) | (apply Wl.pickT;exact rfl;exact rfl;(with_reducible first | rfl | assumption | decide);exact rfl) | refine Wl.not rfl rfl ?_ | refine Wl.gtr rfl rfl rfl ?_ | refine Wl.len rfl rfl ?_ | apply Wl.nil | apply St.seq | apply St.region | (apply St.condT;exact rfl;(with_reducible first | rfl | assumption | decide)) | (apply St.condF;exact rfl;(with_reducible first | rfl | assumption | decide)) | apply St.ret | apply St.skip | apply Gt.next | apply Gt.thenRet | (apply Gt.out1;exact rfl;exact rfl;intro w' hp)
  exact ⟨rfl,hp⟩
 have hd1 : decide ((f.length : Int) > 40000) = false := decide_eq_false hf
 by_cases hkn : (ks.length : Int) > 10
 ·have hd2 : decide ((ks.length : Int) > 10) = true := decide_eq_true hkn
  repeat' first | refine Wl.move rfl rfl ?_ | refine Wl.assign rfl rfl ?_ | (apply Wl.on;exact rfl;exact rfl;(with_reducible first | rfl | assumption | decide)) | (apply Wl.pickF;exact rfl;exact rfl;(with_reducible first | rfl | assumption | decide);exact rfl) | refine Wl.not rfl rfl ?_ | refine Wl.gtr rfl rfl rfl ?_ | refine Wl.len rfl rfl ?_ | apply Wl.nil | apply St.seq | apply St.region | (apply St.condT;exact rfl;(with_reducible first | rfl | assumption | decide)) | (apply St.condF;exact rfl;(with_reducible first | rfl | assumption | decide)) | apply St.ret | apply St.skip | apply Gt.next | apply Gt.thenRet | (apply Gt.out1;exact rfl;exact rfl;intro w' hp)
  exact ⟨rfl,hp⟩
 have hd2 : decide ((ks.length : Int) > 10) = false := decide_eq_false hkn
 repeat' first | refine Wl.move rfl rfl ?_ | (apply Wl.on;exact rfl;exact rfl;(with_reducible first | rfl | assumption | decide)) | (apply Wl.pickF;exact rfl;exact rfl;(with_reducible first | rfl | assumption | decide);exact rfl) | refine Wl.not rfl rfl ?_ | refine Wl.gtr rfl rfl rfl ?_ | refine Wl.len rfl rfl ?_ | apply Wl.nil | apply St.seq | apply St.block | apply St.region | (apply St.condF;exact rfl;(with_reducible first | rfl | assumption | decide)) | apply St.skip | apply Gt.next
 refine St.loop (σ := Nat) (fun i => i ≤ ks.length ∧ ∀ q b,q < i → ks[q]? = some b → b.size ≤ 200)
  (fun i => [(0,.slice ia f.length ic),(1,.slice ka ks.length kc),(2,.int .u32 (cn : Int)),(26,.slice ka ks.length kc),(27,.int .i64 (ks.length : Int)),(28,.int .i64 (i : Int))])
  (fun _ => Hp w []) (fun i => ks.length - i) 0 ⟨Nat.zero_le _,fun q b hq => by omega⟩ (by repeat constructor) (fun _ h => h) ?_
 rintro i ⟨hi,hsm⟩
 by_cases hlt : i < ks.length
 ·have hd3 : decide ((i : Int) < (ks.length : Int)) = true := decide_eq_true (by omega)
  obtain ⟨kg,ko,rfl,hkc1⟩ := hkcell (by intro e;have := congrArg List.length e;simp at this;subst this;simp at hlt)
  have hki : w.cell? ⟨kg,ko + (i : Int).toNat,none⟩ = some (.string ks[i]) := by
   have := hkc1 i (by rw [List.length_map];exact hlt)
   rw [List.getElem_map] at this
   rw [Int.toNat_natCast]
   exact this
  by_cases hbig : ((ks[i]).size : Int) > 200
  ·have hd4 : decide (((ks[i]).size : Int) > 200) = true := decide_eq_true hbig
   repeat' first | (apply Wl.loadO;exact rfl;exact rfl;exact hki;exact trivial) | refine Wl.move rfl rfl ?_ | refine Wl.assign rfl rfl ?_ | refine Wl.lss rfl rfl rfl ?_ | refine Wl.gtr rfl rfl rfl ?_ | refine Wl.lenS rfl rfl ?_ | (refine Wl.indexAddr1 rfl rfl rfl ?_ ?_;constructor <;> omega) | apply Wl.nil | apply St.seq | apply St.block | apply St.region | (apply St.condT;exact rfl;(with_reducible first | rfl | assumption | decide)) | apply St.ret | apply St.skip | apply Gt.next | apply Gt.thenRet | apply Gt.inRet | (apply Gt.out1;exact rfl;exact rfl;intro w' hp)
   exact ⟨rfl,hp⟩
  ·have hd4 : decide (((ks[i]).size : Int) > 200) = false := decide_eq_false hbig
   repeat' first | (apply Wl.loadO;exact rfl;exact rfl;exact hki;exact trivial) | refine Wl.move rfl rfl ?_ | refine Wl.assign rfl rfl ?_ | refine Wl.lss rfl rfl rfl ?_ | refine Wl.gtr rfl rfl rfl ?_ | (refine Wl.addI rfl rfl rfl ?_ ?_;constructor <;> omega) | refine Wl.lenS rfl rfl ?_ | (refine Wl.indexAddr1 rfl rfl rfl ?_ ?_;constructor <;> omega) | apply Wl.nil | apply St.seq | apply St.block | apply St.region | (apply St.condT;exact rfl;(with_reducible first | rfl | assumption | decide)) | (apply St.condF;exact rfl;(with_reducible first | rfl | assumption | decide)) | apply St.skip | apply Gt.next | apply Gt.inNormal
   apply Gt.round (i + 1)
   rotate_left
   ·omega
   ·repeat constructor
   ·exact fun _ h => h
   refine ⟨hlt,fun q b hq hb => ?_⟩
   by_cases e : q = i
   ·subst e
    rw [List.getElem?_eq_getElem hlt] at hb
    cases hb
    omega
   ·exact hsm q b (by omega) hb
 ·obtain rfl : i = ks.length := by omega
  have hd3 : decide ((ks.length : Int) < (ks.length : Int)) = false := decide_eq_false (by omega)
  have hks : ∀ b ∈ ks,b.size ≤ 200 := fun b hb => by
   obtain ⟨q,hq,e⟩ := List.mem_iff_getElem.1 hb
   exact hsm q b hq (by rw [List.getElem?_eq_getElem hq,e])
  have hfl : f.length ≤ 40000 := by omega
  have hpl : (part f 68 (num f 64 4)).length < 100000000 := by
   unfold part
   split
   ·rw [List.length_take,List.length_drop];omega
   ·simp
  obtain ⟨a,hVP,hVR⟩ := verOf f ks hpl
  have h0K := hK.lt (by decide)
  repeat' first | refine Wl.move rfl rfl ?_ | refine Wl.lss rfl rfl rfl ?_ | apply Wl.nil | apply St.seq | apply St.region | (apply St.condF;exact rfl;(with_reducible first | rfl | assumption | decide)) | apply St.exit | apply Gt.next | apply Gt.thenExit | apply Gt.inExit
  apply Wl.callC
  ·exact rfl
  ·repeat constructor
  intro wq hq
  refine (popen_any _ _ f ks cn a wq (hv.upd hq.upd fun _ _ _ _ y => y trivial) (hk0.upd hq.upd fun _ _ y => y trivial) hfl (by omega) hks hcn (hK.upd hq.upd fun y => y trivial) hVP).mono ?_
  rintro e w1 ⟨c1,k1,p1,fv1,er1,rfl,he1,hm1,hb1,hz1,u1⟩
  have hu1 : Upd (fun k => w.heap.size ≤ k) w w1 := hq.upd.comp u1 fun k hk hs => hs.elim (fun y => (y trivial).elim) fun h => by have := hq.upd.size;omega
  refine ⟨_,_,rfl,hpNil w1,?_⟩
  clear hq u1 hz1 wq
  subst he1
  have hm1' := hm1
  have hb1' := hb1
  obtain ⟨pv1,pys1,hag,_,hsv1,_⟩ := hm1'
  simp only [Value.agg.injEq,Array.mk.injEq,List.cons.injEq,and_true] at hag
  obtain ⟨rfl,rfl,rfl⟩ := hag
  obtain ⟨_,pa1,pc1,rfl,_⟩ := hsv1
  obtain ⟨vs1,hvl1,hsvb1,_⟩ := hb1'
  obtain ⟨_,fa1,fc1,rfl,_,_,_,hfq1⟩ := hsvb1
  have lb1w : vs1 ≠ [] → ∀ b o,fa1 = some ⟨b,o,none⟩ → b < w1.heap.size := fun hne b o e => by
   obtain ⟨b',o',e',hc⟩ := hfq1 hne
   rw [e'] at e
   cases e
   exact World.block_lt_of_cell? w1 _ (hc 0 (List.length_pos_iff.2 hne))
  have s1 := hu1.size
  repeat' first | refine Wl.move rfl rfl ?_ | refine Wl.assign rfl rfl ?_ | refine Wl.extract rfl rfl rfl ?_ | (apply Wl.storeA;exact rfl;exact rfl;exact rfl;exact rfl;(focus repeat constructor);(repeat (first | apply LPut.s | apply LPut.z | apply LOver.nil | apply LOver.cons))) | (apply Wl.alloc;exact rfl;intro c hc ho) | apply Wl.nil | apply St.seq | apply St.region | apply Gt.next
  generalize c = c9 at *
  have hc9 : w1.heap.size ≤ c9 := by assumption
  apply Wl.callC
  ·exact rfl
  ·repeat constructor
  intro wq hq
  have hqw : Upd (fun k => w.heap.size ≤ k) w wq := hq.on hu1 (by simp;omega)
  refine (ropen_any _ _ f ks cn a wq (hv.upd hqw fun _ _ h _ y => by omega) (hk0.upd hqw fun _ h y => by omega) hfl (by omega) hks hcn hVR).mono ?_
  rintro e w2 ⟨mv2,fv2,er2,rfl,he2,hm2,hb2,hn2,u2⟩
  have hq2 := hq.newer u2
  refine ⟨_,_,rfl,hq2.rb,?_⟩
  have hu2 : Upd (fun k => w.heap.size ≤ k) w w2 := hq2.on hu1 (by simp;omega)
  have hm1b : MfV w2 _ _ := hm1.hp hq2 (by simp;omega)
  have hb1b : Bss w2 _ _ := hb1.upd hq2.upd fun k hk y => y ⟨by simp only;omega,trivial⟩
  have l9 := hq2.own.lt (.head _)
  simp only at l9
  have lq9 := hq.own.lt (.head _)
  simp only at lq9
  have hown9 := hq2.own.at (.head _)
  have n9x : ∀ (x : Value) (l : List UInt8),Bs w2 x l → l ≠ [] → ∀ k,x.ownBlock = some k → c9 ≠ k := by
   intro x l hx hne k hk e
   obtain ⟨xa,xc,rfl,_,_⟩ := hx.shape
   obtain ⟨xb,xo,rfl,hc⟩ := hx.cells hne
   have hk' : xb = k := Option.some.inj hk
   have h0 := hc 0 (List.length_pos_iff.2 hne)
   rw [hk',← e,cellAt hown9] at h0
   rcases xo with _ | _ | _ | _ | xo <;> simp at h0
  have hn2 : ∀ k,fv2.ownBlock = some k → c9 < k := fun k hk => by have := hn2 k hk;omega
  clear hq hq2 u2 hm1 hb1
  subst he2
  have hm2' := hm2
  obtain ⟨pv2,pys2,rfl,_,hsv2,_⟩ := hm2'
  obtain ⟨_,pa2,pc2,rfl,_⟩ := hsv2
  have hb2' := hb2
  obtain ⟨vs2,hvl2,hsvb2,hbe2⟩ := hb2'
  obtain ⟨_,fa2,fc2,rfl,f21,f22,_,hfc2⟩ := hsvb2
  unfold maxLen at f22
  have hb1c := hb1b
  obtain ⟨vs1',hvl1',hsvb1,hbe1⟩ := hb1c
  obtain ⟨_,fa1',fc1',e1,_,_,_,hfc1⟩ := hsvb1
  have hle : vs1.length = vs2.length := by omega
  rw [hle] at hown9
  have hle' : vs1'.length = vs2.length := by omega
  simp only [Value.slice.injEq] at e1
  obtain ⟨rfl,-,rfl⟩ := e1
  rw [hle]
  generalize hR : opAll f ks.length a cn = R at *
  have hde : decide (R.1 ≠ R.1) = false := by simp
  have hfin (H : List Blk) (wq : World) (hq : Hp w2 H wq) (hH : ∀ x ∈ H,w.heap.size ≤ x.b) : Hp w [] wq := hq.fin hu2 hH
  repeat' first | refine Wl.move rfl rfl ?_ | refine Wl.assign rfl rfl ?_ | (apply Wl.on;exact rfl;exact rfl;(with_reducible first | rfl | assumption | decide)) | refine Wl.extract rfl rfl rfl ?_ | refine Wl.fieldAddr0 rfl rfl ?_ | (apply Wl.neqIs;exact rfl;exact rfl;exact rfl;(first | with_reducible assumption | with_reducible rfl)) | (apply Wl.storeA;exact rfl;exact rfl;exact rfl;exact rfl;(focus repeat constructor);(repeat (first | apply LPut.s | apply LPut.z | apply LOver.nil | apply LOver.cons))) | (apply Wl.loadAH;exact rfl;exact rfl;(focus repeat constructor);(focus repeat constructor)) | (apply Wl.alloc;exact rfl;intro c hc ho) | apply Wl.nil | apply St.seq | apply St.region | apply Gt.next
  generalize c = c11 at *
  have hc11 : w2.heap.size ≤ c11 := by assumption
  apply Wl.callQ
  ·exact rfl
  ·repeat constructor
  ·intro wq hq
   have hkeep : ∀ {v : Value},MfV w2 v R.2.1 → MfV wq v R.2.1 := fun h => h.updH (H := [⟨c9,[.int .u32 R.2.1.counter,.int .i64 R.2.1.key,.slice pa1 pys1.length pc1,.slice fa1 vs2.length fc1],31⟩]) ⟨hown9,trivial⟩ (by
    simp only [List.mem_cons,List.not_mem_nil,or_false,forall_eq]
    refine ⟨?_,?_⟩ <;> intro i <;> (rcases i with _ | _ | _ | _ | i) <;> simp) hq.upd fun k hk hn hO => hn ⟨by simp only;omega,hO⟩
   exact hq.q (same_hp (m := R.2.1) (hkeep hm1b) (hkeep hm2))
  repeat' first | refine Wl.move rfl rfl ?_ | (apply Wl.on;exact rfl;exact rfl;(with_reducible first | rfl | assumption | decide)) | (apply Wl.pickF;exact rfl;exact rfl;(with_reducible first | rfl | assumption | decide);exact rfl) | refine Wl.not rfl rfl ?_ | refine Wl.fieldAddrZ rfl rfl ?_ | (apply Wl.loadH;exact rfl;exact rfl;(focus repeat constructor);exact rfl) | (apply Wl.neqIs;exact rfl;exact rfl;exact rfl;(first | with_reducible assumption | with_reducible rfl)) | refine Wl.len rfl rfl ?_ | apply Wl.nil | apply St.seq | apply St.block | apply St.region | (apply St.condF;exact rfl;(with_reducible first | rfl | assumption | decide)) | apply St.skip | apply Gt.next
  refine St.loop (σ := Nat) (fun i => i ≤ vs2.length)
   (fun i => [(9,.pointer (some ⟨c9,0,none⟩)),(69,.slice fa2 vs2.length fc2),(70,.int .i64 (vs2.length : Int)),(71,.int .i64 (i : Int))])
   (fun _ => Hp w2 [⟨c11,[.int .u32 R.2.1.counter,.int .i64 R.2.1.key,.slice pa2 pys2.length pc2],28⟩,⟨c9,[.int .u32 R.2.1.counter,.int .i64 R.2.1.key,.slice pa1 pys1.length pc1,.slice fa1 vs2.length fc1],31⟩]) (fun i => vs2.length - i) 0 (Nat.zero_le _) (by repeat constructor) (fun _ h => h) ?_
  intro i hi
  by_cases hlt2 : i < vs2.length
  ·have hd5 : decide ((i : Int) < (vs2.length : Int)) = true := decide_eq_true (by omega)
   obtain ⟨b2,o2,rfl,hcl2⟩ := hfc2 (fun e => by subst e;simp at hlt2)
   obtain ⟨b1,o1,rfl,hcl1⟩ := hfc1 (fun e => by have := congrArg List.length e;simp only [List.length_nil] at this;omega)
   have hlt1 : i < vs1'.length := by omega
   have hltR : i < R.2.2.length := by omega
   have g2 : w2.cell? ⟨b2,o2 + (i : Int).toNat,none⟩ = some vs2[i] := by rw [Int.toNat_natCast];exact hcl2 i hlt2
   have g1 : w2.cell? ⟨b1,o1 + (i : Int).toNat,none⟩ = some vs1'[i] := by rw [Int.toNat_natCast];exact hcl1 i hlt1
   have hx2 := hbe2 i _ _ (List.getElem?_eq_getElem hlt2) (List.getElem?_eq_getElem hltR)
   have hx1 := hbe1 i _ _ (List.getElem?_eq_getElem hlt1) (List.getElem?_eq_getElem hltR)
   have lb2 := World.block_lt_of_cell? w2 _ g2
   have lb1 := World.block_lt_of_cell? w2 _ g1
   simp only at lb1 lb2
   have n92 : c9 ≠ b2 := by have := hn2 b2 rfl;omega
   have n91 : c9 ≠ b1 := by have := lb1w (fun e => by have := congrArg List.length e;simp only [List.length_nil] at this;omega) b1 o1 rfl;omega
   generalize R.2.2[i] = l at *
   generalize vs2[i] = x2 at *
   generalize vs1'[i] = x1 at *
   have hdl : decide (l ≠ l) = false := by simp
   have m1 := n9x _ _ hx1
   have m2 := n9x _ _ hx2
   repeat' first | (apply Wl.loadO;exact rfl;exact rfl;(first | exact g1 | exact g2);(first | exact ⟨by simp only;omega,n92,trivial⟩ | exact ⟨by simp only;omega,n91,trivial⟩)) | (apply Wl.convBSo (l := l);exact rfl;exact rfl;(first | exact hx1 | exact hx2);(intro q hq hlt hne;first | exact ⟨by simp only;omega,m1 hne q hq,trivial⟩ | exact ⟨by simp only;omega,m2 hne q hq,trivial⟩)) | refine Wl.move rfl rfl ?_ | refine Wl.assign rfl rfl ?_ | refine Wl.fieldAddrZ rfl rfl ?_ | (apply Wl.loadH;exact rfl;exact rfl;(focus repeat constructor);exact rfl) | refine Wl.lss rfl rfl rfl ?_ | (refine Wl.addI rfl rfl rfl ?_ ?_;constructor <;> omega) | refine Wl.neqSB rfl rfl rfl ?_ | (refine Wl.indexAddr1 rfl rfl rfl ?_ ?_;constructor <;> omega) | apply Wl.nil | apply Wl.nilQ | apply St.seq | apply St.block | apply St.region | (apply St.draw;exact mixed;(kernel_rfl);exact (fun _ h => Hp.drew h)) | (apply St.condT;exact rfl;(with_reducible first | rfl | assumption | decide)) | (apply St.condF;exact rfl;(with_reducible first | rfl | assumption | decide)) | apply St.skip | apply Gt.next | apply Gt.inNormal
   apply Gt.round (i + 1)
   rotate_left
   ·omega
   ·repeat constructor
   ·exact fun _ h => h
   exact hlt2
  ·obtain rfl : i = vs2.length := by omega
   have hd5 : decide ((vs2.length : Int) < (vs2.length : Int)) = false := decide_eq_false (by omega)
   repeat' first | refine Wl.assign rfl rfl ?_ | refine Wl.lss rfl rfl rfl ?_ | apply Wl.nil | apply St.seq | apply St.region | (apply St.condF;exact rfl;(with_reducible first | rfl | assumption | decide)) | apply St.ret | apply St.exit | apply Gt.next | apply Gt.thenExit | apply Gt.inExit | (apply Gt.out1;exact rfl;exact rfl;intro w' hp)
   exact ⟨rfl,hfin _ _ hp (by simp;omega)⟩
end Go.Proofs.YtmjlceimjlabpaaDoor
end
