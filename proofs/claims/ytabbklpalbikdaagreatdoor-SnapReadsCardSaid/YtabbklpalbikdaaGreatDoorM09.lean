/-
 3 texts,one behind the other;each says what it proves. Conditions: as each text says.
-/
import Derived.Test.YtabbklpalbikdaaGreatDoorM08
import Derived.Test.YtabbklpalbikdaaGreatDoorM02
import Derived.Test.YtabbklpalbikdaaGreatDoorM07
import Derived.Test.YtabbklpalbikdaaGreatDoorM06
import Derived.Test.YtabbklpalbikdaaGreatDoorMOpen
import Derived.Test.YtabbklpalbikdaaGreatDoorRows
import Derived.WalkKit
import Derived.ProofKit
import Derived.LaidMore
import Derived.OpenShut
import Derived.ShutString
import Derived.ChangeOld
import Derived.Below
import Derived.MakeChecks
import Derived.Stop.Joined
set_option maxHeartbeats 32000000
set_option linter.unusedVariables false
set_option linter.unusedSimpArgs false
section
namespace Go.Pt
open Go.RowKit
section
variable {P : Program} {md : Md} {N : Nat} {ops : Array Oper} {rest : List Oper} {Γ : Env} {C : World → Prop} {Q : Exit → Act → World → Prop} {d : Nat} {ty : TypeId} {pos : String} {af : Array Edge} {t u : TypeId} {x y : Operand} {m n : Nat}
theorem Wl.xorM (hd : Nat.blt d N = true) (hx : ev Γ x = some (.int .u64 (m : Int))) (hy : ev Γ y = some (.int .u64 (n : Int))) (hm : m < 4294967296) (hn : n < 4294967296) (h : Wl rest P md ops N ((d,.int .u64 ((Sha.X m n : Nat) : Int)) :: Γ) C Q) : Wl (⟨some d,.binOp .xor t x y u,ty,pos,af,none⟩ :: rest) P md ops N Γ C Q :=
 Wl.xorN64 hd hx hy (by rw [Sha.X64 hm hn];exact h)
theorem Wl.andM (hd : Nat.blt d N = true) (hx : ev Γ x = some (.int .u64 (m : Int))) (hy : ev Γ y = some (.int .u64 (n : Int))) (hm : m < 4294967296) (h : Wl rest P md ops N ((d,.int .u64 ((Sha.A m n : Nat) : Int)) :: Γ) C Q) : Wl (⟨some d,.binOp .and t x y u,ty,pos,af,none⟩ :: rest) P md ops N Γ C Q :=
 Wl.andN64 hd hx hy (by rw [Sha.A64 hm];exact h)
theorem Wl.indexSC {t e by_ : TypeId} [ht : TyD P t (.slice e)] [TyS P e 1 by_] {x i : Operand} {b n c : Nat} {k : IntKind} {jj : Int} (j : Nat) (hd : Nat.blt d N = true) (hx : ev Γ x = some (.slice (some ⟨b,0,none⟩) n c)) (hi : ev Γ i = some (.int k jj)) (hjj : jj = (j : Int))
  (hj : j < n) (h : Wl rest P md ops N ((d,.pointer (some ⟨b,j,none⟩)) :: Γ) C Q) : Wl (⟨some d,.indexAddr t x i,ty,pos,af,none⟩ :: rest) P md ops N Γ C Q :=
 Wl.indexS0 hd hx (hjj ▸ hi) hj h
theorem Wl.subUC {i : Int} (m : Nat) (hd : Nat.blt d N = true) (hx : ev Γ x = some (.int .u64 i)) (hi : i = (m : Int)) (hy : ev Γ y = some (.int .u64 (n : Int))) (hn : n ≤ m) (hm : m < 18446744073709551616) (h : Wl rest P md ops N ((d,.int .u64 ((m - n : Nat) : Int)) :: Γ) C Q) : Wl (⟨some d,.binOp .sub t x y u,ty,pos,af,none⟩ :: rest) P md ops N Γ C Q :=
 Wl.subE hd hx hy (by rw [hi,IntKind.wrap_u64];omega) h
end
theorem hpDrop2 {w0 w : World} {x : Blk} {b t : Nat} {cs : List Value} {H : List Blk} (h : Hp w0 (x :: ⟨b,cs,t⟩ :: H) w) (hy : w0.heap.size ≤ b ∨ w0.heap[b]? = some (.cells cs.toArray t (0,0))) : Hp w0 (x :: H) w :=
 ⟨⟨h.upd.os,h.upd.tape,h.upd.output,h.upd.size,fun k hk hs => by
  by_cases e : b = k
  ·subst e
   rcases hy with hy | hy
   ·omega
   ·rw [hy];exact h.own.2.1
  ·exact h.upd.block k hk fun y => hs fun ho => y ⟨ho.1,e,ho.2⟩⟩,⟨h.own.1,h.own.2.2⟩,⟨h.apart.1.2,h.apart.2.2⟩⟩
end Go.Pt
namespace Go.Proofs.YtabbklpalbikdaaGreatDoor
open Go.RowKit Go.Pt
theorem Wl.rightQ {N : Nat} {ops : Array Oper} {rest : List Oper} {Γ : Env} {w0 : World} {H : List Blk} {Q : Exit → Act → World → Prop} {d : Nat} {ty : TypeId} {pos : String} {af : Array Edge} {xs : Array Operand} {ts : Array TypeId} {m : Nat} {k : Int} (r : Nat) (hd : Nat.blt d N = true)
  (hx : Evs Γ xs.toList [.int .u64 (m : Int),.int .u64 k]) (hk : k = (r : Int)) (hr : (decide (r ≤ 31) && decide (0 < r)) = true) (hm : m < 4294967296)
  (h : Wl rest Tryz.prog .seq ops N ((d,.int .u64 ((Sha.rr r m : Nat) : Int)) :: Γ) (Hp w0 H) Q) :
  Wl (⟨some d,.call { callee := .value (.func 104),args := xs,argTypes := ts },ty,pos,af,none⟩ :: rest) Tryz.prog .seq ops N Γ (Hp w0 H) Q := by
 rw [Bool.and_eq_true] at hr
 subst hk
 exact Wl.callQ hd hx (fun w hw => (refRight m r w hm (of_decide_eq_true hr.1) (of_decide_eq_true hr.2)).mono fun e w' he => ⟨he.1,hw.keep he.2⟩) h
theorem rowOpen {w : World} {base n : Nat} {v : Value} {f : Nat → Nat} {xs : List Value} (h : w.ownsRow base 143 1 v n xs) (hn : 0 < n) (hx : xs = cellsN .u64 n f) :
  ∃ g cap rest,v = .slice (some ⟨g,0,none⟩) n cap ∧ base ≤ g ∧ w.heap[g]? = some (.cells (cellsN .u64 n f ++ rest).toArray 143 (0,0)) := by
 rcases h.2 with ⟨_,h0⟩ | ⟨g,cap,cur,rfl,hb,hg,_,_,_,ht⟩
 ·omega
 ·refine ⟨g,cap,cur.toList.drop n,rfl,hb,?_⟩
  rw [← hx,← ht,Nat.mul_one,List.take_append_drop]
  simpa using hg
theorem rowArr {w : World} {g n : Nat} {f : Nat → Nat} {rest : List Value} {t : TypeId} {fr : Nat × Nat} {k : IntKind} (h : w.heap[g]? = some (.cells (cellsN k n f ++ rest).toArray t fr)) : ArrAt w g 0 k n f := fun j hj => by
 rw [cellAt h,Nat.zero_add]
 simp only [List.getElem?_toArray]
 rw [List.getElem?_append_left (by rw [cellsN_len];exact hj),cellsN_get hj]
theorem u64s_range (n : Nat) (f : Nat → Nat) : u64s ((List.range n).map f) = cellsN .u64 n f := by
 unfold u64s cellsN
 rw [List.map_map];rfl
theorem KL_range : Sha.KL = (List.range 64).map Sha.K := by decide +kernel
theorem rowGet {n j : Nat} {f : Nat → Nat} {rest : List Value} (hj : j < n) : (cellsN .u64 n f ++ rest)[j]? = some (.int .u64 (f j)) := by
 rw [List.getElem?_append_left (by rw [cellsN_len];exact hj),cellsN_get hj]
theorem Bo.arr {w : World} {base : Nat} {v : Value} {l : List UInt8} (h : Bo w base v l) (hne : l ≠ []) : ∃ g cap,v = .slice (some ⟨g,0,none⟩) l.length cap ∧ base ≤ g ∧ g < w.heap.size ∧ ArrAt w g 0 .u8 l.length (Sha.byteAt l) := by
 have hbs := h.bs
 rcases h.2 with ⟨_,h0⟩ | ⟨g,cap,cur,rfl,hb,hg,_,_,_,ht⟩
 ·exact absurd (List.length_eq_zero_iff.1 h0) hne
 ·refine ⟨g,cap,rfl,hb,(Array.getElem?_eq_some_iff.1 hg).1,fun j hj => ?_⟩
  obtain ⟨b,off,e,hc⟩ := hbs.cells hne
  cases e
  have := hc j hj
  rw [Sha.byteAt_get hj]
  exact this
def SB (wB : World) (gh c : Nat) : Nat → Prop := fun k => wB.heap.size ≤ k ∨ k = gh ∨ k = c
theorem SB.of {wB : World} {gh c k : Nat} {b1 b2 : Blk} (h1 : b1.b = gh) (h2 : b2.b = c) (h : ¬ Off [b1,b2] k) : SB wB gh c k := .inr (by
 apply Classical.byContradiction
 intro hn
 exact h ⟨fun e => hn (.inl (e.symm.trans h1)),fun e => hn (.inr (e.symm.trans h2)),trivial⟩)
theorem Wl.lenBs {N : Nat} {ops : Array Oper} {rest : List Oper} {Γ : Env} {C : World → Prop} {Q : Exit → Act → World → Prop} {md : Md} {d : Nat} {ty t : TypeId} {pos : String} {af : Array Edge} {x : Operand} {v : Value} {a : Option Addr} {n c e : Nat} [TyD Tryz.prog t (.slice e)] (he : v = .slice a n c) (hd : Nat.blt d N = true) (hx : ev Γ x = some v)
  (h : Wl rest Tryz.prog md ops N ((d,.int .i64 n) :: Γ) C Q) : Wl (⟨some d,.call { callee := .builtin .len,args := #[x],argTypes := #[t] },ty,pos,af,none⟩ :: rest) Tryz.prog md ops N Γ C Q := Wl.len hd (he ▸ hx) h
instance tz64u : TyZ Tryz.prog 205 (.agg (cellsN .u64 64 fun _ => 0).toArray) := ⟨by kernel_rfl⟩
theorem z64u : (Value.agg (cellsN .u64 64 fun _ => 0).toArray).cells.toList = cellsN .u64 64 fun _ => 0 := rfl
theorem fillN_lt {f g : Nat → Nat} {i j : Nat} (h : j < i) : fillN f g i j = g j := by unfold fillN;rw [if_pos h]
theorem updN_at (f : Nat → Nat) (i x : Nat) : updN f i x i = x := by unfold updN;rw [if_pos rfl]
theorem updN_upd (f : Nat → Nat) (i x y : Nat) : updN (updN f i x) i y = updN f i y := by funext j;unfold updN;split <;> rfl
theorem updN_self {f : Nat → Nat} {i x : Nat} (h : f i = x) : updN f i x = f := by funext j;unfold updN;split <;> simp_all
theorem v8u (a b c d e f g h : Nat) : [Value.int .u64 (a : Int),.int .u64 (b : Int),.int .u64 (c : Int),.int .u64 (d : Int),.int .u64 (e : Int),.int .u64 (f : Int),.int .u64 (g : Int),.int .u64 (h : Int)] = cellsN .u64 8 (Sha.v8 a b c d e f g h) := by unfold cellsN;rfl
theorem hpBack {wq w5 w' : World} {gh c2 : Nat} {x1 x2 x3 x4 : Blk} (U : Upd (SB wq gh c2) wq w5) (h : Hp w5 [x1,x2,x3,x4] w') (h1 : wq.heap.size ≤ x1.b) (h2 : wq.heap.size ≤ x2.b) (h3 : x3.b = gh) (h4 : x4.b = c2) : Hp wq [x3,x4] w' :=
 ⟨U.comp h.upd fun k hk hs ho => hs.elim (fun hs => by
  rcases hs with hs | hs | hs
  ·omega
  ·exact ho.1 (h3.trans hs.symm)
  ·exact ho.2.1 (h4.trans hs.symm)) fun hs => hs ⟨fun e => by omega,fun e => by omega,ho⟩,h.own.2.2,h.apart.2.2⟩
theorem refSum (v : Value) (l : List UInt8) (w : World) (hv : Bs w v l) (hn : l.length < 100000000) (hvl : l ≠ [] → ∀ k,v.ownBlock = some k → k < w.heap.size) :
  Calls Tryz.prog 49 #[v] w fun e w' => e = .returned (.agg (cellsN .u8 32 (Sha.of l)).toArray) ∧ Hp w [] w' := by
 refine enter (args := [_]) (Γ := [(0,_)]) Tryz.func49 Tryz.ntmps49 rfl odq (.cons rfl .nil) ?_
 repeat' first | (apply Wl.allocN;exact rfl;exact z32b;intro c hc ho) | apply Wl.nil | apply St.seq | apply St.region | apply Gt.next
 apply Wl.callC
 ·exact rfl
 ·exact kd
 intro wq hq
 refine (refRoots 64 3 312 wq (.inr rfl) ku ku ku Sha.cnt64 Sha.len64).mono ?_
 rintro e wr ⟨v3,rfl,h3,u3⟩
 rw [Sha.rl64,KL_range,u64s_range] at h3
 obtain ⟨ga,capa,resta,rfl,hga,hA⟩ := rowOpen h3 ku rfl
 have hAa := rowArr hA
 have hgal : ga < wr.heap.size := (Array.getElem?_eq_some_iff.1 hA).1
 have lc := hq.own.lt (.head _)
 simp only at lc
 have hsz1 := hq.upd.size
 have hu1 : Upd (fun k => w.heap.size ≤ k) w wr := hpOn (hpNewer hq u3) (Upd.refl _ _) zi
 refine ⟨_,_,rfl,hpRb (hpNewer hq u3),?_⟩
 have hszr := u3.size
 clear hq u3 h3 hA
 repeat' first | refine Wl.assign rfl rfl ?_ | apply Wl.nil | apply St.seq | apply St.region | apply Gt.next
 apply Wl.callC
 ·exact rfl
 ·exact kd
 intro wq2 hq
 refine (refRoots 8 2 20 wq2 (.inl rfl) ku ku ku Sha.cnt8 Sha.len8).mono ?_
 rintro e wB ⟨v4,rfl,h4,u4⟩
 rw [Sha.rl8,u64s_range] at h4
 obtain ⟨gh,caph,resth,rfl,hgh,hH⟩ := rowOpen h4 ku rfl
 have hszr2 := hq.upd.size
 have hszr4 := u4.size
 have hKB : ArrAt wB ga 0 .u64 64 Sha.K := (hAa.hp hq (Off.of zi)).upd u4 kc
 have hghl : gh < wB.heap.size := (Array.getElem?_eq_some_iff.1 hH).1
 have hu2 : Upd (fun k => w.heap.size ≤ k) w wB := hpOn (hpNewer hq u4) hu1 zi
 refine ⟨_,_,rfl,Hp.open (hpRb (hpNewer hq u4)) hH ⟨by simp only;omega,trivial⟩,?_⟩
 clear hq u4 h4 hH hAa
 have hvB : Bs wB v l := hv.upd hu2 fun k hk hlt _ hs => by omega
 have hvo : ∀ k,v.ownBlock = some k → k < wB.heap.size → byteCells l ≠ [] → Off [⟨gh,cellsN .u64 8 Sha.H0 ++ resth,143⟩,⟨c,cellsN .u8 32 fun _ => 0,107⟩] k := fun k hk _ hne => by
  have := hvl (byteCells_ne.1 hne) k hk
  exact ⟨by simp only;omega,by simp only;omega,trivial⟩
 repeat' first | refine Wl.move rfl rfl ?_ | refine Wl.assign rfl rfl ?_ | apply Wl.nil | apply St.seq | apply St.region | apply Gt.next
 apply Wl.appendV (news := byteCells l) (m := l.length) (base := wB.heap.size) (n := 0) (xs := [])
 ·exact rfl
 ·exact rfl
 ·exact rfl
 ·exact hvB
 ·exact hvo
 ·exact World.ownsRow_nil _ _ _ _
 ·intro k hk;simp [Value.ownBlock] at hk
 ·exact byteCells_all l
 ·exact rfl
 ·decide
 ·unfold maxLen;omega
 ·omega
 ·exact Nat.le_refl _
 intro vp w1 ho1 u1 _ hoff1
 have hb1 : Bo w1 wB.heap.size vp l := by
  have := Bo.of (l := []) (m := l) (cs := byteCells l) ho1 zd rfl
  simpa using this
 have hU1 : Upd (SB wB gh c) wB w1 := u1.mono fun k _ hs => hs.elim (fun e => by simp [Value.ownBlock] at e) (SB.of rfl rfl)
 clear ho1 u1
 generalize c = c2 at *
 have hcw : w.heap.size ≤ c2 := hc
 repeat' first | (apply Wl.lit;exact rfl;exact kj;exact rfl;exact rfl;exact ke;intro c hc ho)
 apply Wl.appendT
 ·exact rfl
 ·exact rfl
 ·exact rfl
 ·exact hc
 ·exact rfl
 ·exact hb1
 ·intro k hk
  have := hb1.base hk
  exact ⟨by simp only;omega,by simp only;omega,trivial⟩
 ·exact rfl
 ·exact rfl
 ·decide
 ·unfold maxLen;omega
 ·omega
 ·exact hU1.size
 intro vq wC ho1 u1 _ hoff2
 have hbC : Bo wC wB.heap.size vq (l ++ 0x80 :: Sha.zeros 0) := Bo.of (l := l) (m := [0x80]) ho1 rfl rfl
 have hUC : Upd (SB wB gh c2) wB wC := hU1.comp u1 fun k hk hs => hs.elim id fun hs => hs.elim (fun e => .inl (hb1.base e)) (SB.of rfl rfl)
 clear ho1 u1 hb1 hU1 hoff1 hoff2
 repeat' first | refine Wl.assign rfl rfl ?_ | apply Wl.nil | apply St.seq | apply St.block | apply Gt.next
 generalize hk : (119 - l.length % 64) % 64 = kz
 refine St.loop (σ := Nat × World × Value) (fun τ => τ.1 ≤ kz ∧ Upd (SB wB gh c2) wB τ.2.1 ∧ Bo τ.2.1 wB.heap.size τ.2.2 (l ++ 0x80 :: Sha.zeros τ.1))
  (fun τ => [(0,v),(2,mp c2),(3,.slice (some ⟨ga,0,none⟩) 64 capa),(4,.slice (some ⟨gh,0,none⟩) 8 caph),(5,τ.2.2)])
  (fun τ => Hp τ.2.1 [⟨gh,cellsN .u64 8 Sha.H0 ++ resth,143⟩,⟨c2,cellsN .u8 32 fun _ => 0,107⟩]) (fun τ => kz - τ.1) (0,wC,vq) ⟨by simp,hUC,hbC⟩ kq (fun _ h => h) ?_
 clear hbC hUC
 rintro ⟨j,wj,vj⟩ ⟨hj,hU,hb⟩
 simp only at hj hU hb ⊢
 obtain ⟨pa,pcap,e1,hpl,hpm⟩ := hb.shape
 have hlen : (l ++ 0x80 :: Sha.zeros j).length = l.length + 1 + j := by simp [Sha.zeros];omega
 have hlm : ((l.length + 1 + j : Nat) : Int) % 64 = (((l.length + 1 + j) % 64 : Nat) : Int) := by omega
 rw [hlen] at e1
 subst e1
 by_cases hlt : j < kz
 ·have hd : decide ((((l.length + 1 + j) % 64 : Nat) : Int) ≠ 56) = true := decide_eq_true kc
  repeat' first | (apply Wl.remN (n := 64);exact rfl;exact rfl;exact rfl;(decide)) | refine Wl.move rfl rfl ?_ | refine Wl.neq rfl rfl rfl ?_ | refine Wl.len rfl rfl ?_ | (apply Wl.lit;exact rfl;exact kj;exact rfl;exact rfl;exact ke;intro c hc ho) | apply Wl.nil | apply St.seq | apply St.block | apply St.region | (apply St.condT;exact rfl;exact k5) | apply St.skip | apply Gt.next
  apply Wl.appendT
  ·exact rfl
  ·exact rfl
  ·exact rfl
  ·exact hc
  ·exact rfl
  ·exact hb
  ·intro k hk
   have := hb.base hk
   exact ⟨by simp only;omega,by simp only;omega,trivial⟩
  ·exact rfl
  ·exact rfl
  ·decide
  ·unfold maxLen;omega
  ·omega
  ·exact hU.size
  intro vk wk ho1 u1 _ _
  have hbk : Bo wk wB.heap.size vk (l ++ 0x80 :: Sha.zeros (j + 1)) := by
   have := Bo.of (l := l ++ 0x80 :: Sha.zeros j) (m := [0]) ho1 (by rw [hlen];rfl) rfl
   rw [List.append_assoc,List.cons_append,show Sha.zeros j ++ [0] = Sha.zeros (j + 1) by unfold Sha.zeros;rw [List.replicate_succ']] at this
   exact this
  have hUk : Upd (SB wB gh c2) wB wk := hU.comp u1 fun k hk hs => hs.elim id fun hs => hs.elim (fun e => .inl (hb.base e)) (SB.of rfl rfl)
  clear ho1 u1
  repeat' first | refine Wl.assign rfl rfl ?_ | apply Wl.nil | apply Gt.inNormal
  apply Gt.round (j + 1,wk,vk)
  rotate_left
  ·simp only;omega
  ·exact kd
  ·exact fun _ h => h
  ·exact ⟨by simp only;omega,hUk,hbk⟩
 have hjk : j = kz := by omega
 subst hjk
 have hd : decide ((((l.length + 1 + j) % 64 : Nat) : Int) ≠ 56) = false := decide_eq_false kc
 repeat' first | (apply Wl.remN (n := 64);exact rfl;exact rfl;exact rfl;(decide)) | refine Wl.move rfl rfl ?_ | refine Wl.assign rfl rfl ?_ | refine Wl.neq rfl rfl rfl ?_ | refine Wl.len rfl rfl ?_ | apply Wl.nil | apply St.seq | apply St.block | apply St.region | (apply St.condF;exact rfl;exact k5) | apply St.exit | apply Gt.next | apply Gt.thenExit | apply Gt.inExit
 obtain ⟨av,capv,hve,hvl2,_⟩ := hvB.shape
 have hl8 : (Sha.be8 (l.length * 8)).length = 8 := by simp [Sha.be8]
 refine St.loop (σ := Nat × World × Value) (fun τ => τ.1 ≤ 8 ∧ Upd (SB wB gh c2) wB τ.2.1 ∧ Bo τ.2.1 wB.heap.size τ.2.2 (l ++ 0x80 :: (Sha.zeros j ++ (Sha.be8 (l.length * 8)).take τ.1)))
  (fun τ => [(0,v),(2,mp c2),(3,.slice (some ⟨ga,0,none⟩) 64 capa),(4,.slice (some ⟨gh,0,none⟩) 8 caph),(5,τ.2.2),(6,.int .i64 (7 - (τ.1 : Int)))])
  (fun τ => Hp τ.2.1 [⟨gh,cellsN .u64 8 Sha.H0 ++ resth,143⟩,⟨c2,cellsN .u8 32 fun _ => 0,107⟩]) (fun τ => 8 - τ.1) (0,wj,.slice pa (l.length + 1 + j) pcap) ⟨by simp,hU,by simpa using hb⟩ kq (fun _ h => h) ?_
 clear hb hU hpl hpm hlt hd hlm
 rintro ⟨q,wq,vq⟩ ⟨hq,hU,hb⟩
 simp only at hq hU hb ⊢
 have hlen2 : (l ++ 0x80 :: (Sha.zeros j ++ (Sha.be8 (l.length * 8)).take q)).length = l.length + 1 + j + q := by
  simp [Sha.zeros,hl8];omega
 obtain ⟨pa,pcap,e1,hpl,hpm⟩ := hb.shape
 rw [hlen2] at e1
 subst e1
 by_cases hlt : q < 8
 ·have e7 : (7 : Int) - (q : Int) = ((7 - q : Nat) : Int) := by omega
  rw [e7]
  have hd : decide (((7 - q : Nat) : Int) ≥ 0) = true := decide_eq_true kc
  have hd' : decide (0 ≤ ((7 - q : Nat) : Int)) = true := decide_eq_true kc
  repeat' first | (apply Wl.lenBs hve;exact rfl;exact rfl) | (apply Wl.mulNI (n := 8);exact rfl;exact rfl;exact rfl;omega) | (apply Wl.mulNI (m := 8);exact rfl;exact rfl;exact rfl;omega) | (apply Wl.shrV;exact rfl;exact rfl;exact rfl;(show _ ≤ 64;omega)) | refine Wl.convN8 rfl rfl ?_ | refine Wl.move rfl rfl ?_ | refine Wl.geq rfl rfl rfl ?_ | (apply Wl.lit;exact rfl;exact kj;exact rfl;exact rfl;exact ke;intro c hc ho) | apply Wl.nil | apply St.seq | apply St.block | apply St.region | (apply St.condT;exact rfl;exact k5) | apply St.skip | apply Gt.next
  apply Wl.appendT
  ·exact rfl
  ·exact rfl
  ·exact rfl
  ·exact hc
  ·exact rfl
  ·exact hb
  ·intro k hk
   have := hb.base hk
   exact ⟨by simp only;omega,by simp only;omega,trivial⟩
  ·exact rfl
  ·exact rfl
  ·decide
  ·unfold maxLen;omega
  ·omega
  ·exact hU.size
  intro vk wk ho1 u1 _ _
  have he8 : 56 - 8 * q = 8 * (7 - q) := by omega
  have hge : (Sha.be8 (l.length * 8)).take (q + 1) = (Sha.be8 (l.length * 8)).take q ++ [UInt8.ofNat (l.length * 8 / 2 ^ (8 * (7 - q)))] := by
   rw [List.take_succ_eq_append_getElem kc]
   simp [Sha.be8,he8]
  have hbk : Bo wk wB.heap.size vk (l ++ 0x80 :: (Sha.zeros j ++ (Sha.be8 (l.length * 8)).take (q + 1))) := by
   have := Bo.of (l := l ++ 0x80 :: (Sha.zeros j ++ (Sha.be8 (l.length * 8)).take q)) (m := [UInt8.ofNat (l.length * 8 / 2 ^ (8 * (7 - q)))]) ho1 (by rw [hlen2];rfl) (by simp [byteCells])
   rw [hge]
   simpa using this
  have hUk : Upd (SB wB gh c2) wB wk := hU.comp u1 fun k hk hs => hs.elim id fun hs => hs.elim (fun e => .inl (hb.base e)) (SB.of rfl rfl)
  clear ho1 u1
  repeat' first | refine Wl.move rfl rfl ?_ | refine Wl.assign rfl rfl ?_ | (refine Wl.subI rfl rfl rfl ?_ ?_;constructor <;> omega) | apply Wl.nil | apply St.region | apply Gt.next | apply Gt.inNormal
  apply Gt.round (q + 1,wk,vk)
  rotate_left
  ·simp only;omega
  ·have e8 : (7 : Int) - ((q + 1 : Nat) : Int) = ((7 - q : Nat) : Int) - 1 := by omega
   rw [e8]
   (focus repeat constructor)
  ·exact fun _ h => h
  ·exact ⟨by simp only;omega,hUk,hbk⟩
 have hq8 : q = 8 := by omega
 subst hq8
 have hd : decide ((7 : Int) - ((8 : Nat) : Int) ≥ 0) = false := by decide
 have hd' : decide (0 ≤ (7 : Int) - ((8 : Nat) : Int)) = false := by decide
 rw [show l ++ 0x80 :: (Sha.zeros j ++ (Sha.be8 (l.length * 8)).take 8) = Sha.padded l by
  unfold Sha.padded Sha.pad
  rw [hk,List.take_of_length_le kc]] at hb hlen2
 have hlen3 := Sha.padded_len l
 rw [hk] at hlen3
 have hof := Sha.of_eq l
 generalize hpd : Sha.padded l = pd at *
 repeat' first | refine Wl.move rfl rfl ?_ | refine Wl.assign rfl rfl ?_ | refine Wl.geq rfl rfl rfl ?_ | apply Wl.nil | apply St.seq | apply St.block | apply St.region | (apply St.condF;exact rfl;exact k5) | apply St.exit | apply Gt.next | apply Gt.thenExit | apply Gt.inExit
 obtain ⟨gp,capp,ep,hgp,hgpl,hP⟩ := hb.arr (fun e => by subst e;simp at hlen2)
 rw [← hlen2] at ep
 cases ep
 rw [← hlen2]
 have hpl8 : pd.length = 64 * (pd.length / 64) := by omega
 generalize hNb : pd.length / 64 = NB at *
 have hKq : ArrAt wq ga 0 .u64 64 Sha.K := hKB.upd hU (fun h => by rcases h with h | h | h <;> omega)
 clear hb hpl hpm hpd hlt hd hd'
 refine St.loop (σ := Nat × World) (fun τ => τ.1 ≤ NB ∧ Upd (SB wq gh c2) wq τ.2) (fun τ => [(2,mp c2),(3,.slice (some ⟨ga,0,none⟩) 64 capa),(4,.slice (some ⟨gh,0,none⟩) 8 caph),(5,.slice (some ⟨gp,0,none⟩) pd.length pcap),(7,.int .i64 ((64 * τ.1 : Nat) : Int))])
  (fun τ => Hp τ.2 [⟨gh,cellsN .u64 8 (Sha.hN Sha.H0 pd τ.1) ++ resth,143⟩,⟨c2,cellsN .u8 32 fun _ => 0,107⟩]) (fun τ => NB - τ.1) (0,wq) ⟨by simp,Upd.refl _ _⟩ kq (fun _ h => h) ?_
 rintro ⟨k,wk⟩ ⟨hkN,hUk⟩
 simp only at hkN hUk ⊢
 have hPk : ArrAt wk gp 0 .u8 pd.length (Sha.byteAt pd) := hP.upd hUk (fun h => by rcases h with h | h | h <;> omega)
 have hKk : ArrAt wk ga 0 .u64 64 Sha.K := hKq.upd hUk (fun h => by rcases h with h | h | h <;> omega)
 have hszk := hUk.size
 have hHl : ∀ j,j < 8 → Sha.hN Sha.H0 pd k j < 4294967296 := fun j hj => by
  cases k with
  | zero => exact Sha.H0_lt j hj
  | succ k => exact Sha.comp_lt _ _ _
 by_cases hlt : k < NB
 ·have hd : decide (((64 * k : Nat) : Int) < ((pd.length : Nat) : Int)) = true := decide_eq_true kc
  have hstep : Sha.hN Sha.H0 pd (k + 1) = Sha.comp (Sha.hN Sha.H0 pd k) fun j => Sha.byteAt pd (64 * k + j) := rfl
  generalize Sha.hN Sha.H0 pd k = h at *
  generalize hpB : (fun j => Sha.byteAt pd (64 * k + j)) = pB at *
  have hpl : ∀ j,pB j < 256 := fun j => by rw [← hpB];exact Sha.byteAt_lt _ _
  have hcomp : Sha.comp h pB = fun j => Sha.P (h j) (Sha.rnds Sha.K (Sha.sch (Sha.ldw pB 64) 48) h 64 j) := rfl
  have hW1 : ∀ i,i < 16 → Sha.sch (Sha.ldw pB 64) 48 i = Sha.word pB i := fun i hi => by rw [Sha.sch_lo _ hi,Sha.ldw64 hpl,if_pos hi]
  have hW2 : ∀ i,16 ≤ i → i < 64 → Sha.sch (Sha.ldw pB 64) 48 i = Sha.sch1 (Sha.sch (Sha.ldw pB 64) 48) i := fun i h1 h2 => Sha.sch_at _ h1 h2
  have hW3 : ∀ i,i < 64 → Sha.sch (Sha.ldw pB 64) 48 i < 4294967296 := fun i hi => Sha.sch_lt (fun j => by
   rw [Sha.ldw64 hpl]
   split
   ·exact Sha.word_lt hpl _
   ·decide) hi
  generalize Sha.sch (Sha.ldw pB 64) 48 = W at *
  repeat' first | (apply Wl.allocN;exact rfl;exact z64u;intro c hc ho) | refine Wl.move rfl rfl ?_ | refine Wl.assign rfl rfl ?_ | refine Wl.lss rfl rfl rfl ?_ | refine Wl.len rfl rfl ?_ | apply Wl.nil | apply St.seq | apply St.block | apply St.region | (apply St.condT;exact rfl;exact k5) | apply St.skip | apply Gt.next
  refine St.loop (σ := Nat) (fun i => i ≤ 64) (fun i => [(2,mp c2),(3,.slice (some ⟨ga,0,none⟩) 64 capa),(4,.slice (some ⟨gh,0,none⟩) 8 caph),(5,.slice (some ⟨gp,0,none⟩) pd.length pcap),(7,.int .i64 ((64 * k : Nat) : Int)),(8,mp c),(9,.int .i64 i)])
   (fun i => Hp wk [⟨c,cellsN .u64 64 (fillN (fun _ => 0) W i),205⟩,⟨gh,cellsN .u64 8 h ++ resth,143⟩,⟨c2,cellsN .u8 32 fun _ => 0,107⟩]) (fun i => 64 - i) 0 kc kq (fun _ h => by rw [fillN_zero];exact h) ?_
  intro i hi
  have hset : updN (fillN (fun _ => 0) W i) i (W i) = fillN (fun _ => 0) W (i + 1) := fillN_step _ _ _
  by_cases hli : i < 64
  ·have hdi : decide ((i : Int) < 64) = true := decide_eq_true kc
   by_cases h16 : i < 16
   ·have hd16 : decide ((i : Int) < 16) = true := decide_eq_true kc
    repeat' first | refine Wl.move rfl rfl ?_ | refine Wl.assign rfl rfl ?_ | refine Wl.lss rfl rfl rfl ?_ | apply Wl.nil | apply St.seq | apply St.block | apply St.region | (apply St.condT;exact rfl;exact k5) | apply St.skip | apply Gt.next
    refine St.loop (σ := Nat) (fun q => q ≤ 4) (fun q => [(2,mp c2),(3,.slice (some ⟨ga,0,none⟩) 64 capa),(4,.slice (some ⟨gh,0,none⟩) 8 caph),(5,.slice (some ⟨gp,0,none⟩) pd.length pcap),(7,.int .i64 ((64 * k : Nat) : Int)),(8,mp c),(9,.int .i64 i),(10,.int .i64 q)])
     (fun q => Hp wk [⟨c,cellsN .u64 64 (updN (fillN (fun _ => 0) W i) i (Sha.wpart pB i q)),205⟩,⟨gh,cellsN .u64 8 h ++ resth,143⟩,⟨c2,cellsN .u8 32 fun _ => 0,107⟩]) (fun q => 4 - q) 0 kc kq
     (fun _ h => by rw [show updN (fillN (fun _ => 0) W i) i (Sha.wpart pB i 0) = fillN (fun _ => 0) W i from updN_self (by unfold fillN;rw [if_neg kc];rfl)];exact h) ?_
    intro q hq4
    by_cases hlq : q < 4
    ·have hdq : decide ((q : Int) < 4) = true := decide_eq_true kc
     have hwl : Sha.wpart pB i q < 16777216 := Nat.lt_of_lt_of_le (Sha.wpart_lt hpl i q) (Nat.le_trans (Nat.pow_le_pow_right ku (show q ≤ 3 by omega)) ku)
     have hG := updN_at (fillN (fun _ => 0) W i) i (Sha.wpart pB i q)
     have hnx : updN (fillN (fun _ => 0) W i) i (Sha.wpart pB i (q + 1)) = updN (updN (fillN (fun _ => 0) W i) i (Sha.wpart pB i q)) i (Sha.wpart pB i q * 256 + Sha.byteAt pd (64 * k + 4 * i + q)) := by
      rw [updN_upd]
      show updN _ i (Sha.wpart pB i q * 256 + pB (4 * i + q)) = _
      rw [show pB (4 * i + q) = Sha.byteAt pd (64 * k + 4 * i + q) by
       rw [← hpB]
       show Sha.byteAt pd (64 * k + (4 * i + q)) = _
       rw [show 64 * k + (4 * i + q) = 64 * k + 4 * i + q by omega]]
     generalize updN (fillN (fun _ => 0) W i) i (Sha.wpart pB i q) = G at *
     have hGl : G i < 16777216 := by rw [hG];exact hwl
     have hbl := Sha.byteAt_lt pd (64 * k + 4 * i + q)
     have hbl2 : Sha.byteAt pd (64 * k + 4 * i + q) < 18446744073709551616 := by omega
     repeat' first | (apply St.bagX 17 [];exact mixed;(decide +kernel);kernel_rfl) | apply OpsX.nil | (apply OpsX.v;(intro X hX;change Wl [_] _ _ _ _ _ _ _;apply Wl.catX;exact kd)) | (apply Gt.endX;exact rfl) | (apply EndX.on;exact rfl) | (apply EndX.off;exact rfl) | (apply EndX.nil';apply Wl.catE;exact kd) | (apply Wl.mulNI (m := 4);exact rfl;exact rfl;exact rfl;omega) | (apply Wl.addNI (m := 64 * k) (n := 4 * i);exact rfl;exact rfl;exact rfl;omega) | (apply Wl.addNI (m := 64 * k + 4 * i) (n := q);exact rfl;exact rfl;exact rfl;omega) | (apply Wl.indexS0;exact rfl;exact rfl;exact rfl;exact qc) | (apply Wl.indexA;exact rfl;exact rfl;exact rfl;exact qc) | (apply Wl.loadME;exact rfl;exact rfl;exact hPk;exact zp;omega) | (apply Wl.mulNU (n := 256);exact rfl;exact rfl;exact rfl;omega) | (apply Wl.loadN;exact rfl;exact rfl;exact kd;omega) | (apply Wl.storeN;exact rfl;exact rfl;exact kd;omega) | (apply Wl.addNU;exact rfl;exact rfl;exact rfl;(first | assumption | omega)) | (apply Wl.convNU;exact rfl;exact rfl;exact zn) | refine Wl.move rfl rfl ?_ | refine Wl.assign rfl rfl ?_ | refine Wl.lss rfl rfl rfl ?_ | (refine Wl.addI rfl rfl rfl ?_ ?_;constructor <;> omega) | apply Wl.nil | apply St.seq | apply St.block | apply St.region | (apply St.condT;exact rfl;exact k5) | apply St.skip | apply Gt.next | apply Gt.inNormal
     rw [hG]
     apply Gt.round (q + 1)
     rotate_left
     ·omega
     ·exact kd
     ·exact fun _ h => by rw [hnx];exact h
     ·omega
    have hq4' : q = 4 := by omega
    subst hq4'
    rw [Sha.wpart4,← hW1 i h16,hset]
    repeat' first | refine Wl.move rfl rfl ?_ | refine Wl.assign rfl rfl ?_ | refine Wl.lss rfl rfl rfl ?_ | (refine Wl.addI rfl rfl rfl ?_ ?_;constructor <;> omega) | apply Wl.nil | apply St.seq | apply St.region | (apply St.condF;exact rfl;exact k5) | apply St.exit | apply Gt.next | apply Gt.thenExit | apply Gt.inExit
    apply Gt.round (i + 1)
    rotate_left
    ·omega
    ·exact kd
    ·exact fun _ h => h
    ·omega
   ·have hd16 : decide ((i : Int) < 16) = false := decide_eq_false kc
    have g16 := fillN_lt (f := fun _ => 0) (g := W) (show i - 16 < i by omega)
    have g15 := fillN_lt (f := fun _ => 0) (g := W) (show i - 15 < i by omega)
    have g7 := fillN_lt (f := fun _ => 0) (g := W) (show i - 7 < i by omega)
    have g2 := fillN_lt (f := fun _ => 0) (g := W) (show i - 2 < i by omega)
    have b15 := hW3 (i - 15) kc
    have b2 := hW3 (i - 2) kc
    have hWi := hW2 i kc hli
    unfold Sha.sch1 Sha.sg0 Sha.sg1 at hWi
    rw [← g16,← g15,← g7,← g2,← Sha.add4] at hWi
    rw [← g15] at b15
    rw [← g2] at b2
    generalize fillN (fun _ => 0) W i = G at *
    repeat' first | (apply St.bagX 10 [8,9];exact mixed;(decide +kernel);kernel_rfl) | (apply St.bagX 30 [];exact mixed;(decide +kernel);kernel_rfl) | apply OpsX.nil | (apply OpsX.v;(intro X hX;change Wl [_] _ _ _ _ _ _ _;apply Wl.catX;exact kd)) | (apply Gt.endX;exact rfl) | (apply EndX.on;exact rfl) | (apply EndX.off;exact rfl) | (apply EndX.nil';apply Wl.catE;exact kd) | (apply Wl.subC 15;exact rfl;exact rfl;exact rfl;exact rfl;omega;omega) | (apply Wl.subC 2;exact rfl;exact rfl;exact rfl;exact rfl;omega;omega) | (apply Wl.subC 16;exact rfl;exact rfl;exact rfl;exact rfl;omega;omega) | (apply Wl.subC 7;exact rfl;exact rfl;exact rfl;exact rfl;omega;omega) | (apply Wl.indexA;exact rfl;exact rfl;exact rfl;exact qc) | (apply Wl.rightQ 7;exact rfl;exact kd;exact rfl;(decide);exact kg) | (apply Wl.rightQ 17;exact rfl;exact kd;exact rfl;(decide);exact kg) | (apply Wl.rightQ 18;exact rfl;exact kd;exact rfl;(decide);exact kg) | (apply Wl.rightQ 19;exact rfl;exact kd;exact rfl;(decide);exact kg) | (apply Wl.xorM;exact rfl;exact rfl;exact rfl;exact kg;exact kg) | (apply Wl.shrP 3;exact rfl;exact rfl;exact rfl;exact rfl;(decide)) | (apply Wl.shrP 10;exact rfl;exact rfl;exact rfl;exact rfl;(decide)) | refine Wl.addW rfl rfl rfl ?_ | (apply Wl.remN (n := 4294967296);exact rfl;exact rfl;exact rfl;(decide)) | (apply Wl.loadN;exact rfl;exact rfl;exact kd;omega) | (apply Wl.storeN;exact rfl;exact rfl;exact kd;omega) | refine Wl.move rfl rfl ?_ | refine Wl.assign rfl rfl ?_ | refine Wl.lss rfl rfl rfl ?_ | (refine Wl.addI rfl rfl rfl ?_ ?_;constructor <;> omega) | apply Wl.nil | apply St.seq | apply St.block | apply St.region | (apply St.condT;exact rfl;exact k5) | (apply St.condF;exact rfl;exact k5) | apply St.skip | apply Gt.next | apply Gt.inNormal
    rw [← hWi,hset]
    apply Gt.round (i + 1)
    rotate_left
    ·omega
    ·exact kd
    ·exact fun _ h => h
    ·omega
  have hi64 : i = 64 := by omega
  subst hi64
  rw [show cellsN .u64 64 (fillN (fun _ => 0) W 64) = cellsN .u64 64 W from cellsN_congr fun j hj => fillN_lt hj]
  repeat' first | refine Wl.move rfl rfl ?_ | refine Wl.lss rfl rfl rfl ?_ | apply Wl.nil | apply St.seq | apply St.region | (apply St.condF;exact rfl;exact k5) | apply St.exit | apply Gt.next | apply Gt.thenExit | apply Gt.inExit
  apply Wl.append (news := cellsN .u64 8 h) (m := 8) (base := wk.heap.size) (n := 0) (xs := []) (z := .int .u64 0)
  ·exact rfl
  ·exact rfl
  ·exact rfl
  ·exact World.ownsRow_nil _ _ _ _
  ·rw [cellsN_len]
  ·intro w' hw' jj u hj
   have := hw'.own.at (.tail _ (.head _))
   simp only at this
   have hj8 : jj < 8 := by have := (List.getElem?_eq_some_iff.1 hj).1;rw [cellsN_len] at this;exact this
   rw [cellsN_get hj8] at hj
   cases hj
   have e := rowArr this jj hj8
   rw [addLit]
   exact e
  ·intro k hk;simp [Value.ownBlock] at hk
  ·exact cellsN_one _ _ _
  ·exact rfl
  ·decide
  ·decide
  ·decide
  ·exact Nat.le_refl _
  intro vs w5 ho5 u5 _ hoff5
  rw [List.nil_append] at ho5
  obtain ⟨gs,caps,rests,rfl,hgs,hSs⟩ := rowOpen ho5 ku rfl
  have hgsl : gs < w5.heap.size := (Array.getElem?_eq_some_iff.1 hSs).1
  have hoffs := (hoff5 gs rfl).1
  have hSk : ∀ {k},SB wq gh c2 k ∨ ¬ Off [⟨c,cellsN .u64 64 W,205⟩,⟨gh,cellsN .u64 8 h ++ resth,143⟩,⟨c2,cellsN .u8 32 fun _ => 0,107⟩] k → SB wq gh c2 k := fun hs => hs.elim id fun hs => by
   apply Classical.byContradiction
   intro hn
   exact hs ⟨fun e => hn (.inl (by have e' : c = _ := e;omega)),fun e => hn (.inr (.inl e.symm)),fun e => hn (.inr (.inr e.symm)),trivial⟩
  have hU5 : Upd (SB wq gh c2) wq w5 := hUk.comp u5 fun k hk hs => hSk (hs.imp id fun hs => hs.elim (fun e => by simp [Value.ownBlock] at e) id)
  have hK5 : ArrAt w5 ga 0 .u64 64 Sha.K := hKq.upd hU5 (fun h => by rcases h with h | h | h <;> omega)
  have hszk5 := u5.size
  clear ho5 u5 hoff5
  generalize c = cw at *
  repeat' first | refine Wl.assign rfl rfl ?_ | apply Wl.nil | apply St.seq | apply St.block | apply St.region | apply Gt.next
  refine St.loop (σ := Nat × Nat × Nat × List Value) (fun τ => τ.1 ≤ 64 ∧ wk.heap.size ≤ τ.2.1 ∧ (w5.heap.size ≤ τ.2.1 ∨ w5.heap[τ.2.1]? = some (.cells (cellsN .u64 8 (Sha.rnds Sha.K W h τ.1) ++ τ.2.2.2).toArray 143 (0,0))))
   (fun τ => [(2,mp c2),(3,.slice (some ⟨ga,0,none⟩) 64 capa),(4,.slice (some ⟨gh,0,none⟩) 8 caph),(5,.slice (some ⟨gp,0,none⟩) pd.length pcap),(7,.int .i64 ((64 * k : Nat) : Int)),(8,mp cw),(13,.slice (some ⟨τ.2.1,0,none⟩) 8 τ.2.2.1),(14,.int .i64 τ.1)])
   (fun τ => Hp w5 [⟨τ.2.1,cellsN .u64 8 (Sha.rnds Sha.K W h τ.1) ++ τ.2.2.2,143⟩,⟨cw,cellsN .u64 64 W,205⟩,⟨gh,cellsN .u64 8 h ++ resth,143⟩,⟨c2,cellsN .u8 32 fun _ => 0,107⟩]) (fun τ => 64 - τ.1) (0,gs,caps,rests) ⟨by simp,hgs,.inr hSs⟩ kq (fun _ h => Hp.open h hSs hoffs) ?_
  clear hi hset hSs hgs hgsl hoffs
  have hsz5 := hU5.size
  have hga5 : ga < w5.heap.size := by have := hU.size;omega
  have hkb : 64 * k + 64 < 1000000000 := by omega
  have n2 : cw ≠ ga := by omega
  have n3 : gh ≠ ga := by omega
  have n4 : c2 ≠ ga := by omega
  rintro ⟨i,gs,caps,rests⟩ ⟨hi,hgk,hgs⟩
  simp only at hi hgk hgs ⊢
  have n1 : gs ≠ ga := by omega
  clear hv hn hvl hga hgal hsz1 hu1 hszr hgh hszr2 hszr4 hKB hu2 hvB hvo lc hlen hk hj hve hvl2 hl8 hU hq hlen2 hlen3 hP hNb hpl8 hKq hPk hKk hpB hpl hW1 hW2 hSk
  have hfl := Sha.rnds_lt (K := Sha.K) (W := W) hHl i
  have hrn : Sha.rnds Sha.K W h (i + 1) = Sha.rnd (Sha.rnds Sha.K W h i) (Sha.K i) (W i) := rfl
  generalize hf : Sha.rnds Sha.K W h i = f at *
  have f0 := hfl 0 ku
  have f1 := hfl 1 ku
  have f2 := hfl 2 ku
  have f4 := hfl 4 ku
  by_cases hli : i < 64
  ·have hdi : decide ((i : Int) < 64) = true := decide_eq_true kc
   have ht : ((((f 7 + Sha.X (Sha.X (Sha.rr 6 (f 4)) (Sha.rr 11 (f 4))) (Sha.rr 25 (f 4))) % 18446744073709551616 + Sha.X (Sha.A (f 4) (f 5)) (Sha.A (4294967295 - f 4) (f 6))) % 18446744073709551616 + Sha.K i) % 18446744073709551616 + W i) % 18446744073709551616 % 4294967296 = Sha.tt f (Sha.K i) (W i) := by
    rw [Sha.add5,Sha.ch_eq f4];rfl
   have hu : (Sha.X (Sha.X (Sha.rr 2 (f 0)) (Sha.rr 13 (f 0))) (Sha.rr 22 (f 0)) + Sha.X (Sha.X (Sha.A (f 0) (f 1)) (Sha.A (f 0) (f 2))) (Sha.A (f 1) (f 2))) % 18446744073709551616 % 4294967296 = Sha.uu f := by
    rw [Sha.add2,Sha.mj_eq];rfl
   repeat' first | refine Wl.move rfl rfl ?_ | refine Wl.assign rfl rfl ?_ | (apply St.bagX 36 [35];exact mixed;(decide +kernel);kernel_rfl) | apply OpsX.nil | (apply OpsX.v;(intro X hX;change Wl [_] _ _ _ _ _ _ _;apply Wl.catX;exact kd)) | (apply Gt.endX;exact rfl) | (apply EndX.on;exact rfl) | (apply EndX.off;exact rfl) | (apply EndX.nil';apply Wl.catE;exact kd) | (apply Wl.subUC 4294967295;exact rfl;exact rfl;exact rfl;exact rfl;omega;(decide)) | (apply Wl.indexSC 0;exact rfl;exact rfl;exact rfl;exact rfl;(decide)) | (apply Wl.indexSC 4;exact rfl;exact rfl;exact rfl;exact rfl;(decide)) | (apply Wl.indexSC 5;exact rfl;exact rfl;exact rfl;exact rfl;(decide)) | (apply Wl.indexSC 6;exact rfl;exact rfl;exact rfl;exact rfl;(decide)) | (apply Wl.indexSC 7;exact rfl;exact rfl;exact rfl;exact rfl;(decide)) | (apply Wl.loadH;exact rfl;exact rfl;exact kd;exact rowGet j0) | (apply Wl.indexS0;exact rfl;exact rfl;exact rfl;exact qc) | (apply Wl.indexA;exact rfl;exact rfl;exact rfl;exact qc) | (apply Wl.loadME;exact rfl;exact rfl;exact hK5;exact zp;omega) | (apply Wl.rightQ 6;exact rfl;exact kd;exact rfl;(decide);exact kg) | (apply Wl.rightQ 11;exact rfl;exact kd;exact rfl;(decide);exact kg) | (apply Wl.rightQ 25;exact rfl;exact kd;exact rfl;(decide);exact kg) | (apply Wl.xorM;exact rfl;exact rfl;exact rfl;exact kg;exact kg) | (apply Wl.andM;exact rfl;exact rfl;exact rfl;exact kg) | refine Wl.addW rfl rfl rfl ?_ | (apply Wl.remN (n := 4294967296);exact rfl;exact rfl;exact rfl;(decide)) | (apply Wl.loadN;exact rfl;exact rfl;exact kd;omega) | refine Wl.lss rfl rfl rfl ?_ | apply Wl.nil | apply St.seq | apply St.block | apply St.region | (apply St.condT;exact rfl;exact k5) | apply St.skip | apply Gt.next
   rw [ht]
   apply St.bagX 30 [29]
   exact mixed
   decide +kernel
   kernel_rfl
   repeat' first | refine Wl.move rfl rfl ?_ | refine Wl.assign rfl rfl ?_ | apply OpsX.nil | (apply OpsX.v;(intro X hX;change Wl [_] _ _ _ _ _ _ _;apply Wl.catX;exact kd)) | (apply Gt.endX;exact rfl) | (apply EndX.on;exact rfl) | (apply EndX.off;exact rfl) | (apply EndX.nil';apply Wl.catE;exact kd) | (apply Wl.indexSC 1;exact rfl;exact rfl;exact rfl;exact rfl;(decide)) | (apply Wl.indexSC 2;exact rfl;exact rfl;exact rfl;exact rfl;(decide)) | (apply Wl.loadH;exact rfl;exact rfl;exact kd;exact rowGet j0) | (apply Wl.rightQ 2;exact rfl;exact kd;exact rfl;(decide);exact kg) | (apply Wl.rightQ 13;exact rfl;exact kd;exact rfl;(decide);exact kg) | (apply Wl.rightQ 22;exact rfl;exact kd;exact rfl;(decide);exact kg) | (apply Wl.xorM;exact rfl;exact rfl;exact rfl;exact kg;exact kg) | (apply Wl.andM;exact rfl;exact rfl;exact rfl;exact kg) | refine Wl.addW rfl rfl rfl ?_ | (apply Wl.remN (n := 4294967296);exact rfl;exact rfl;exact rfl;(decide)) | apply Wl.nil | apply Gt.next
   rw [hu]
   apply St.bagX 28 []
   exact mixed
   decide +kernel
   kernel_rfl
   repeat' first | refine Wl.move rfl rfl ?_ | refine Wl.assign rfl rfl ?_ | apply OpsX.nil | (apply OpsX.v;(intro X hX;change Wl [_] _ _ _ _ _ _ _;apply Wl.catX;exact kd)) | (apply Gt.endX;exact rfl) | (apply EndX.on;exact rfl) | (apply EndX.off;exact rfl) | (apply EndX.nil';apply Wl.catE;exact kd) | (apply Wl.indexSC 0;exact rfl;exact rfl;exact rfl;exact rfl;(decide)) | (apply Wl.indexSC 1;exact rfl;exact rfl;exact rfl;exact rfl;(decide)) | (apply Wl.indexSC 2;exact rfl;exact rfl;exact rfl;exact rfl;(decide)) | (apply Wl.indexSC 3;exact rfl;exact rfl;exact rfl;exact rfl;(decide)) | (apply Wl.indexSC 4;exact rfl;exact rfl;exact rfl;exact rfl;(decide)) | (apply Wl.indexSC 5;exact rfl;exact rfl;exact rfl;exact rfl;(decide)) | (apply Wl.indexSC 6;exact rfl;exact rfl;exact rfl;exact rfl;(decide)) | (apply Wl.loadH;exact rfl;exact rfl;exact kd;exact rowGet j0) | refine Wl.addW rfl rfl rfl ?_ | (apply Wl.remN (n := 4294967296);exact rfl;exact rfl;exact rfl;(decide)) | (refine Wl.addI rfl rfl rfl ?_ ?_;constructor <;> omega) | (apply Wl.lit;exact rfl;exact kj;exact rfl;exact rfl;exact ke;intro c hc ho) | apply Wl.nil | apply St.region | apply Gt.next | apply Gt.inNormal
   apply Gt.round (i + 1,c,8,[])
   rotate_left
   ·simp only;omega
   ·exact kd
   ·intro w' hw
    rw [Sha.add2,Sha.add2,v8u] at hw
    have := hpDrop2 hw hgs
    simp only
    rw [List.append_nil,hrn]
    exact this
   ·exact ⟨by simp only;omega,by simp only;omega,.inl hc⟩
  have hi64 : i = 64 := by omega
  subst hi64
  repeat' first | refine Wl.move rfl rfl ?_ | refine Wl.assign rfl rfl ?_ | refine Wl.lss rfl rfl rfl ?_ | apply Wl.nil | apply St.seq | apply St.block | apply St.region | (apply St.condF;exact rfl;exact k5) | apply St.exit | apply Gt.next | apply Gt.thenExit | apply Gt.inExit
  refine St.loop (σ := Nat) (fun q => q ≤ 8) (fun q => [(2,mp c2),(3,.slice (some ⟨ga,0,none⟩) 64 capa),(4,.slice (some ⟨gh,0,none⟩) 8 caph),(5,.slice (some ⟨gp,0,none⟩) pd.length pcap),(7,.int .i64 ((64 * k : Nat) : Int)),(13,.slice (some ⟨gs,0,none⟩) 8 caps),(19,.int .i64 q)])
   (fun q => Hp w5 [⟨gs,cellsN .u64 8 f ++ rests,143⟩,⟨cw,cellsN .u64 64 W,205⟩,⟨gh,cellsN .u64 8 (fillN h (fun q => Sha.P (h q) (f q)) q) ++ resth,143⟩,⟨c2,cellsN .u8 32 fun _ => 0,107⟩]) (fun q => 8 - q) 0 kc kq (fun _ hw => by rw [fillN_zero];exact hw) ?_
  intro q hq8
  by_cases hlq : q < 8
  ·have hdq : decide ((q : Int) < 8) = true := decide_eq_true kc
   have hat : fillN h (fun q => Sha.P (h q) (f q)) q q = h q := fillN_at (Nat.le_refl q)
   have hnx : updN (fillN h (fun q => Sha.P (h q) (f q)) q) q (Sha.P (h q) (f q)) = _ := fillN_step h (fun q => Sha.P (h q) (f q)) q
   generalize fillN h (fun q => Sha.P (h q) (f q)) q = G at *
   repeat' first | refine Wl.move rfl rfl ?_ | refine Wl.assign rfl rfl ?_ | (apply St.bagX 13 [];exact mixed;(decide +kernel);kernel_rfl) | apply OpsX.nil | (apply OpsX.v;(intro X hX;change Wl [_] _ _ _ _ _ _ _;apply Wl.catX;exact kd)) | (apply Gt.endX;exact rfl) | (apply EndX.on;exact rfl) | (apply EndX.off;exact rfl) | (apply EndX.nil';apply Wl.catE;exact kd) | (apply Wl.loadH;exact rfl;exact rfl;exact kd;exact rowGet j0) | (apply Wl.indexS0;exact rfl;exact rfl;exact rfl;exact qc) | refine Wl.addW rfl rfl rfl ?_ | (apply Wl.remN (n := 4294967296);exact rfl;exact rfl;exact rfl;(decide)) | (apply Wl.store;exact rfl;exact rfl;exact rfl;exact kd;exact LSet.appL (cellsN_set kc) _) | refine Wl.lss rfl rfl rfl ?_ | (refine Wl.addI rfl rfl rfl ?_ ?_;constructor <;> omega) | apply Wl.nil | apply St.seq | apply St.block | apply St.region | (apply St.condT;exact rfl;exact k5) | apply St.skip | apply Gt.next | apply Gt.inNormal
   rw [hat,Sha.add2,hnx]
   apply Gt.round (q + 1)
   rotate_left
   ·omega
   ·exact kd
   ·exact fun _ h => h
   ·omega
  have hq8' : q = 8 := by omega
  subst hq8'
  rw [show cellsN .u64 8 (fillN h (fun q => Sha.P (h q) (f q)) 8) = cellsN .u64 8 (Sha.hN Sha.H0 pd (k + 1)) by rw [fillN_end,hstep,hcomp,hf]]
  repeat' first | (apply Wl.addNI (m := 64 * k) (n := 64);exact rfl;exact rfl;exact rfl;omega) | refine Wl.move rfl rfl ?_ | refine Wl.assign rfl rfl ?_ | refine Wl.lss rfl rfl rfl ?_ | apply Wl.nil | apply St.seq | apply St.region | (apply St.condF;exact rfl;exact k5) | apply St.exit | apply Gt.next | apply Gt.thenExit | apply Gt.inNormal | apply Gt.inExit
  apply Gt.round (k + 1,wq)
  rotate_left
  ·simp only;omega
  ·exact kd
  ·exact fun w' hw => hpBack hU5 hw ky ky rfl rfl
  ·exact ⟨by simp only;omega,Upd.refl _ _⟩
 have hkn : k = NB := by omega
 subst hkn
 generalize Sha.hN Sha.H0 pd k = HH at *
 repeat' first | (apply Wl.allocN;exact rfl;exact z32b;intro c hc ho) | refine Wl.move rfl rfl ?_ | refine Wl.assign rfl rfl ?_ | refine Wl.lss rfl rfl rfl ?_ | refine Wl.len rfl rfl ?_ | apply Wl.nil | apply St.seq | apply St.block | apply St.region | apply St.exit | apply Gt.next | apply Gt.thenExit | apply Gt.inExit | (apply St.condP;exact rfl;all_goals (intros;try (exfalso;omega)))
 refine St.loop (σ := Nat) (fun i => i ≤ 32) (fun i => [(2,mp c2),(4,.slice (some ⟨gh,0,none⟩) 8 caph),(20,mp c),(21,.int .i64 (i : Int))])
  (fun i => Hp wk [⟨c,cellsN .u8 32 (fillN (fun _ => 0) (Sha.outB HH) i),107⟩,⟨gh,cellsN .u64 8 HH ++ resth,143⟩,⟨c2,cellsN .u8 32 fun _ => 0,107⟩]) (fun i => 32 - i) 0 kc kq (fun _ h => by rw [fillN_zero];exact h) ?_
 intro i hi
 by_cases hli : i < 32
 ·have hdi : decide ((i : Int) < 32) = true := decide_eq_true kc
  have hi4 : i / 4 < 8 := by omega
  have hi3 : i % 4 < 4 := Nat.mod_lt _ ku
  repeat' first | (apply Wl.quoN (n := 4);exact rfl;exact rfl;exact rfl;(decide);exact IntWalk.i64_in _ kc) | (apply Wl.remN (n := 4);exact rfl;exact rfl;exact rfl;(decide)) | (apply Wl.loadH;exact rfl;exact rfl;exact kd;exact rowGet j0) | (apply Wl.indexS0;exact rfl;exact rfl;exact rfl;exact qc) | (apply Wl.indexA;exact rfl;exact rfl;exact rfl;exact qc) | (apply Wl.mulNI (m := 8);exact rfl;exact rfl;exact rfl;omega) | (apply Wl.subR 24;exact rfl;exact rfl;exact rfl;exact rfl;omega;omega) | (apply Wl.shrV;exact rfl;exact rfl;exact rfl;(show _ ≤ 64;omega)) | refine Wl.convN8 rfl rfl ?_ | (apply Wl.storeN;exact rfl;exact rfl;exact kd;omega) | refine Wl.move rfl rfl ?_ | refine Wl.assign rfl rfl ?_ | refine Wl.lss rfl rfl rfl ?_ | (refine Wl.addI rfl rfl rfl ?_ ?_;constructor <;> omega) | apply Wl.nil | apply St.seq | apply St.block | apply St.region | (apply St.condT;exact rfl;exact k5) | apply St.skip | apply Gt.next | apply Gt.inNormal
  apply Gt.round (i + 1)
  rotate_left
  ·omega
  ·exact kd
  ·exact fun _ h => by rw [← fillN_step];exact h
  ·omega
 have hi32 : i = 32 := by omega
 subst hi32
 rw [fillN_end]
 have hu' : Upd (fun k => w.heap.size ≤ k) w wk := (hu2.comp hU fun k hk hs => hs.elim id fun hs => by rcases hs with h | h | h <;> omega).comp hUk fun k hk hs => hs.elim id fun hs => by rcases hs with h | h | h <;> omega
 repeat' first | (apply Gt.outN;exact rfl;infer_instance;exact rfl;exact kd;exact rfl;intro w' hp) | (apply Wl.loadW;exact rfl;exact rfl;exact kd;exact rfl) | (apply Wl.storeW;exact rfl;exact rfl;exact kd;exact rfl;exact qt) | refine Wl.move rfl rfl ?_ | refine Wl.lss rfl rfl rfl ?_ | apply Wl.nil | apply St.seq | apply St.region | (apply St.condF;exact rfl;exact k5) | apply St.ret | apply St.exit | apply Gt.next | apply Gt.thenExit | apply Gt.inExit
 refine ⟨by rw [hof],hpFin hp hu' zi⟩
theorem digE_len (l : List UInt8) : (digE l).length = 32 := by simp [digE]
theorem cod_ok {l : List UInt8} : codeD (l ++ digE l) = 3 := by
 have h := digE_len l
 have e : (l ++ digE l).length - 32 = l.length := by rw [List.length_append,h];omega
 unfold codeD
 rw [if_neg (by rw [List.length_append,h];omega),e,List.take_left,List.drop_left,if_neg (fun h => h rfl)]
theorem cod_short {l : List UInt8} {n : Nat} (h : l.length < 32) : codeD l = 3 ∧ decC n l = none := ⟨if_pos h,if_pos h⟩
theorem cod_bad {l : List UInt8} {n : Nat} (h : ¬ l.length < 32) (hd : digE (l.take (l.length - 32)) ≠ l.drop (l.length - 32)) : codeD l = 7 ∧ decC n l = none := ⟨by unfold codeD;rw [if_neg h,if_pos hd],by unfold decC;rw [if_neg h,if_pos hd]⟩
theorem xor8 (x y : Int) : ∃ z : UInt8,bits .xor .u8 x y = (z.toNat : Int) := by
 have e : bits .xor .u8 x y = IntKind.u8.wrap (((BitVec.ofInt 8 x) ^^^ (BitVec.ofInt 8 y)).toNat : Int) := rfl
 refine ⟨UInt8.ofNat ((BitVec.ofInt 8 x) ^^^ (BitVec.ofInt 8 y)).toNat,?_⟩
 rw [e,IntKind.wrap_u8,UInt8.toNat_ofNat']
 omega
theorem bsBlkJ {w : World} {g cap : Nat} {l : List UInt8} {J : List Value} (h : w.heap[g]? = some (.cells (byteCells l ++ J).toArray 5 (0,0))) (h1 : l.length ≤ cap) (h2 : cap ≤ maxLen) : Bs w (.slice (some ⟨g,0,none⟩) l.length cap) l := by
 refine ⟨by rw [byteCells_length,Nat.mul_one],_,cap,rfl,h1,h2,fun e => (by cases e),fun _ => ⟨g,0,rfl,fun i hi => ?_⟩⟩
 refine cell_of h ?_
 rw [Nat.zero_add,List.getElem?_append_left hi,List.getElem?_eq_getElem hi]
def QR (w : World) (I : Mi) (M : Mv2) (q : Value) (z : Int) : Prop := (q = .pointer none ∧ z = 3) ∨
 ∃ S I' M' b',q = .pointer (some ⟨I'.m,0,none⟩) ∧ z = 0 ∧ SetOk S.r.L S.t ∧ SnFit M.L.length S.t S.r.L S.r.ins S.r.bx S.ll S.f ∧ MonS w b' I' M' ∧ (∀ k,MonF I M k → k < b') ∧ b' ≤ w.heap.size ∧ DecS M M' S
theorem QR.new {w w' w0 : World} {I : Mi} {M : Mv2} {q : Value} {z : Int} (h : QR w I M q z) (u : Upd (fun k => w0.heap.size ≤ k) w w') (hw : w.heap.size ≤ w0.heap.size) : QR w' I M q z := by
 rcases h with h | ⟨S,I',M',b',h1,h2,h3,h4,h5,h6,h7,h8⟩
 ·exact .inl h
 ·exact .inr ⟨S,I',M',b',h1,h2,h3,h4,h5.new u hw,h6,Nat.le_trans h7 u.size,h8⟩
theorem bxs_getD {n : Nat} {bx : List (List (Int × List UInt8))} (h : bx.length = n) : bxs (fun j => bx.getD j []) n = bx := by
 refine List.ext_getElem? fun q => ?_
 by_cases hq : q < n
 ·simp [bxs,hq,h]
 ·simp [bxs,hq,h,Nat.not_lt.1 hq]
theorem reads27 (a : Option Addr) (ca : Nat) (l : List LoadD) (vb vi : Value) (lb : List UInt8) (il : List Int) (w : World) (hnl : l.length ≤ 140737488355328) (hL : LoadsO w a l) (hB : Bs w vb lb) (hBb : ∀ k,vb.ownBlock = some k → lb ≠ [] → k < w.heap.size) (hI : Is .i64 w vi il) (hIr : ∀ x ∈ il,I64 x) (hT : tabOk w) (hK : ArrAt w 1 0 .u32 64 Sha.K) (hKw : 1 < w.heap.size) :
  Calls Tryz.prog 12 #[.slice a l.length ca,vb,vi] w fun e w' => e = .returned (.bool true) ∧ Upd (fun k => w.heap.size ≤ k) w w' := by
 have hKu : ∀ {w' : World},Upd (fun k => w.heap.size ≤ k) w w' → ArrAt w' 1 0 .u32 64 Sha.K := fun u => hK.upd u (Nat.not_le.2 hKw)
 obtain ⟨ba,bc,rfl,hbc,hbm⟩ := hB.shape
 obtain ⟨ia,ic,rfl,hic,him⟩ := hI.shape
 refine enter (args := [_,_,_]) (Γ := [(0,_),(1,_),(2,_)]) Tryz.func12 Tryz.ntmps12 rfl odq (.cons rfl (.cons rfl (.cons rfl .nil))) ?_
 repeat' first | refine Wl.assign rfl rfl ?_ | apply Wl.nil | apply St.seq | apply St.region | apply Gt.next
 apply Wl.callC
 ·exact rfl
 ·exact kd
 intro wq hq
 refine (fit27 wq (hT.upd hq.upd fun y => y trivial) (hK.upd hq.upd fun y => y trivial) (by have := hq.upd.size;omega)).mono ?_
 rintro e w1 ⟨rfl,u1⟩
 have U1 : Upd (fun k => w.heap.size ≤ k) w w1 := (hq.upd.mono fun _ _ y => (y trivial).elim).comp u1 fun k _ hs => hs.elim id fun h => Nat.le_trans hq.upd.size h
 refine ⟨_,_,rfl,Hp.start w1,?_⟩
 clear hq u1
 repeat' first | refine Wl.move rfl rfl ?_ | refine Wl.not rfl rfl ?_ | apply Wl.nil | apply St.seq | apply St.region | (apply St.condF;exact rfl;exact k5) | apply St.skip | apply Gt.next
 apply Wl.callC
 ·exact rfl
 ·exact kd
 intro wq hq
 have Uq : Upd (fun k => w.heap.size ≤ k) w wq := U1.comp hq.upd fun k _ hs => hs.elim id fun y => (y trivial).elim
 refine (small26 a ca l wq hnl (hL.upd Uq fun k hk => Nat.not_le.2 hk)).mono ?_
 rintro e w2 ⟨⟨z,rfl,hz⟩,u2⟩
 have U2 : Upd (fun k => w.heap.size ≤ k) w w2 := Uq.comp u2 fun k _ hs => hs.elim id fun h => Nat.le_trans Uq.size h
 refine ⟨_,_,rfl,Hp.start w2,?_⟩
 clear hq u2 Uq U1 w1 wq
 cases z
 ·repeat' first | refine Wl.move rfl rfl ?_ | refine Wl.assign rfl rfl ?_ | (apply Wl.off;exact rfl;exact rfl;exact rfl;exact kh) | (apply Wl.pickT;exact rfl;exact rfl;exact k5;exact rfl) | refine Wl.not rfl rfl ?_ | apply Wl.nil | apply St.seq | apply St.region | (apply St.condT;exact rfl;exact k5) | apply St.ret | apply Gt.next | apply Gt.thenRet | (apply Gt.out1;exact rfl;exact rfl;intro w' hp)
  exact ⟨rfl,Hp.on0 hp U2⟩
 obtain ⟨⟨hl1,hl3⟩,hsl⟩ := hz rfl
 clear hz
 by_cases hb7 : (lb.length : Int) > 70000
 ·have d7 : decide ((lb.length : Int) > 70000) = true := decide_eq_true hb7
  repeat' first | refine Wl.move rfl rfl ?_ | refine Wl.assign rfl rfl ?_ | (apply Wl.on;exact rfl;exact rfl;exact k5) | (apply Wl.off;exact rfl;exact rfl;exact rfl;exact kh) | (apply Wl.pickT;exact rfl;exact rfl;exact k5;exact rfl) | (apply Wl.pickF;exact rfl;exact rfl;exact k5;exact rfl) | refine Wl.not rfl rfl ?_ | refine Wl.gtr rfl rfl rfl ?_ | refine Wl.len rfl rfl ?_ | apply Wl.nil | apply St.seq | apply St.region | (apply St.condT;exact rfl;exact k5) | apply St.ret | apply Gt.next | apply Gt.thenRet | (apply Gt.out1;exact rfl;exact rfl;intro w' hp)
  exact ⟨rfl,Hp.on0 hp U2⟩
 have d7 : decide ((lb.length : Int) > 70000) = false := decide_eq_false hb7
 by_cases hi2 : (il.length : Int) > 20
 ·have d20 : decide ((il.length : Int) > 20) = true := decide_eq_true hi2
  repeat' first | refine Wl.move rfl rfl ?_ | refine Wl.assign rfl rfl ?_ | (apply Wl.on;exact rfl;exact rfl;exact k5) | (apply Wl.pickF;exact rfl;exact rfl;exact k5;exact rfl) | refine Wl.not rfl rfl ?_ | refine Wl.gtr rfl rfl rfl ?_ | refine Wl.len rfl rfl ?_ | apply Wl.nil | apply St.seq | apply St.region | (apply St.condT;exact rfl;exact k5) | apply St.ret | apply Gt.next | apply Gt.thenRet | (apply Gt.out1;exact rfl;exact rfl;intro w' hp)
  exact ⟨rfl,Hp.on0 hp U2⟩
 have d20 : decide ((il.length : Int) > 20) = false := decide_eq_false hi2
 repeat' first | refine Wl.move rfl rfl ?_ | (apply Wl.on;exact rfl;exact rfl;exact k5) | (apply Wl.pickF;exact rfl;exact rfl;exact k5;exact rfl) | refine Wl.not rfl rfl ?_ | refine Wl.gtr rfl rfl rfl ?_ | refine Wl.len rfl rfl ?_ | apply Wl.nil | apply St.seq | apply St.region | (apply St.condF;exact rfl;exact k5) | apply St.skip | apply Gt.next
 apply Wl.callC
 ·exact rfl
 ·exact kd
 intro wq hq
 have Uq : Upd (fun k => w.heap.size ≤ k) w wq := U2.comp hq.upd fun k _ hs => hs.elim id fun y => (y trivial).elim
 refine (two27 a l.length ca l wq rfl ⟨hl1,hl3⟩ ((hL.upd Uq fun k hk => Nat.not_le.2 hk).small hsl) (hT.upd Uq (Nat.not_le.2 hT.lt))).mono ?_
 rintro e w4 ⟨base,I,M,a1,a2,k1,k2,rv,rfl,hX,hb1,u4,f1,f2,f3,f4,f5,f6,f7,f8⟩
 have hFX : FirstS M l.length [] := ⟨f3,f4,f5,f6,f7,f8,⟨_,_,f1⟩,⟨_,_,f2⟩⟩
 have U4 : Upd (fun k => w.heap.size ≤ k) w w4 := Uq.comp u4 fun k _ hs => hs.elim id fun h => Nat.le_trans Uq.size h
 have hbX : base ≤ w4.heap.size := hb1.2
 have hlen := hFX.len
 have hgb : w.heap.size ≤ base := by have := Uq.size;omega
 refine ⟨_,_,rfl,Hp.start w4,?_⟩
 clear hq u4 f3 f4 f5 f6 f7 f8 Uq U2 w2 wq hb1
 have hB4 : Bs w4 (.slice ba lb.length bc) lb := hB.upd U4 fun k _ hk _ h => by omega
 repeat' first | refine Wl.move rfl rfl ?_ | refine Wl.assign rfl rfl ?_ | refine Wl.extract rfl rfl rfl ?_ | apply Wl.nil | apply St.seq | apply St.region | apply Gt.next
 apply Wl.appendV (base := w4.heap.size) (n := 0) (m := lb.length) (sz := 1) (e := 5) (xs := []) (news := byteCells lb) (v := .slice none 0 0) (y := .slice ba lb.length bc)
 ·exact rfl
 ·exact rfl
 ·exact rfl
 ·exact hB4
 ·exact fun _ _ _ _ => trivial
 ·exact World.ownsRow_nil w4 _ _ _
 ·exact fun k hk => by cases hk
 ·exact byteCells_all lb
 ·exact rfl
 ·decide
 ·omega
 ·omega
 ·exact Nat.le_refl _
 intro v9 w5 ho9 u5 _ _
 rw [Nat.zero_add,List.nil_append] at ho9
 have hb9 : Bo w5 w4.heap.size v9 lb := ho9
 have u45 : Upd (fun _ => False) w4 w5 := u5.mono fun k _ hs => hs.elim (fun e => by cases e) fun y => y trivial
 have U5 : Upd (fun k => w.heap.size ≤ k) w w5 := U4.comp u45 fun k _ hs => hs.elim id False.elim
 have hX5 := hX.upd u45 fun _ _ y => y
 have z5 := u45.size
 have hbX5 : base ≤ w5.heap.size := by omega
 have hXg : ∀ b,MonF I M b → b < w5.heap.size := fun b hb => (hX5.lt b hb).2
 clear u5 u45 ho9 hX hbX U4 hB4
 repeat' first | refine Wl.assign rfl rfl ?_ | apply Wl.nil | apply Gt.next
 refine St.cut (σ := World × Value × List UInt8) (fun τ => MonS τ.1 base I M ∧ Upd (fun k => w.heap.size ≤ k) w τ.1 ∧ Bs τ.1 τ.2.1 τ.2.2 ∧ (∃ g o cap,τ.2.1 = .slice (some ⟨g,o,none⟩) τ.2.2.length cap ∧ g < τ.1.heap.size) ∧ (τ.2.2.length ≤ 2000000 ∧ τ.2.2 ≠ []) ∧ base ≤ τ.1.heap.size)
  (fun τ => [(0,.slice a l.length ca),(7,.pointer (some ⟨I.m,0,none⟩)),(9,τ.2.1)]) (fun τ => Hp τ.1 []) ?_ ?_
 ·by_cases hl0 : lb = []
  ·subst hl0
   have d0 : decide ((([] : List UInt8).length : Int) = 0) = true := by decide
   repeat' first | refine Wl.move rfl rfl ?_ | refine Wl.eql rfl rfl rfl ?_ | refine Wl.len rfl rfl ?_ | apply Wl.nil | apply St.seq | apply St.region | (apply St.condT;exact rfl;exact k5) | apply Gt.next
   apply Wl.callC
   ·exact rfl
   ·exact kd
   intro wq hq
   have Uq : Upd (fun k => w.heap.size ≤ k) w wq := U5.comp hq.upd fun k _ hs => hs.elim id fun y => (y trivial).elim
   have zq := hq.upd.size
   refine (encFirst base I M l.length [] wq (hX5.upd hq.upd fun _ _ y => y trivial) kc hFX ⟨hl1,by omega⟩ (LinFit.nil _) (hKu Uq)).mono ?_
   rintro e w6 ⟨raw,rfl,hraw,hX6,u6⟩
   have U6 : Upd (fun k => w.heap.size ≤ k) w w6 := Uq.comp u6 fun k _ hs => hs.elim id fun h => Nat.le_trans Uq.size h
   have z6 := u6.size
   have henc : (enc0 l.length [] M.f).length ≤ 1000000 := encE_len (first_fit (n := l.length) (f := M.f) ⟨hl1,by omega⟩ (LinFit.nil l.length).1 (LinFit.nil l.length).2.1 (LinFit.nil l.length).2.2 hFX.f)
   have hen2 : 34 ≤ (enc0 l.length [] M.f).length := by
    unfold enc0 encE bodyE headE
    simp only [List.length_append,digE_len,List.length_cons,List.length_nil]
    omega
   generalize enc0 l.length [] M.f = en at *
   refine ⟨_,_,rfl,Hp.start w6,?_⟩
   obtain ⟨g,cap,J,rfl,hg,hblk⟩ := hraw.blk kc
   obtain ⟨_,_,hrs,hcap1,hcap2⟩ := hraw.shape
   cases hrs
   have hg6 : g < w6.heap.size := lt_of_block hblk
   have hgw : w.heap.size ≤ g := by have := Uq.size;omega
   have hg5 : w5.heap.size ≤ g := by omega
   clear hq u6 Uq hX5 hraw
   obtain ⟨m,hm⟩ : ∃ m : Nat,m = ((en.length : Int) - 32).toNat := ⟨_,rfl⟩
   have hm2 : m = en.length - 32 := by omega
   have hmi : (en.length : Int) - 32 = (m : Int) := by omega
   repeat' first | refine Wl.move rfl rfl ?_ | refine Wl.assign rfl rfl ?_ | (refine Wl.subI rfl rfl rfl ?_ ?_;constructor <;> omega) | refine Wl.len rfl rfl ?_ | (apply Wl.slice0;exact rfl;exact rfl;exact kw;exact kw;exact zk;omega;omega) | apply Wl.nil | apply St.seq | apply St.block | apply St.region | apply Gt.next
   try rw [← hm]
   refine St.reb (H' := []) fun w7 h7 => ⟨trivial,trivial,?_⟩
   have hblk7 := h7.upd.heap hblk fun y => y trivial
   have hX7 := hX6.upd h7.upd fun _ _ y => y trivial
   have U7 : Upd (fun k => w.heap.size ≤ k) w w7 := U6.comp h7.upd fun k _ hs => hs.elim id fun y => (y trivial).elim
   have z7 := h7.upd.size
   clear h7 hblk hX6 U6
   have hI7 : Is .i64 w7 (.slice ia il.length ic) il := hI.upd U7 fun k _ hk _ h => by omega
   refine St.cls (C' := Hp w7 [⟨g,byteCells en ++ J,5⟩]) (fun _ h' => Hp.open h' hblk7) ?_
   refine St.loop (σ := Nat × List UInt8) (fun τ => τ.1 ≤ il.length ∧ τ.2.length = en.length) (fun τ => [(0,.slice a l.length ca),(7,.pointer (some ⟨I.m,0,none⟩)),(9,.slice (some ⟨g,0,none⟩) m cap),(53,.slice ia il.length ic),(54,.int .i64 (il.length : Int)),(55,.int .i64 (τ.1 : Int))])
    (fun τ => Hp w7 [⟨g,byteCells τ.2 ++ J,5⟩]) (fun τ => il.length - τ.1) (0,en) ⟨Nat.zero_le _,rfl⟩ kq (fun _ h => h) ?_
   rintro ⟨i,cs⟩ ⟨hi,hcs⟩
   try simp only at hi hcs ⊢
   by_cases hil : i < il.length
   ·have hdi : decide ((i : Int) < (il.length : Int)) = true := decide_eq_true kc
    obtain ⟨ib,io,rfl,hic2⟩ := hI7.cells (fun e => by rw [e] at hil;simp at hil)
    have hibw : ib < w.heap.size := by
     obtain ⟨ib',io',e',hc'⟩ := hI.cells (fun e => by rw [e] at hil;simp at hil)
     cases e'
     exact World.block_lt_of_cell? w _ (hc' i hil)
    have hx0 : w7.cell? ⟨ib,io + (i : Int).toNat,none⟩ = some (.int .i64 il[i]) := by rw [Int.toNat_natCast];exact hic2 i hil
    have hx0' : w7.cell? ⟨ib,io + (i : Int).toNat * 1,none⟩ = some (.int .i64 il[i]) := by rw [Nat.mul_one];exact hx0
    generalize il[i] = x at *
    have hm0 : (0 : Int) < (m : Int) := by omega
    have t1 := Int.lt_tmod_of_pos x hm0
    have t2 := Int.tmod_lt_of_pos x hm0
    have t3 := Int.tmod_nonneg (m : Int) (show 0 ≤ x.tmod (m : Int) + (m : Int) by omega)
    have t4 := Int.tmod_lt_of_pos (x.tmod (m : Int) + (m : Int)) hm0
    obtain ⟨k,hk⟩ : ∃ k : Nat,(x.tmod (m : Int) + (m : Int)).tmod (m : Int) = (k : Int) := ⟨((x.tmod (m : Int) + (m : Int)).tmod (m : Int)).toNat,by omega⟩
    have hkm : k < m := by omega
    have hkc : k < cs.length := by omega
    obtain ⟨z,hz⟩ := xor8 (cs[k].toNat : Int) (1 + (i : Int))
    have hld : (byteCells cs ++ J)[0 + ((x.tmod (m : Int) + (m : Int)).tmod (m : Int)).toNat]? = some (.int .u8 (cs[k].toNat : Int)) := by
     rw [hk,Int.toNat_natCast,Nat.zero_add,List.getElem?_append_left (by rw [byteCells_length];exact hkc)]
     simp [byteCells,hkc]
    have hst : LSet (byteCells cs ++ J) (0 + ((x.tmod (m : Int) + (m : Int)).tmod (m : Int)).toNat) (.int .u8 (bits .xor .u8 (cs[k].toNat : Int) (1 + (i : Int)))) (byteCells (cs.set k z) ++ J) := by
     rw [hk,Int.toNat_natCast,Nat.zero_add,hz]
     have e : byteCells (cs.set k z) ++ J = (byteCells cs ++ J).set k (.int .u8 (z.toNat : Int)) := by
      rw [List.set_append_left _ _ (by rw [byteCells_length];exact hkc)]
      unfold byteCells
      rw [List.map_set]
     rw [e]
     exact LSet.get (by rw [List.length_append,byteCells_length];omega)
    repeat' first | (apply Wl.loadO;exact rfl;exact rfl;(first | exact hx0 | exact hx0');(exact ⟨by simp only;omega,trivial⟩)) | (apply Wl.loadH;exact rfl;exact rfl;exact (.head _);exact hld) | (apply Wl.store;exact rfl;exact rfl;exact rfl;exact kd;exact hst) | refine Wl.move rfl rfl ?_ | refine Wl.assign rfl rfl ?_ | refine Wl.lss rfl rfl rfl ?_ | (refine Wl.addI rfl rfl rfl ?_ ?_;constructor <;> omega) | (apply Wl.rem;exact rfl;exact rfl;exact rfl;exact j0) | refine Wl.xor rfl rfl rfl ?_ | (refine Wl.convU8 rfl rfl ?_ ?_;constructor <;> omega) | refine Wl.len rfl rfl ?_ | (refine Wl.indexAddr1 rfl rfl rfl ?_ ?_;constructor <;> omega) | apply Wl.nil | apply St.seq | apply St.block | apply St.region | (apply St.condT;exact rfl;exact k5) | apply St.skip | apply Gt.next | apply Gt.inNormal
    exact Gt.round (i + 1,cs.set k z) ⟨hil,by simp only [List.length_set];exact hcs⟩ ky kq (fun _ h => h)
   ·obtain rfl : i = il.length := by omega
    have hdi : decide ((il.length : Int) < (il.length : Int)) = false := decide_eq_false kc
    repeat' first | refine Wl.lss rfl rfl rfl ?_ | apply Wl.nil | apply St.seq | apply St.region | (apply St.condF;exact rfl;exact k5) | apply St.exit | apply Gt.next | apply Gt.thenExit | apply Gt.inExit
    refine Gt.reb (H' := []) fun w8 h8 => ⟨trivial,trivial,?_⟩
    have u8 : Upd (fun k => k = g) w7 w8 := Hp.turned h8
    have z8 := u8.size
    have hbs := Bs.pre (k := m) (bsBlkJ (h8.own.at (.head _)) kc hcap2) kc
    have hX8 := hX7.upd u8 fun b hb h => by have := hXg b hb;omega
    exact Gt.meet (w8,.slice (some ⟨g,0,none⟩) m cap,cs.take m) ⟨hX8,U7.comp u8 fun k _ h => h.elim id fun h => by omega,hbs,⟨g,0,cap,by rw [List.length_take,Nat.min_eq_left kc],by simp only;omega⟩,⟨by simp only [List.length_take];omega,fun e => by have := congrArg List.length e;simp only [List.length_take,List.length_nil] at this;omega⟩,by simp only;omega⟩ kq (fun _ h => h)
  ·have hl0' : lb.length ≠ 0 := fun h => hl0 (List.eq_nil_of_length_eq_zero h)
   have d0 : decide ((lb.length : Int) = 0) = false := decide_eq_false kc
   obtain ⟨g,cap,J,rfl,hg,hblk⟩ := hb9.blk kc
   repeat' first | refine Wl.move rfl rfl ?_ | refine Wl.eql rfl rfl rfl ?_ | refine Wl.len rfl rfl ?_ | apply Wl.nil | apply St.seq | apply St.region | (apply St.condF;exact rfl;exact k5) | apply St.skip | apply Gt.next
   refine Gt.reb (H' := []) fun w6 h6 => ⟨trivial,trivial,?_⟩
   have z6 := h6.upd.size
   exact Gt.meet (w6,.slice (some ⟨g,0,none⟩) lb.length cap,lb) ⟨hX5.upd h6.upd fun _ _ y => y trivial,U5.comp h6.upd fun k _ hs => hs.elim id fun y => (y trivial).elim,hb9.bs.upd h6.upd fun k _ _ _ y => y trivial,⟨g,0,cap,rfl,by have := lt_of_block hblk;simp only;omega⟩,⟨by simp only;omega,hl0⟩,by simp only;omega⟩ kq (fun _ h => h)
 clear hX5 hbX5 U5 hb9 z5 hXg
 rintro ⟨w6,v,lf⟩ ⟨hX6,U6,hBf,⟨g,o,cap,hv,hg⟩,⟨hlf,hne⟩,hbX6⟩
 try simp only at hX6 U6 hBf hv hg hlf hne hbX6 ⊢
 subst hv
 have hcap := hBf.shape
 obtain ⟨_,_,hsh,hcap1,hcap2⟩ := hcap
 cases hsh
 obtain ⟨fb,fo,hfa,hfc⟩ := hBf.cells hne
 cases hfa
 have hgo : ∀ {n c : Nat} (k : Nat),(Value.slice (some ⟨g,o,none⟩) n c).ownBlock = some k → k = g := fun k hk => by cases hk;rfl
 have hXl : ∀ k,MonF I M k → k < w6.heap.size := fun k hk => (hX6.lt k hk).2
 have hlf1 := List.length_pos_iff.2 hne
 obtain ⟨xa1,xc1,hpv⟩ := hFX.pv
 obtain ⟨xa2,xc2,hev⟩ := hFX.ev
 repeat' first | refine Wl.move rfl rfl ?_ | apply St.seq | apply St.region
 apply Wl.callQ
 exact rfl
 (focus repeat constructor)
 ·intro wq hq
  exact hq.q (refSum _ lf wq (hBf.upd hq.upd fun k _ _ _ y => y trivial) kc (fun _ k hk => by have := hq.upd.size;have := hgo k hk;omega))
 repeat' first | (apply Wl.alloc;exact rfl;intro c hc ho)
 apply Wl.storeAll
 ·exact rfl
 ·exact rfl
 ·exact .here
 ·exact cellsN_len _ _ _
 ·exact rfl
 ·exact cellsN_one _ _ _
 generalize c = c13 at *
 have hc13 : w6.heap.size ≤ c13 := by assumption
 repeat' first | apply Wl.nil | apply St.seq | apply Gt.next
 refine St.reb (H' := []) fun w7 h7 => ⟨trivial,trivial,?_⟩
 have u7 : Upd (fun k => w6.heap.size ≤ k) w6 w7 := Hp.on1 h7 (Upd.refl _ _) ky
 have e13 := h7.own.at (.head _)
 simp only at e13
 have U7 : Upd (fun k => w.heap.size ≤ k) w w7 := U6.comp u7 fun k _ hs => hs.elim id fun h => Nat.le_trans U6.size h
 have hX7 := hX6.new u7 (Nat.le_refl _)
 have z7 := u7.size
 have hBf7 : Bs w7 (.slice (some ⟨g,o,none⟩) lf.length cap) lf := hBf.upd u7 fun k _ hk _ h => by omega
 have hfc7 : ∀ i (hi : i < lf.length),w7.cell? ⟨g,o + i,none⟩ = some (.int .u8 (lf[i].toNat : Int)) := fun i hi => u7.cell (hfc i hi) ky
 have l13 := lt_of_block e13
 clear h7
 have ecd := digCells lf
 refine St.tree (fun _ => True) mixed (fun _ h' => ⟨Hp.drew h',trivial⟩) ?_
 refine Mt.pm 0 ?_
 refine Mt.pm 1 ?_
 refine Mt.pm 3 ?_
 refine Mt.pu 6 ?_
 apply Wl.sliceArrW;exact rfl;exact rfl;decide;apply Wl.nilB
 refine Mt.pm 8 ?_
 refine Mt.pu 2 ?_
 refine Wl.len rfl rfl (Wl.nilB ?_)
 refine Mt.pu 4 ?_
 refine Wl.len rfl rfl (Wl.nilB ?_)
 refine Mt.pu 5 ?_
 apply Wl.slice0;exact rfl;exact rfl;exact kw;exact kw;exact zk;omega;omega;apply Wl.nilB
 refine Mt.e1 7 ?_
 apply Wl.appendG (e := 5) (sz := 1) (olds := byteCells lf) (news := byteCells (digE lf)) (n := lf.length) (cap := lf.length) (m := 32)
 ·exact rfl
 ·exact rfl
 ·exact rfl
 ·rw [byteCells_length,Nat.mul_one]
 ·intro w' h' j u hj
  rw [addLit]
  have hjl : j < lf.length := by have := (List.getElem?_eq_some_iff.1 hj).1;rw [byteCells_length] at this;exact this
  have e := hfc7 j hjl
  have e2 : (byteCells lf)[j]? = some (.int .u8 (lf[j].toNat : Int)) := by simp [byteCells,hjl]
  rw [e2] at hj
  cases hj
  exact h'.upd.cell e fun y => y trivial
 ·rw [byteCells_length,digE_len]
 ·intro w' h' j u hj
  rw [addLit,Nat.zero_add]
  rw [ecd] at e13
  exact h'.upd.cell (cell_of e13 hj) fun y => y trivial
 ·omega
 ·exact rfl
 ·decide
 ·unfold maxLen;omega
 ·omega
 intro v8 w8 ho8 h8 _
 have u8 : Upd (fun _ => False) w7 w8 := h8.upd.mono fun _ _ y => y trivial
 have z8 := u8.size
 have U8 : Upd (fun k => w.heap.size ≤ k) w w8 := U7.comp u8 fun k _ hs => hs.elim id False.elim
 have hX8 := hX7.upd u8 fun _ _ y => y
 have hb8 : Bo w8 w7.heap.size v8 (lf ++ digE lf) := Bo.of (m := digE lf) (l := lf) (cs := byteCells (digE lf)) ho8 (by rw [digE_len]) rfl
 have hBf8 : Bs w8 (.slice (some ⟨g,o,none⟩) lf.length cap) lf := hBf7.upd u8 fun k _ _ _ y => y
 apply Wl.nil
 refine Mt.backE (fun _ _ => trivial) ?_
 refine Mt.e1 9 ?_
 apply Wl.callC
 ·exact rfl
 ·exact kd
 intro wq hq
 have Uq : Upd (fun k => w.heap.size ≤ k) w wq := U8.comp hq.upd fun k _ hs => hs.elim id fun y => (y trivial).elim
 have zq := hq.upd.size
 refine (sDecodeAny base I M xa1 xa2 xc1 xc2 v8 (lf ++ digE lf) wq (hX8.upd hq.upd fun _ _ y => y trivial) kc kc (by rw [hlen];exact hpv) (by rw [hlen];exact hev) (hb8.bs.upd hq.upd fun k _ _ _ y => y trivial) (fun k hk _ => by have := (hb8.lt k hk).2;omega) (by rw [List.length_append,digE_len];omega) (hKu Uq)).mono ?_
 rintro e w9 ⟨u9,hres⟩
 have U9 : Upd (fun k => w.heap.size ≤ k) w w9 := Uq.comp u9 fun k _ hs => hs.elim id fun h => Nat.le_trans Uq.size h
 have hX9 := (hX8.upd hq.upd fun _ _ y => y trivial).new u9 (Nat.le_refl _)
 have z9 := u9.size
 have hBf9 : Bs w9 (.slice (some ⟨g,o,none⟩) lf.length cap) lf := (hBf8.upd hq.upd fun k _ _ _ y => y trivial).upd u9 fun k hk _ _ h => by have := hgo k hk;omega
 obtain ⟨qv,z,rfl,hQ⟩ : ∃ q,∃ z : Int,e = .returned (.tuple #[q,.int .i64 z]) ∧ QR w9 I M q z := by
  rcases hres with ⟨z,rfl,hz⟩ | ⟨S,I',M',b',h1,h2,h3,rfl,h5,h6,h7⟩
  ·exact ⟨_,z,rfl,.inl ⟨rfl,hz.elim (fun h => h.2.trans cod_ok) fun h => h.2⟩⟩
  ·exact ⟨_,0,rfl,.inr ⟨S,I',M',b',rfl,rfl,h2,h3,h5,fun k hk => by have := hXl k hk;omega,h6.2,h7⟩⟩
 refine ⟨_,_,rfl,Hp.start w9,?_⟩
 clear hq hres hb8 ho8 h8 u8 u9 Uq U8 hBf8 hX8 hfc7 hBf7 hX7 U7 u7 e13 ecd
 apply Wl.nil
 refine Mt.backE (fun _ _ => trivial) ?_
 refine Mt.pm 10 ?_
 refine Mt.pu 11 ?_
 refine Wl.extract rfl rfl rfl (Wl.nilB ?_)
 refine Mt.pu 12 ?_
 refine Wl.extract rfl rfl rfl (Wl.nilB ?_)
 refine Mt.pu 13 ?_
 refine Wl.assign rfl rfl (Wl.nilB ?_)
 refine Mt.pu 14 ?_
 refine Wl.assign rfl rfl (Wl.nilB ?_)
 refine Mt.toGt kb ?_
 repeat' first | refine Wl.move rfl rfl ?_ | apply St.seq | apply St.region | apply Gt.next
 apply Wl.callC
 ·exact rfl
 ·exact kd
 intro wq hq
 have Uq : Upd (fun k => w.heap.size ≤ k) w wq := U9.comp hq.upd fun k _ hs => hs.elim id fun y => (y trivial).elim
 have zq2 := hq.upd.size
 refine (sDecodeAny base I M xa1 xa2 xc1 xc2 _ lf wq (hX9.upd hq.upd fun _ _ y => y trivial) kc kc (by rw [hlen];exact hpv) (by rw [hlen];exact hev) (hBf9.upd hq.upd fun k _ _ _ y => y trivial) (fun k hk _ => by have := hgo k hk;omega) kc (hKu Uq)).mono ?_
 rintro e w10 ⟨u10,hres⟩
 have U10 : Upd (fun k => w.heap.size ≤ k) w w10 := Uq.comp u10 fun k _ hs => hs.elim id fun h => Nat.le_trans Uq.size h
 have hX10 := (hX9.upd hq.upd fun _ _ y => y trivial).new u10 (Nat.le_refl _)
 have hQ10 : QR w10 I M qv z := (hQ.new (w0 := w9) (hq.upd.mono fun _ _ y => (y trivial).elim) (Nat.le_refl _)).new u10 (by exact Nat.le_refl _)
 have z10 := u10.size
 have hBf10 : Bs w10 (.slice (some ⟨g,o,none⟩) lf.length cap) lf := (hBf9.upd hq.upd fun k _ _ _ y => y trivial).upd u10 fun k hk _ _ h => by have := hgo k hk;omega
 obtain ⟨qv2,z2,rfl,hz2⟩ : ∃ q,∃ z : Int,e = .returned (.tuple #[q,.int .i64 z]) ∧ ((decC M.L.length lf = none → z = codeD lf)) := by
  rcases hres with ⟨z,rfl,hz⟩ | ⟨S,I',M',b',h1,h2,h3,rfl,h5,h6,h7⟩
  ·refine ⟨_,z,rfl,fun h => hz.elim (fun h => h.2) fun h' => ?_⟩
   rw [h] at h'
   cases h'.1
  ·exact ⟨_,0,rfl,fun h => by rw [h1] at h;cases h⟩
 refine ⟨_,_,rfl,Hp.start w10,?_⟩
 clear hq hres u10 Uq U9 hBf9 hX9 hQ
 repeat' first | refine Wl.move rfl rfl ?_ | refine Wl.assign rfl rfl ?_ | refine Wl.extract rfl rfl rfl ?_ | apply Wl.nil | apply Gt.next
 have hXl10 : ∀ k,MonF I M k → k < w10.heap.size := fun k hk => (hX10.lt k hk).2
 refine St.cut (σ := World) (fun w' => MonS w' base I M ∧ Upd (fun k => w.heap.size ≤ k) w w' ∧ QR w' I M qv z ∧ w10.heap.size ≤ w'.heap.size) (fun _ => [(0,.slice a l.length ca),(7,.pointer (some ⟨I.m,0,none⟩)),(14,qv),(15,.int .i64 z)]) (fun w' => Hp w' []) ?_ ?_
 ·by_cases h32 : lf.length < 32
  ·have d32 : decide ((lf.length : Int) < 32) = true := decide_eq_true kc
   obtain ⟨g1,g2⟩ := cod_short (n := M.L.length) h32
   have hz3 : z2 = 3 := (hz2 g2).trans g1
   subst hz3
   repeat' first | refine Wl.move rfl rfl ?_ | (apply Wl.neqIs;exact rfl;exact rfl;exact rfl;exact kx) | refine Wl.lss rfl rfl rfl ?_ | refine Wl.len rfl rfl ?_ | apply Wl.nil | apply St.seq | apply St.region | (apply St.condT;exact rfl;exact k5) | (apply St.condF;exact rfl;exact k5) | apply St.skip | apply Gt.next
   refine Gt.reb (H' := []) fun w11 h11 => ⟨trivial,trivial,?_⟩
   exact Gt.meet w11 ⟨hX10.upd h11.upd fun _ _ y => y trivial,U10.comp h11.upd fun k _ hs => hs.elim id fun y => (y trivial).elim,hQ10.new (w0 := w10) (h11.upd.mono fun _ _ y => (y trivial).elim) (Nat.le_refl _),h11.upd.size⟩ kq (fun _ h => h)
  ·have d32 : decide ((lf.length : Int) < 32) = false := decide_eq_false kc
   have hkk : ((lf.length : Int) - 32).toNat = lf.length - 32 := by omega
   have hp0 : Bs w10 (.slice (some ⟨g,o,none⟩) ((lf.length : Int) - 32).toNat cap) (lf.take (lf.length - 32)) := by rw [hkk];exact Bs.pre hBf10 kc
   have hp1 : Bs w10 (.slice (if cap = ((lf.length : Int) - 32).toNat then some ⟨g,o,none⟩ else (some ⟨g,o,none⟩ : Option Addr).map (·.add (((lf.length : Int) - 32).toNat * 1))) (lf.length - ((lf.length : Int) - 32).toNat) (cap - ((lf.length : Int) - 32).toNat)) (lf.drop (lf.length - 32)) := by
    have := hBf10.sub (lo := ((lf.length : Int) - 32).toNat) (hi := lf.length) (mx := cap) kc (Nat.le_refl _) kc (Nat.le_refl _)
    rw [List.take_length] at this
    rw [hkk] at this ⊢
    exact this
   have hl0n : (lf.take (lf.length - 32)).length = lf.length - 32 := by rw [List.length_take];omega
   have hgo1 : ∀ {n c m : Nat} (k : Nat),(Value.slice (if cap = m then some ⟨g,o,none⟩ else (some ⟨g,o,none⟩ : Option Addr).map (·.add (m * 1))) n c).ownBlock = some k → k = g := fun {n c m} k hk => by
    split at hk
    ·cases hk;rfl
    ·simp [Value.ownBlock,Addr.add] at hk
     split at hk <;> exact hk.symm
   generalize hlt : lf.take (lf.length - 32) = lt at *
   repeat' first | refine Wl.move rfl rfl ?_ | refine Wl.lss rfl rfl rfl ?_ | (refine Wl.subI rfl rfl rfl ?_ ?_;constructor <;> omega) | refine Wl.len rfl rfl ?_ | (apply Wl.slice0;exact rfl;exact rfl;exact kw;exact kw;exact zk;omega;omega) | apply Wl.nil | apply St.seq | apply St.region | (apply St.condF;exact rfl;exact k5) | apply Gt.next
   apply Wl.callQ
   exact rfl
   (focus repeat constructor)
   ·intro wq hq
    exact hq.q (refSum _ lt wq (hp0.upd hq.upd fun k _ _ _ y => y trivial) kc (fun _ k hk => by have := hq.upd.size;have := hgo k hk;omega))
   repeat' first | (apply Wl.alloc;exact rfl;intro c hc ho)
   apply Wl.storeAll
   ·exact rfl
   ·exact rfl
   ·exact .here
   ·exact cellsN_len _ _ _
   ·exact rfl
   ·exact cellsN_one _ _ _
   generalize c = c18 at *
   have hc18 : w10.heap.size ≤ c18 := by assumption
   have hDig : ∀ w' : World,w'.heap[c18]? = some (.cells (cellsN .u8 32 (Sha.of lt)).toArray 107 (0,0)) → Bs w' (.slice (some ⟨c18,0,none⟩) 32 32) (digE lt) := fun w' h => by
    rw [digCells] at h
    have := svBlk (sz := 1) (n := 32) h (by rw [byteCells_length];simp [digE]) (by unfold maxLen;omega)
    unfold Bs
    rw [digE_len]
    exact this
   by_cases hdg : digE lt = lf.drop (lf.length - 32)
   ·have hdd : decide (digE lt ≠ lf.drop (lf.length - 32)) = false := by simp [hdg]
    repeat' first | (apply Wl.sliceArrW;exact rfl;exact rfl;decide) | (apply Wl.convBS (l := digE lt);exact rfl;exact rfl;(intro w' h';exact hDig w' (h'.own.at (.head _)))) | (apply Wl.convBS (l := lf.drop (lf.length - 32));exact rfl;exact rfl;(intro w' h';exact hp1.upd h'.upd fun k hk hlt hne y => y ⟨fun e => by have := hgo1 k hk;simp only at e;omega,trivial⟩)) | refine Wl.move rfl rfl ?_ | (apply Wl.off;exact rfl;exact rfl;exact rfl;exact kh) | (apply Wl.pickF;exact rfl;exact rfl;exact k5;exact rfl) | (refine Wl.subI rfl rfl rfl ?_ ?_;constructor <;> omega) | refine Wl.neqSB rfl rfl rfl ?_ | refine Wl.len rfl rfl ?_ | (apply Wl.sliceFull;exact rfl;exact rfl;exact kw;exact kw;exact kw;exact zk;omega;omega;omega) | apply Wl.nil | apply Wl.nilQ | apply St.seq | (apply St.draw;exact mixed;(kernel_rfl);exact (fun _ h => Hp.drew h)) | (apply St.condF;exact rfl;exact k5) | apply St.skip | apply Gt.next
    refine Gt.reb (H' := []) fun w11 h11 => ⟨trivial,trivial,?_⟩
    have u11 : Upd (fun k => w10.heap.size ≤ k) w10 w11 := Hp.on1 h11 (Upd.refl _ _) ky
    exact Gt.meet w11 ⟨hX10.new u11 (Nat.le_refl _),U10.comp u11 fun k _ hs => hs.elim id fun h => Nat.le_trans U10.size h,hQ10.new u11 (Nat.le_refl _),u11.size⟩ kq (fun _ h => h)
   ·have hdd : decide (digE lt ≠ lf.drop (lf.length - 32)) = true := by simp [hdg]
    obtain ⟨g1,g2⟩ := cod_bad (n := M.L.length) h32 (by rw [hlt];exact hdg)
    have hz7 : z2 = 7 := (hz2 g2).trans g1
    subst hz7
    repeat' first | (apply Wl.sliceArrW;exact rfl;exact rfl;decide) | (apply Wl.convBS (l := digE lt);exact rfl;exact rfl;(intro w' h';exact hDig w' (h'.own.at (.head _)))) | (apply Wl.convBS (l := lf.drop (lf.length - 32));exact rfl;exact rfl;(intro w' h';exact hp1.upd h'.upd fun k hk hlt hne y => y ⟨fun e => by have := hgo1 k hk;simp only at e;omega,trivial⟩)) | refine Wl.move rfl rfl ?_ | (apply Wl.on;exact rfl;exact rfl;exact k5) | (apply Wl.pickT;exact rfl;exact rfl;exact k5;exact rfl) | (apply Wl.neqIs;exact rfl;exact rfl;exact rfl;exact kx) | (refine Wl.subI rfl rfl rfl ?_ ?_;constructor <;> omega) | refine Wl.neqSB rfl rfl rfl ?_ | refine Wl.len rfl rfl ?_ | (apply Wl.sliceFull;exact rfl;exact rfl;exact kw;exact kw;exact kw;exact zk;omega;omega;omega) | apply Wl.nil | apply Wl.nilQ | apply St.seq | (apply St.draw;exact mixed;(kernel_rfl);exact (fun _ h => Hp.drew h)) | (apply St.condF;exact rfl;exact k5) | apply St.skip | apply Gt.next
    refine Gt.reb (H' := []) fun w11 h11 => ⟨trivial,trivial,?_⟩
    have u11 : Upd (fun k => w10.heap.size ≤ k) w10 w11 := Hp.on1 h11 (Upd.refl _ _) ky
    exact Gt.meet w11 ⟨hX10.new u11 (Nat.le_refl _),U10.comp u11 fun k _ hs => hs.elim id fun h => Nat.le_trans U10.size h,hQ10.new u11 (Nat.le_refl _),u11.size⟩ kq (fun _ h => h)
 clear hX10 U10 hQ10
 rintro w11 ⟨hX11,U11,hQ11,z11⟩
 have hbX11 : base ≤ w11.heap.size := by omega
 rcases hQ11 with ⟨rfl,rfl⟩ | ⟨S,I',M',b',rfl,rfl,hset,hf,hq11,hap,hb',hD⟩
 ·repeat' first | refine Wl.move rfl rfl ?_ | refine Wl.assign rfl rfl ?_ | (apply Wl.on;exact rfl;exact rfl;exact k5) | (apply Wl.pickT;exact rfl;exact rfl;exact k5;exact rfl) | refine Wl.eqlNN rfl rfl rfl ?_ | (apply Wl.eqlIs;exact rfl;exact rfl;exact rfl;exact kx) | refine Wl.neq rfl rfl rfl ?_ | apply Wl.nil | apply St.seq | apply St.region | (apply St.condT;exact rfl;exact k5) | apply St.ret | apply Gt.next | apply Gt.thenRet | (apply Gt.out1;exact rfl;exact rfl;intro w' hp)
  exact ⟨rfl,Hp.on0 hp U11⟩
 have hLl : M'.L.length = l.length := by rw [hD.L.1,hf.hn.1,hlen]
 have hbn : S.r.bx.length = M.L.length := hf.hb.1
 have htv : turnV M'.t = S.t := by
  rw [hD.L.2.1]
  have := hset.2.1.1
  unfold turnV
  split <;> omega
 have hget : ∀ j,j < M.L.length → (S.r.bx.getD j []).length ≤ 4 ∧ LetFit M.L.length 16 (S.r.bx.getD j []) := fun j hj => by
  have : S.r.bx.getD j [] ∈ S.r.bx := by rw [List.getD_eq_getElem?_getD,List.getElem?_eq_getElem kc];exact List.getElem_mem _
  exact hf.hb.2 _ this
 have hqF : ∀ k,MonF I' M' k → b' ≤ k ∧ k < w11.heap.size := fun k hk => hq11.lt k hk
 repeat' first | refine Wl.move rfl rfl ?_ | (apply Wl.neqIs;exact rfl;exact rfl;exact rfl;exact kx) | apply Wl.nil | apply St.seq | apply St.region | (apply St.condF;exact rfl;exact k5) | apply St.skip | apply Gt.next
 apply Wl.callC
 ·exact rfl
 ·exact kd
 intro wq hq
 have Uq : Upd (fun k => w.heap.size ≤ k) w wq := U11.comp hq.upd fun k _ hs => hs.elim id fun y => (y trivial).elim
 have zq := hq.upd.size
 have hwb : w.heap.size ≤ b' := Nat.le_trans (by omega : w.heap.size ≤ base) (by have := hap I.m (.inl rfl);have := (hX11.lt I.m (.inl rfl)).1;omega)
 refine (sEncode b' I' M' (fun j => S.r.bx.getD j []) wq (hq11.upd hq.upd fun _ _ y => y trivial) kc (fun i hi => ⟨hD.b i kc,(hget i kc).1⟩) (by rw [hD.L.2.2.2];exact hf.hl.2.2) kc (by rw [hD.f];exact hf.hf) (fun s hs => hf.hi.2 s (by rw [← hD.L.2.2.1];exact hs))
  (fun i hi x hx => by obtain ⟨⟨q1,q2⟩,q3,q4⟩ := (hget i kc).2 x hx;exact ⟨q4,q1,by omega⟩) (fun x hx => by rw [hD.L.2.2.2] at hx;obtain ⟨⟨q1,q2⟩,q3,q4⟩ := hf.hl.1 x hx;exact ⟨q4,q1,by omega⟩) (fun x hx => by rw [hD.L.1] at hx;exact (hf.hL x hx).2) (by rw [hD.L.2.1];have := hset.2.1;have := hf.hn.1;omega) (hKu Uq)
  (fun k hk => by have := (hqF k (.inr (.inr (.inr (.inr (.inr (.inr (.inr (.inr (.inr (.inr (.inl hk.mem)))))))))))).1;omega)).mono ?_
 rintro e w12 ⟨enc,rfl,henc,hq12,u12⟩
 rw [hLl,htv,hD.L.1,hD.L.2.2.1,hD.L.2.2.2,hD.f,← hlen,bxs_getD hbn] at henc
 have hzq : ∀ k,Zc I' (fun j => S.r.bx.getD j []) k → b' ≤ k ∧ k < w11.heap.size := fun k hk => hqF k (.inr (.inr (.inr (.inr (.inr (.inr (.inr (.inr (.inr (.inr (.inl hk.mem)))))))))))
 have U12 : Upd (fun k => w.heap.size ≤ k) w w12 := Uq.comp u12 fun k _ hs => hs.elim id fun h => h.elim (fun h => by have := hzq k h;omega) fun h => Nat.le_trans Uq.size h
 have hX12 : MonS w12 base I M := (hX11.upd hq.upd fun _ _ y => y trivial).upd u12 fun k hk h => h.elim (fun h => by have := hzq k h;have := hap k hk;omega) fun h => by have := (hX11.lt k hk).2;omega
 have z12 := u12.size
 refine ⟨_,_,rfl,Hp.start w12,?_⟩
 clear hq u12 Uq U11 hX11
 repeat' first | refine Wl.move rfl rfl ?_
 apply Wl.callC
 ·exact rfl
 ·exact kd
 intro wr hr
 have Ur : Upd (fun k => w.heap.size ≤ k) w wr := U12.comp hr.upd fun k _ hs => hs.elim id fun y => (y trivial).elim
 have zr := hr.upd.size
 refine (sDecEnc base I M xa1 xa2 xc1 xc2 enc M.L.length S.t S.r.L S.r.ins S.r.bx S.ll S.f wr (hX12.upd hr.upd fun _ _ y => y trivial) kc kc (by rw [hlen];exact hpv) (by rw [hlen];exact hev) (henc.bs.upd hr.upd fun k _ _ _ y => y trivial) (fun k hk => by have := (henc.lt k hk).2;omega) (by have := encE_len hf;omega) hf hset (hKu Ur)).mono ?_
 rintro e w13 ⟨u13,⟨h0,_⟩ | ⟨_,I5,M5,b5,rfl,h5,hb5,hS5⟩⟩
 ·exact (h0 rfl).elim
 have U13 : Upd (fun k => w.heap.size ≤ k) w w13 := Ur.comp u13 fun k _ hs => hs.elim id fun h => Nat.le_trans Ur.size h
 have hq13 : MonS w13 b' I' M' := (hq12.upd hr.upd fun _ _ y => y trivial).new u13 (Nat.le_refl _)
 have z13 := u13.size
 refine ⟨_,_,rfl,Hp.start w13,?_⟩
 clear hr u13 Ur U12 hX12 henc
 repeat' first | refine Wl.move rfl rfl ?_ | refine Wl.assign rfl rfl ?_ | (apply Wl.on;exact rfl;exact rfl;exact k5) | refine Wl.extract rfl rfl rfl ?_ | (apply Wl.eqlIs;exact rfl;exact rfl;exact rfl;exact kx) | apply Wl.nil | apply St.seq | apply St.region | apply Gt.next
 apply Wl.callC
 ·exact rfl
 ·exact kd
 intro wq2 hq2
 have Uq2 : Upd (fun k => w.heap.size ≤ k) w wq2 := U13.comp hq2.upd fun k _ hs => hs.elim id fun y => (y trivial).elim
 have zq2' := hq2.upd.size
 have hL5 : M5.L.length = M.L.length := by rw [hS5.L.1,hf.hn.1]
 refine (sSameL (fun j => S.r.bx.getD j []) b' b5 I' I5 M' {M5 with f := cutF M5.f} wq2 (hq13.upd hq2.upd fun _ _ y => y trivial) ((h5.cong (cutF_at M5.f)).upd hq2.upd fun _ _ y => y trivial) kc kc
  (fun i hi => ⟨hD.b i kc,(hget i kc).1⟩) (fun i hi => ⟨by show M5.bx i = _;rw [hS5.b];exact if_pos (by have h' : i < M5.L.length := hi;omega),(hget i (by have h' : i < M5.L.length := hi;omega)).1⟩) (fun i hi x hx => by obtain ⟨⟨q1,q2⟩,q3,q4⟩ := (hget i kc).2 x hx;exact ⟨by omega,q1,by omega⟩) (fun k hk => by have := (hq12.lt k hk).2;omega)
  (hS5.L.1.trans hD.L.1.symm) (by show turnV M5.t = _;rw [hS5.L.2.1,hD.L.2.1]) (hS5.L.2.2.1.trans hD.L.2.2.1.symm) (hS5.L.2.2.2.trans hD.L.2.2.2.symm) (fun j hj => by rw [hD.f];exact (cutF_at M5.f j hj).trans (hS5.f j hj)) (by rw [hD.f];exact hf.hf) (cutF_FB hf.hf hS5.f) (by rw [hD.L.2.2.2];exact hf.hl.2.2) kc
  (fun x hx => by rw [hD.L.1] at hx;exact (hf.hL x hx).2) (fun x hx => by rw [hD.L.2.2.2] at hx;obtain ⟨⟨q1,q2⟩,q3,q4⟩ := hf.hl.1 x hx;exact ⟨q4,q1,by omega⟩)).mono ?_
 rintro e w14 ⟨rfl,u14,hq14,_⟩
 have hz5 : ∀ k,Zc I5 (fun j => S.r.bx.getD j []) k → b5 ≤ k := fun k hk => (h5.lt k (.inr (.inr (.inr (.inr (.inr (.inr (.inr (.inr (.inr (.inr (.inl hk.mem)))))))))))).1
 have U14 : Upd (fun k => w.heap.size ≤ k) w w14 := Uq2.comp u14 fun k _ hs => hs.elim id fun h => (by
  rcases h with h | h | h
  ·have := (hzq k h).1;omega
  ·have := hz5 k h;omega
  ·have := Uq2.size;omega)
 refine ⟨_,_,rfl,Hp.start w14,?_⟩
 clear hq2 u14 Uq2 U13
 repeat' first | refine Wl.move rfl rfl ?_ | (apply Wl.on;exact rfl;exact rfl;exact k5) | (apply Wl.pickT;exact rfl;exact rfl;exact k5;exact rfl)
 apply Wl.callQ
 exact rfl
 (focus repeat constructor)
 ·intro wq hq
  exact hq.q (mCount b' I' M' wq (hq14.hp hq qu))
 have hdc : decide ((M'.L.length : Int) = (l.length : Int)) = true := decide_eq_true kc
 repeat' first | refine Wl.move rfl rfl ?_ | refine Wl.assign rfl rfl ?_ | (apply Wl.on;exact rfl;exact rfl;exact k5) | (apply Wl.pickT;exact rfl;exact rfl;exact k5;exact rfl) | refine Wl.eql rfl rfl rfl ?_ | refine Wl.len rfl rfl ?_ | apply Wl.nil | apply St.ret | apply Gt.next | (apply Gt.out1;exact rfl;exact rfl;intro w' hp)
 exact ⟨by rw [hdc],Hp.on0 hp U14⟩
end Go.Proofs.YtabbklpalbikdaaGreatDoor
end
section
namespace Go.Proofs.YtabbklpalbikdaaGreatDoor
open Go.RowKit Go.Pt Go.ChangeShapes Go.WideShapes Go.ChangeAt
def laid2 {H : Type} : List (String × DataW H) := [("math/bits.deBruijn32tab", Rows.laid_math_bits_deBruijn32tab), ("portico/sha.adds", Rows.laid_portico_sha_adds)]
theorem laidB_eq : (Rows.laid_math_bits_deBruijn32tab : DataW Unit) = .agg (tabL.map fun (n : Int) => .lit (.int .u8 n)) := by kernel_rfl
theorem laidS_eq : (Rows.laid_portico_sha_adds : DataW Unit) = .agg (Sha.KL.map fun (n : Nat) => .lit (.int .u32 (n : Int))) := by kernel_rfl
theorem tabLaid2 {W : World} (h : laidMetH Tryz.prog laid2 W) : tabOk W := by
 intro r hr
 rw [MakeChecks.laidMetH_plain _ _ _ kt] at h
 obtain ⟨ps,⟨g,t,cs,fuel,p,q,hg,ht,hv,hd,_,_⟩,_,_⟩ := h
 obtain rfl := Option.some.inj ((show Tryz.prog.globalNamed "math/bits.deBruijn32tab" = some 0 by kernel_rfl).symm.trans hg)
 obtain rfl := Option.some.inj ((show (Tryz.prog.globals[0]?).map (·.type) = some 107 by kernel_rfl).symm.trans ht)
 rw [laidB_eq] at hd
 obtain ⟨xs,m,_,ex,_,hl,hel⟩ := DataW.trod_array Tryz.underlying107 hd
 have c5 : Tryz.prog.cellsOf 5 = 1 := by kernel_rfl
 have hE := hel r hr
 rw [c5,Nat.mul_one,List.getElem?_eq_getElem kc] at hE
 obtain ⟨z,e1,e2,_⟩ := DataW.trod_int Tryz.underlying5 hE
 have hlen : tabL.length = 32 := rfl
 have e3 : (xs.map (·.1)) = tabL.map fun (n : Int) => .lit (.int .u8 n) := (DataW.agg.inj (Prod.mk.inj ex).1).symm
 have e4 : (xs.map (·.1))[r]? = (tabL.map fun (n : Int) => (DataW.lit (.int .u8 n) : DataW Unit))[r]? := by rw [e3]
 rw [List.getElem?_map,List.getElem?_map,List.getElem?_eq_getElem (by omega : r < xs.length),List.getElem?_eq_getElem (by omega : r < tabL.length),e2] at e4
 have hz : z = tabL[r]'(by omega) := by
  simp only [Option.map_some,Option.some.injEq,DataW.lit.injEq,Lit.int.injEq,true_and] at e4
  exact e4
 refine ⟨tabL[r]'(by omega),List.getElem?_eq_getElem _,?_,?_⟩
 ·have : ∀ x ∈ tabL,(0 : Int) ≤ x ∧ x ≤ 31 := by decide
  exact this _ (List.getElem_mem _)
 ·rw [World.var?_cell hg hv r,← hz]
  have h0 : ((cs.toList.drop r).take 1)[0]? = some (.int .u8 z) := by rw [e1];rfl
  simpa using h0
theorem shaTab2 {W : World} (h : laidMetH Tryz.prog laid2 W) : ArrAt W 1 0 .u32 64 Sha.K := by
 intro r hr
 rw [MakeChecks.laidMetH_plain _ _ _ kt] at h
 obtain ⟨ps,⟨_,_,_,_,_,_,_,_,_,_,⟨g,t,cs,fuel,p,q,hg,ht,hv,hd,_,_⟩,_⟩,_,_⟩ := h
 obtain rfl := Option.some.inj ((show Tryz.prog.globalNamed "portico/sha.adds" = some 1 by kernel_rfl).symm.trans hg)
 obtain rfl := Option.some.inj ((show (Tryz.prog.globals[1]?).map (·.type) = some 334 by kernel_rfl).symm.trans ht)
 rw [laidS_eq] at hd
 obtain ⟨xs,m,_,ex,_,hl,hel⟩ := DataW.trod_array Tryz.underlying334 hd
 have c5 : Tryz.prog.cellsOf 25 = 1 := by kernel_rfl
 have hE := hel r hr
 rw [c5,Nat.mul_one,List.getElem?_eq_getElem kc] at hE
 obtain ⟨z,e1,e2,_⟩ := DataW.trod_int Tryz.underlying25 hE
 have hlen : Sha.KL.length = 64 := rfl
 have e3 : (xs.map (·.1)) = Sha.KL.map fun (n : Nat) => .lit (.int .u32 (n : Int)) := (DataW.agg.inj (Prod.mk.inj ex).1).symm
 have e4 : (xs.map (·.1))[r]? = (Sha.KL.map fun (n : Nat) => (DataW.lit (.int .u32 (n : Int)) : DataW Unit))[r]? := by rw [e3]
 rw [List.getElem?_map,List.getElem?_map,List.getElem?_eq_getElem (by omega : r < xs.length),List.getElem?_eq_getElem (by omega : r < Sha.KL.length),e2] at e4
 have hz : z = (Sha.K r : Int) := by
  simp only [Option.map_some,Option.some.injEq,DataW.lit.injEq,Lit.int.injEq,true_and] at e4
  rw [e4,Sha.K,List.getD,List.getElem?_eq_getElem (by omega : r < Sha.KL.length)];rfl
 rw [Nat.zero_add,World.var?_cell hg hv r,← hz]
 have : cs.toList[r]? = some (.int .u32 z) := by
  have h0 : ((cs.toList.drop r).take 1)[0]? = some (.int .u32 z) := by rw [e1];rfl
  simpa using h0
 simpa using this
theorem shaTabLt {W : World} (h : ArrAt W 1 0 .u32 64 Sha.K) : 1 < W.heap.size := World.block_lt_of_cell? W _ (h 0 ku)
end Go.Proofs.YtabbklpalbikdaaGreatDoor
end
