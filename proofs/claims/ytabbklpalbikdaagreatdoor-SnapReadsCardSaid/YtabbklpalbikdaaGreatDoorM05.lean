/-
 5 texts,one behind the other;each says what it proves. Conditions: as each text says.
-/
import Derived.Test.YtabbklpalbikdaaGreatDoorM04
import Derived.Test.YtabbklpalbikdaaGreatDoorM01
import Derived.Lib.AppendStr
import Derived.Test.YtabbklpalbikdaaGreatDoorM02
set_option maxHeartbeats 32000000
set_option linter.unusedVariables false
set_option linter.unusedSimpArgs false
section
namespace Go.Proofs.YtabbklpalbikdaaGreatDoor
open Go.RowKit Go.Pt
theorem R4.hpc {w0 wa w w1 : World} {c : Nat} {src : Value} {all : List UInt8} {D : List Nat} {cu : Cu} {L : List Sta} {ins : List (List UInt8)} {bx : List (List (Int × List UInt8))} {xl ll : List (Int × List UInt8)} {sv iv bv xv lv : Value} {vs : List Value} {H : List Blk} (h : R4 w0 w c src all D cu L ins bx xl ll sv iv bv xv lv vs) (hq : Hp wa H w) (e : H.map Blk.b = D) (u1 : Upd (fun k => k = c) w w1) : Hp w1 H w1 :=
 ⟨Upd.refl _ _,hq.own.upd u1 fun x hx hc => by have := h.d x.b (e ▸ List.mem_map_of_mem hx);have := h.cl.1;omega,hq.apart⟩
def SnAns (w w' : World) (o : Option SnD) (e : Ending) : Prop :=
 match o with
 | some S => ∃ sv iv bv lv cM vs,e = .returned (.tuple #[.agg #[.int .i64 S.t,sv,iv,bv,lv,.pointer (some ⟨cM,0,none⟩)],.bool true]) ∧ SnT w' w.heap.size S sv iv bv lv cM vs ∧ w.heap.size ≤ cM
 | none => ∃ x0 x1 x2 x3 x4 x5 : Value,e = .returned (.tuple #[.agg #[x0,x1,x2,x3,x4,x5],.bool false]) ∧ [x0,x1,x2,x3,x4,x5].all Value.oneCell' = true
attribute [local irreducible] rowC in
theorem rowsC_eq (n k : Nat) (r : Rws) (c : Cu) : rowsC n (k + 1) r c = (match rowC n c with | some x => rowsC n k ⟨r.L ++ [x.1.1],r.ins ++ [x.1.2.1],r.bx ++ [x.1.2.2]⟩ x.2 | none => none) := rfl
theorem rowsC_no {n k : Nat} {r : Rws} {c : Cu} (h : rowC n c = none) : rowsC n (k + 1) r c = none := (rowsC_eq n k r c).trans (by rw [h])
theorem rowsC_so {n k : Nat} {r : Rws} {c : Cu} {x : (Sta × List UInt8 × List (Int × List UInt8)) × Cu} (h : rowC n c = some x) : rowsC n (k + 1) r c = rowsC n k ⟨r.L ++ [x.1.1],r.ins ++ [x.1.2.1],r.bx ++ [x.1.2.2]⟩ x.2 := (rowsC_eq n k r c).trans (by rw [h])
theorem rowC_no {n : Nat} {c cg : Cu} {s : List UInt8} {b : Bool} (hg : getC (cuD c) 64 = ((s,b),cg)) (h : ¬ (b = true ∧ (cg.u 1).1 ≤ 4)) : rowC n c = none := by
 have hE : cuE c = cg := by unfold cuE;rw [hg]
 unfold rowC
 rw [hE,hg]
 exact if_neg h
theorem rowC_bx {n : Nat} {c cg : Cu} {s : List UInt8} (hg : getC (cuD c) 64 = ((s,true),cg)) (h : (cg.u 1).1 ≤ 4) : rowC n c = match boxC n (cg.u 1).1 [] (cg.u 1).2 with | some r => some ((staC c,s,r.1),r.2) | none => none := by
 have hE : cuE c = cg := by unfold cuE;rw [hg]
 unfold rowC
 rw [hE,hg]
 exact if_pos ⟨rfl,h⟩
theorem boxC_no {n k : Nat} {b : List (Int × List UInt8)} {c ct : Cu} {ts : List UInt8} {tb : Bool} (hg : getC (c.u 1).2 16 = ((ts,tb),ct)) (h : ¬ (tb = true ∧ (c.u 1).1 < n ∧ ts ≠ [])) : boxC n (k + 1) b c = none := by
 unfold boxC
 rw [hg]
 exact if_neg h
theorem boxC_so {n k : Nat} {b : List (Int × List UInt8)} {c ct : Cu} {ts : List UInt8} (hg : getC (c.u 1).2 16 = ((ts,true),ct)) (h : (c.u 1).1 < n ∧ ts ≠ []) : boxC n (k + 1) b c = boxC n k (b ++ [(((c.u 1).1 : Int),ts)]) ct := by
 conv => lhs;unfold boxC
 rw [hg]
 exact if_pos ⟨rfl,h⟩
theorem own_c {w : World} {H : List Blk} {c t : Nat} {cs : List Value} (h : Own w H) (hm : (⟨c,cs,t⟩ : Blk) ∈ H) : w.heap[c]? = some (.cells cs.toArray t (0,0)) := h.at hm
theorem linC_no {n k u : Nat} {b : List (Int × List UInt8)} {c ct : Cu} {ts : List UInt8} {tb : Bool} (hg : getC (c.u 1).2 64 = ((ts,tb),ct)) (h : ¬ (tb = true ∧ (c.u 1).1 < n ∧ ts ≠ [] ∧ u + ts.length ≤ 256)) : linC n (k + 1) u b c = none := by
 unfold linC
 rw [hg]
 exact if_neg h
theorem linC_so {n k u : Nat} {b : List (Int × List UInt8)} {c ct : Cu} {ts : List UInt8} (hg : getC (c.u 1).2 64 = ((ts,true),ct)) (h : (c.u 1).1 < n ∧ ts ≠ [] ∧ u + ts.length ≤ 256) : linC n (k + 1) u b c = linC n k (u + ts.length) (b ++ [(((c.u 1).1 : Int),ts)]) ct := by
 conv => lhs;unfold linC
 rw [hg]
 exact if_pos ⟨rfl,h⟩
theorem tailC_no {n : Nat} {t : Int} {r : Rws} {c : Cu} (h : linC n (c.u 2).1 0 [] (c.u 2).2 = none) : tailC n t r c = none := by
 unfold tailC
 rw [h]
theorem R4.fin {w0 w w1 : World} {c : Nat} {src : Value} {all : List UInt8} {D : List Nat} {cu : Cu} {L : List Sta} {ins : List (List UInt8)} {bx : List (List (Int × List UInt8))} {xl ll : List (Int × List UInt8)} {sv iv bv xv lv : Value} {vs : List Value} {S : Nat → Prop} (h : R4 w0 w c src all D cu L ins bx xl ll sv iv bv xv lv vs) (u : Upd S w w1) (hs : ∀ k,S k → k < w.heap.size → k = c ∨ k ∈ D) :
  Upd (fun k => k = c ∨ w0.heap.size ≤ k) w0 w1 ∧ w1.ownsRow w0.heap.size 44 35 sv L.length (stas L).flatten ∧ w1.ownsRow w0.heap.size 9 1 iv ins.length (ins.map strV) ∧ w1.ownsRow w0.heap.size 76 1 bv bx.length vs ∧
   (vs.length = bx.length ∧ ∀ (j : Nat) x,bx[j]? = some x → ∃ v,vs[j]? = some v ∧ w1.ownsRow w0.heap.size 78 2 v x.length (x.map lineC).flatten) ∧ w1.ownsRow w0.heap.size 111 2 lv ll.length (ll.map lineC).flatten := by
 have kr : ∀ {y : Value} {e sz n : Nat} {xs : List Value},y ∈ sv :: iv :: bv :: xv :: lv :: vs → w.ownsRow w0.heap.size e sz y n xs → w1.ownsRow w0.heap.size e sz y n xs := fun hy hr =>
  ownsRow_upd hr u fun k hk hS => by
   have g := hr.ge k hk
   rcases hs k hS g.2 with e | e
   ·have := h.cl.1;omega
   ·exact h.o _ hy k hk e
 exact ⟨h.u.comp ((Upd.refl (fun b => b = c ∨ w0.heap.size ≤ b) w).comp u (T := fun b => b = c ∨ w0.heap.size ≤ b) fun b hb hS => hS.elim id fun hS => (hs b hS hb).imp id fun e => h.d b e) fun b _ h => h.elim id id,
  kr zd h.s,kr zd h.i,kr zd h.b,⟨h.bl.1,fun j x hx => by
   obtain ⟨v,e1,e2⟩ := h.bl.2 j x hx
   exact ⟨v,e1,kr qh e2⟩⟩,kr zd h.l⟩
def staP (c : Cu) (k : Nat) : List Value := .int .i64 ((c.u 1).1 : Int) :: .int .u32 (((cuA c).u 4).1 : Int) :: .int .u32 (((cuB c).u 4).1 : Int) :: (regV (regsC (cuC c) k).1 ++ List.replicate (32 - k) (.int .u32 0))
theorem lsetMid {x v : Value} {r : List Value} : ∀ p : List Value,LSet (p ++ x :: r) p.length v (p ++ v :: r)
 | [] => .z
 | _ :: p => .s (lsetMid p)
theorem staP_set (c : Cu) {k : Nat} (hk : k < 32) : LSet (staP c k) (3 + (k : Int).toNat * 1) (.int .u32 (((regsC (cuC c) k).2.u 4).1 : Int)) (staP c (k + 1)) := by
 have h := lsetMid (x := .int .u32 0) (v := .int .u32 (((regsC (cuC c) k).2.u 4).1 : Int)) (r := List.replicate (32 - (k + 1)) (.int .u32 0)) (.int .i64 ((c.u 1).1 : Int) :: .int .u32 (((cuA c).u 4).1 : Int) :: .int .u32 (((cuB c).u 4).1 : Int) :: regV (regsC (cuC c) k).1)
 have hl : (Value.int .i64 ((c.u 1).1 : Int) :: .int .u32 (((cuA c).u 4).1 : Int) :: .int .u32 (((cuB c).u 4).1 : Int) :: regV (regsC (cuC c) k).1).length = 3 + (k : Int).toNat * 1 := by
  simp only [List.length_cons,regV,List.length_map,regsC_len,Int.toNat_natCast];omega
 rw [hl] at h
 have e1 : staP c k = (Value.int .i64 ((c.u 1).1 : Int) :: .int .u32 (((cuA c).u 4).1 : Int) :: .int .u32 (((cuB c).u 4).1 : Int) :: regV (regsC (cuC c) k).1) ++ (.int .u32 0 :: List.replicate (32 - (k + 1)) (.int .u32 0)) := by
  rw [← List.replicate_succ,show 32 - (k + 1) + 1 = 32 - k by omega];rfl
 have e2 : staP c (k + 1) = (Value.int .i64 ((c.u 1).1 : Int) :: .int .u32 (((cuA c).u 4).1 : Int) :: .int .u32 (((cuB c).u 4).1 : Int) :: regV (regsC (cuC c) k).1) ++ (.int .u32 (((regsC (cuC c) k).2.u 4).1 : Int) :: List.replicate (32 - (k + 1)) (.int .u32 0)) := by
  unfold staP
  rw [show (regsC (cuC c) (k + 1)).1 = (regsC (cuC c) k).1 ++ [((regsC (cuC c) k).2.u 4).1] from rfl]
  simp [regV]
 rw [e1,e2]
 exact h
theorem staP_end (c : Cu) : staP c 32 = (staC c).cells := by
 unfold staP Sta.cells staC
 simp
theorem sState (ca : Nat) (src : Value) (all : List UInt8) (cu : Cu) (n : Nat) (w : World) (h : CurS w ca src all cu) (hsb : ∀ k,src.ownBlock = some k → all ≠ [] → k < w.heap.size) (hn : n < 256) :
  Calls Tryz.prog 102 #[.pointer (some ⟨ca,0,none⟩),.int .i64 (n : Int)] w fun e w' => SnAns w w' (stateC n cu) e ∧ Upd (fun k => k = ca ∨ w.heap.size ≤ k) w w' := by
 refine enter (args := [_,_]) (Γ := [(0,_),(1,_)]) Tryz.func102 Tryz.ntmps102 rfl odq (.cons rfl (.cons rfl .nil)) ?_
 repeat' first | refine Wl.move rfl rfl ?_ | refine Wl.assign rfl rfl ?_ | (apply Wl.alloc;exact rfl;intro c hc ho) | apply Wl.nil | apply St.seq | apply St.region | apply Gt.next
 rename_i c4 hc4 ho4
 generalize c = c6 at *
 have hS : R4 w w ca src all [c6,c4] cu [] [] [] [] [] (.slice none 0 0) (.slice none 0 0) (.slice none 0 0) (.slice none 0 0) (.slice none 0 0) [] :=
  R4.new (R4.new ⟨Upd.refl _ _,⟨h.lt,hsb⟩,h,World.ownsRow_nil _ _ _ _,World.ownsRow_nil _ _ _ _,World.ownsRow_nil _ _ _ _,⟨rfl,fun _ _ e => by simp at e⟩,World.ownsRow_nil _ _ _ _,World.ownsRow_nil _ _ _ _,fun y hy k hk => (by intro h;cases h),fun _ h => (by cases h),fun _ h => (by cases h)⟩ hc4) hc
 apply Wl.callC
 ·exact rfl
 ·exact kd
 intro wq hq
 have hS := hS.hp hq rfl
 refine (cuU8 ca src all _ wq hS.cur).mono ?_
 rintro e w1 ⟨rfl,h1,u1⟩
 have hH := hS.hpc hq rfl u1
 have hS := hS.turn h1 u1
 refine ⟨_,_,rfl,hH,?_⟩
 clear hq h1 u1 hH
 try simp only at hS
 by_cases h0 : (cu.u 1).1 = n
 ·have hd : decide (((cu.u 1).1 : Int) ≠ (n : Int)) = false := by rw [h0];simp
  repeat' first | refine Wl.move rfl rfl ?_ | refine Wl.neq rfl rfl rfl ?_ | apply Wl.nil | (apply St.condF;exact rfl;exact k5) | apply St.skip | apply Gt.next
  refine St.cut (σ := World) (fun wc => R4 w wc ca src all [c6,c4] ((cu.u 1).2.u 1).2 [] [] [] [] [] (.slice none 0 0) (.slice none 0 0) (.slice none 0 0) (.slice none 0 0) (.slice none 0 0) [])
   (fun _ => [(0,.pointer (some ⟨ca,0,none⟩)),(1,.int .i64 (n : Int)),(4,.pointer (some ⟨c4,0,none⟩)),(5,.bool false),(6,.pointer (some ⟨c6,0,none⟩))]) (fun wc => Hp wc [⟨c6,[.int .i64 (turnC ((cu.u 1).2.u 1).1),.slice none 0 0,.slice none 0 0,.slice none 0 0,.slice none 0 0,.pointer none],54⟩,⟨c4,[.int .i64 0,.slice none 0 0,.slice none 0 0,.slice none 0 0,.slice none 0 0,.pointer none],54⟩]) ?_ ?_
  ·repeat' first | refine Wl.move rfl rfl ?_ | apply St.seq | apply St.region
   apply Wl.callC
   ·exact rfl
   ·exact kd
   intro wq hq
   have hS := hS.hp hq rfl
   refine (cuU8 ca src all _ wq hS.cur).mono ?_
   rintro e w1 ⟨rfl,h1,u1⟩
   have hH := hS.hpc hq rfl u1
   have hS := hS.turn h1 u1
   refine ⟨_,_,rfl,hH,?_⟩
   clear hq h1 u1 hH
   try simp only at hS
   by_cases h255 : ((cu.u 1).2.u 1).1 = 255
   ·have hd2 : decide ((((cu.u 1).2.u 1).1 : Int) = 255) = true := by rw [h255];rfl
    have et : turnC ((cu.u 1).2.u 1).1 = -1 := if_pos h255
    rw [et]
    repeat' first | refine Wl.fieldAddr0 rfl rfl ?_ | (apply Wl.loadH;exact rfl;exact rfl;exact kd;exact rfl) | refine Wl.eql rfl rfl rfl ?_ | (apply Wl.store;exact rfl;exact rfl;exact rfl;exact kd;exact ki) | apply Wl.nil | apply St.seq | apply St.region | (apply St.condT;exact rfl;exact k5) | apply Gt.next
    exact Gt.meet w1 hS kq (fun _ h => h)
   ·have hd2 : decide ((((cu.u 1).2.u 1).1 : Int) = 255) = false := by simp;omega
    have et : turnC ((cu.u 1).2.u 1).1 = (((cu.u 1).2.u 1).1 : Int) := if_neg h255
    rw [et]
    repeat' first | refine Wl.fieldAddr0 rfl rfl ?_ | (apply Wl.loadH;exact rfl;exact rfl;exact kd;exact rfl) | refine Wl.eql rfl rfl rfl ?_ | (apply Wl.store;exact rfl;exact rfl;exact rfl;exact kd;exact ki) | apply Wl.nil | apply St.seq | apply St.region | (apply St.condF;exact rfl;exact k5) | apply St.skip | apply Gt.next
    exact Gt.meet w1 hS kq (fun _ h => h)
  clear hS
  intro wc hS
  try simp only at hS ⊢
  generalize htt : turnC ((cu.u 1).2.u 1).1 = tt
  generalize hcu3 : ((cu.u 1).2.u 1).2 = cu3 at *
  have hno : rowsC n n ⟨[],[],[]⟩ cu3 = none → stateC n cu = none := fun e => by unfold stateC;rw [if_pos h0,hcu3,e]
  refine St.cut (σ := World × Cu × Rws × Value × Value × Value × List Value) (fun τ => R4 w τ.1 ca src all [c6,c4] τ.2.1 τ.2.2.1.L τ.2.2.1.ins τ.2.2.1.bx [] [] τ.2.2.2.1 τ.2.2.2.2.1 τ.2.2.2.2.2.1 (.slice none 0 0) (.slice none 0 0) τ.2.2.2.2.2.2 ∧ rowsC n n ⟨[],[],[]⟩ cu3 = some (τ.2.2.1,τ.2.1) ∧ τ.2.2.1.L.length = n ∧ τ.2.2.1.ins.length = n ∧ τ.2.2.1.bx.length = n)
   (fun _ => [(0,.pointer (some ⟨ca,0,none⟩)),(1,.int .i64 (n : Int)),(4,.pointer (some ⟨c4,0,none⟩)),(5,.bool false),(6,.pointer (some ⟨c6,0,none⟩))]) (fun τ => Hp τ.1 [⟨c6,[.int .i64 tt,τ.2.2.2.1,τ.2.2.2.2.1,τ.2.2.2.2.2.1,.slice none 0 0,.pointer none],54⟩,⟨c4,[.int .i64 0,.slice none 0 0,.slice none 0 0,.slice none 0 0,.slice none 0 0,.pointer none],54⟩]) ?_ ?_
  ·apply St.seq
   repeat' first | refine Wl.move rfl rfl ?_ | apply Wl.nil | apply St.block | apply St.region | apply Gt.next
   refine St.loop (σ := Nat × World × Cu × Rws × Value × Value × Value × List Value) (fun τ => τ.1 ≤ n ∧ R4 w τ.2.1 ca src all [c6,c4] τ.2.2.1 τ.2.2.2.1.L τ.2.2.2.1.ins τ.2.2.2.1.bx [] [] τ.2.2.2.2.1 τ.2.2.2.2.2.1 τ.2.2.2.2.2.2.1 (.slice none 0 0) (.slice none 0 0) τ.2.2.2.2.2.2.2 ∧ rowsC n n ⟨[],[],[]⟩ cu3 = rowsC n (n - τ.1) τ.2.2.2.1 τ.2.2.1 ∧ τ.2.2.2.1.L.length = τ.1 ∧ τ.2.2.2.1.ins.length = τ.1 ∧ τ.2.2.2.1.bx.length = τ.1)
    (fun τ => [(0,.pointer (some ⟨ca,0,none⟩)),(1,.int .i64 (n : Int)),(4,.pointer (some ⟨c4,0,none⟩)),(5,.bool false),(6,.pointer (some ⟨c6,0,none⟩)),(34,.int .i64 (n : Int)),(35,.int .i64 (τ.1 : Int))]) (fun τ => Hp τ.2.1 [⟨c6,[.int .i64 tt,τ.2.2.2.2.1,τ.2.2.2.2.2.1,τ.2.2.2.2.2.2.1,.slice none 0 0,.pointer none],54⟩,⟨c4,[.int .i64 0,.slice none 0 0,.slice none 0 0,.slice none 0 0,.slice none 0 0,.pointer none],54⟩]) (fun τ => n - τ.1)
    (0,wc,cu3,⟨[],[],[]⟩,.slice none 0 0,.slice none 0 0,.slice none 0 0,[]) ⟨Nat.zero_le _,hS,rfl,rfl,rfl,rfl⟩ kq (fun _ h => h) ?_
   clear hS
   rintro ⟨j,wj,cj,r,sv,iv,bv,vs⟩ ⟨hj,hS,hrw,hl1,hl2,hl3⟩
   simp only at hj hS hrw hl1 hl2 hl3 ⊢
   by_cases hlt : j < n
   ·have hdj : decide ((j : Int) < (n : Int)) = true := decide_eq_true kc
    obtain ⟨q,hq⟩ : ∃ q,n - j = q + 1 := ⟨n - j - 1,by omega⟩
    rw [hq] at hrw
    repeat' first | refine Wl.move rfl rfl ?_ | refine Wl.lss rfl rfl rfl ?_ | apply Wl.nil | apply St.seq | apply St.block | apply St.region | (apply St.condT;exact rfl;exact k5) | apply St.skip | apply Gt.next
    apply Wl.callC
    ·exact rfl
    ·exact kd
    intro wq hq
    have hS := hS.hp hq rfl
    refine (cuU8 ca src all _ wq hS.cur).mono ?_
    rintro e w1 ⟨rfl,h1,u1⟩
    have hH := hS.hpc hq rfl u1
    have hS := hS.turn h1 u1
    refine ⟨_,_,rfl,hH,?_⟩
    clear hq h1 u1 hH
    try simp only at hS
    repeat' first | refine Wl.move rfl rfl ?_
    apply Wl.callC
    ·exact rfl
    ·exact kd
    intro wq hq
    have hS := hS.hp hq rfl
    refine (cuU32 ca src all _ wq hS.cur).mono ?_
    rintro e w1 ⟨rfl,h1,u1⟩
    have hH := hS.hpc hq rfl u1
    have hS := hS.turn h1 u1
    refine ⟨_,_,rfl,hH,?_⟩
    clear hq h1 u1 hH
    try simp only at hS
    repeat' first | refine Wl.move rfl rfl ?_
    apply Wl.callC
    ·exact rfl
    ·exact kd
    intro wq hq
    have hS := hS.hp hq rfl
    refine (cuU32 ca src all _ wq hS.cur).mono ?_
    rintro e w1 ⟨rfl,h1,u1⟩
    have hH := hS.hpc hq rfl u1
    have hS := hS.turn h1 u1
    refine ⟨_,_,rfl,hH,?_⟩
    clear hq h1 u1 hH
    try simp only at hS
    repeat' first | refine Wl.move rfl rfl ?_ | (apply Wl.storeA;exact rfl;exact rfl;exact rfl;exact rfl;exact kd;exact kn) | (apply Wl.buildS;exact rfl;exact kj;exact ka) | (apply Wl.alloc;exact rfl;intro c hc ho) | apply Wl.nil | apply St.seq | apply St.block | apply St.region | apply Gt.next
    generalize c = c7 at *
    have hS := hS.new hc
    have hcB : ((((cj.u 1).2).u 4).2.u 4).2 = cuC cj := rfl
    rw [hcB] at hS
    refine St.loop (σ := Nat × World × Cu) (fun τ => τ.1 ≤ 32 ∧ R4 w τ.2.1 ca src all [c7,c6,c4] τ.2.2 r.L r.ins r.bx [] [] sv iv bv (.slice none 0 0) (.slice none 0 0) vs ∧ τ.2.2 = (regsC (cuC cj) τ.1).2)
     (fun τ => [(0,.pointer (some ⟨ca,0,none⟩)),(1,.int .i64 (n : Int)),(4,.pointer (some ⟨c4,0,none⟩)),(5,.bool false),(6,.pointer (some ⟨c6,0,none⟩)),(34,.int .i64 (n : Int)),(35,.int .i64 (j : Int)),(7,.pointer (some ⟨c7,0,none⟩)),(44,.int .i64 (τ.1 : Int))])
     (fun τ => Hp τ.2.1 [⟨c7,staP cj τ.1,44⟩,⟨c6,[.int .i64 tt,sv,iv,bv,.slice none 0 0,.pointer none],54⟩,⟨c4,[.int .i64 0,.slice none 0 0,.slice none 0 0,.slice none 0 0,.slice none 0 0,.pointer none],54⟩]) (fun τ => 32 - τ.1)
     (0,_,cuC cj) ⟨Nat.zero_le _,hS,rfl⟩ kq (fun _ h => h) ?_
    clear hS
    rintro ⟨k,wk,ck⟩ ⟨hk,hS,hck⟩
    try simp only at hk hS hck ⊢
    subst hck
    by_cases hk32 : k < 32
    ·have hdk : decide ((k : Int) < 32) = true := decide_eq_true kc
     repeat' first | refine Wl.move rfl rfl ?_ | refine Wl.assign rfl rfl ?_ | refine Wl.lss rfl rfl rfl ?_ | apply Wl.nil | apply St.seq | apply St.block | apply St.region | (apply St.condT;exact rfl;exact k5) | apply St.skip | apply Gt.next
     apply Wl.callC
     ·exact rfl
     ·exact kd
     intro wq hq
     have hS := hS.hp hq rfl
     refine (cuU32 ca src all _ wq hS.cur).mono ?_
     rintro e w1 ⟨rfl,h1,u1⟩
     have hH := hS.hpc hq rfl u1
     have hS := hS.turn h1 u1
     refine ⟨_,_,rfl,hH,?_⟩
     clear hq h1 u1 hH
     try simp only at hS
     repeat' first | (apply Wl.store;exact rfl;exact rfl;exact rfl;exact kd;exact staP_set cj hk32) | refine Wl.move rfl rfl ?_ | refine Wl.fieldAddrZ rfl rfl ?_ | (refine Wl.addI rfl rfl rfl ?_ ?_;constructor <;> omega) | (refine Wl.indexArr rfl rfl rfl ?_ ?_;constructor <;> omega) | apply Wl.nil | apply St.region | apply Gt.next | apply Gt.inNormal
     exact Gt.round (k + 1,w1,(regsC (cuC cj) (k + 1)).2) ⟨hk32,hS,rfl⟩ ky kq (fun _ h => h)
    ·obtain rfl : k = 32 := by omega
     have hdk : decide (((32 : Nat) : Int) < 32) = false := by decide
     rw [staP_end]
     repeat' first | refine Wl.move rfl rfl ?_ | refine Wl.lss rfl rfl rfl ?_ | apply Wl.nil | apply St.seq | apply St.region | (apply St.condF;exact rfl;exact k5) | apply St.exit | apply Gt.next | apply Gt.thenExit | apply Gt.inExit
     apply Wl.callC
     ·exact rfl
     ·exact kd
     intro wq hq
     have hS := hS.hp hq rfl
     refine (sGet ca src all _ 64 wq hS.cur).mono ?_
     rintro e w1 ⟨rfl,h1,u1⟩
     have hH := hS.hpc hq rfl u1
     have hS := hS.turn h1 u1
     refine ⟨_,_,rfl,hH,?_⟩
     clear hq h1 u1 hH
     try simp only at hS
     rw [show (regsC (cuC cj) 32).2 = cuD cj from rfl] at hS ⊢
     rcases hg : getC (cuD cj) 64 with ⟨⟨gs,gb⟩,cg⟩
     rw [hg] at hS
     simp only at hS ⊢
     repeat' first | refine Wl.move rfl rfl ?_ | refine Wl.assign rfl rfl ?_ | refine Wl.extract rfl rfl rfl ?_ | apply Wl.nil | apply St.seq | apply St.region | apply Gt.next
     apply Wl.callC
     ·exact rfl
     ·exact kd
     intro wq hq
     have hS := hS.hp hq rfl
     refine (cuU8 ca src all _ wq hS.cur).mono ?_
     rintro e w1 ⟨rfl,h1,u1⟩
     have hH := hS.hpc hq rfl u1
     have hS := hS.turn h1 u1
     refine ⟨_,_,rfl,hH,?_⟩
     clear hq h1 u1 hH
     try simp only at hS
     have o1 := hS.s.one
     have o2 := hS.i.one
     have o3 := hS.b.one
     have hrn : rowC n cj = none → stateC n cu = none := fun e => hno (by rw [hrw];exact rowsC_no e)
     cases gb
     ·have e0 : stateC n cu = none := hrn (rowC_no hg zd)
      repeat' first | (apply Wl.storeA;exact rfl;exact rfl;exact rfl;(show (true && (Value.oneCell' sv && (Value.oneCell' iv && (Value.oneCell' bv && (true && (true && true)))))) = true;rw [o1,o2,o3];rfl);exact kd;exact .z (LOver.whole rfl)) | refine Wl.move rfl rfl ?_ | refine Wl.assign rfl rfl ?_ | (apply Wl.off;exact rfl;exact rfl;exact rfl;exact kh) | (apply Wl.pickT;exact rfl;exact rfl;exact k5;exact rfl) | refine Wl.not rfl rfl ?_ | (apply Wl.loadAH;exact rfl;exact rfl;exact kd;exact kd) | apply Wl.nil | apply St.seq | apply St.region | (apply St.condT;exact rfl;exact k5) | apply St.ret | apply Gt.next | apply Gt.thenRet | apply Gt.inRet
      apply Gt.outCT
      ·exact rfl
      ·infer_instance
      ·exact rfl
      ·exact rfl
      ·exact kd
      ·exact LSub.whole rfl
      intro w' hp
      exact ⟨by rw [e0];exact ⟨_,_,_,_,_,_,rfl,by simp only [List.all_cons,List.all_nil,hS.s.one,hS.i.one,hS.b.one,hS.l.one];rfl⟩,(hS.hp hp rfl).u⟩
     by_cases h4 : 4 < (cg.u 1).1
     ·have e0 : stateC n cu = none := hrn (rowC_no hg fun h => by have := h.2;omega)
      have hd4 : decide ((4 : Int) < ((cg.u 1).1 : Int)) = true := decide_eq_true kc
      repeat' first | (apply Wl.storeA;exact rfl;exact rfl;exact rfl;(show (true && (Value.oneCell' sv && (Value.oneCell' iv && (Value.oneCell' bv && (true && (true && true)))))) = true;rw [o1,o2,o3];rfl);exact kd;exact .z (LOver.whole rfl)) | refine Wl.move rfl rfl ?_ | refine Wl.assign rfl rfl ?_ | (apply Wl.on;exact rfl;exact rfl;exact k5) | (apply Wl.pickF;exact rfl;exact rfl;exact k5;exact rfl) | refine Wl.not rfl rfl ?_ | refine Wl.gtr rfl rfl rfl ?_ | (apply Wl.loadAH;exact rfl;exact rfl;exact kd;exact kd) | apply Wl.nil | apply St.seq | apply St.region | (apply St.condT;exact rfl;exact k5) | apply St.ret | apply Gt.next | apply Gt.thenRet | apply Gt.inRet
      apply Gt.outCT
      ·exact rfl
      ·infer_instance
      ·exact rfl
      ·exact rfl
      ·exact kd
      ·exact LSub.whole rfl
      intro w' hp
      exact ⟨by rw [e0];exact ⟨_,_,_,_,_,_,rfl,by simp only [List.all_cons,List.all_nil,hS.s.one,hS.i.one,hS.b.one,hS.l.one];rfl⟩,(hS.hp hp rfl).u⟩
     have hd4 : decide ((4 : Int) < ((cg.u 1).1 : Int)) = false := decide_eq_false kc
     have hbn : boxC n (cg.u 1).1 [] (cg.u 1).2 = none → stateC n cu = none := fun e => hrn (by rw [rowC_bx hg kc,e])
     repeat' first | refine Wl.move rfl rfl ?_ | refine Wl.assign rfl rfl ?_ | (apply Wl.on;exact rfl;exact rfl;exact k5) | (apply Wl.pickF;exact rfl;exact rfl;exact k5;exact rfl) | refine Wl.not rfl rfl ?_ | refine Wl.gtr rfl rfl rfl ?_ | apply Wl.nil | apply St.seq | apply St.block | apply St.region | (apply St.condF;exact rfl;exact k5) | apply St.skip | apply Gt.next
     refine St.loop (σ := Nat × World × Cu × Value × List (Int × List UInt8)) (fun τ => τ.1 ≤ (cg.u 1).1 ∧ R4 w τ.2.1 ca src all [c7,c6,c4] τ.2.2.1 r.L r.ins r.bx τ.2.2.2.2 [] sv iv bv τ.2.2.2.1 (.slice none 0 0) vs ∧ boxC n (cg.u 1).1 [] (cg.u 1).2 = boxC n ((cg.u 1).1 - τ.1) τ.2.2.2.2 τ.2.2.1 ∧ τ.2.2.2.2.length = τ.1)
      (fun τ => [(0,.pointer (some ⟨ca,0,none⟩)),(1,.int .i64 (n : Int)),(4,.pointer (some ⟨c4,0,none⟩)),(5,.bool false),(6,.pointer (some ⟨c6,0,none⟩)),(34,.int .i64 (n : Int)),(35,.int .i64 (j : Int)),(7,.pointer (some ⟨c7,0,none⟩)),(9,strV gs),(12,τ.2.2.2.1),(67,.int .i64 ((cg.u 1).1 : Int)),(68,.int .i64 (τ.1 : Int))])
      (fun τ => Hp τ.2.1 [⟨c7,(staC cj).cells,44⟩,⟨c6,[.int .i64 tt,sv,iv,bv,.slice none 0 0,.pointer none],54⟩,⟨c4,[.int .i64 0,.slice none 0 0,.slice none 0 0,.slice none 0 0,.slice none 0 0,.pointer none],54⟩]) (fun τ => (cg.u 1).1 - τ.1)
      (0,_,(cg.u 1).2,.slice none 0 0,[]) ⟨Nat.zero_le _,hS,rfl,rfl⟩ kq (fun _ h => h) ?_
     clear hS
     rintro ⟨i,wi,ci,xv,xl⟩ ⟨hi,hS,hbx,hxl⟩
     try simp only at hi hS hbx hxl ⊢
     by_cases him : i < (cg.u 1).1
     ·have hdi : decide ((i : Int) < ((cg.u 1).1 : Int)) = true := decide_eq_true kc
      obtain ⟨q2,hq2⟩ : ∃ q,(cg.u 1).1 - i = q + 1 := ⟨(cg.u 1).1 - i - 1,by omega⟩
      rw [hq2] at hbx
      repeat' first | refine Wl.move rfl rfl ?_ | refine Wl.lss rfl rfl rfl ?_ | apply Wl.nil | apply St.seq | apply St.block | apply St.region | (apply St.condT;exact rfl;exact k5) | apply St.skip | apply Gt.next
      apply Wl.callC
      ·exact rfl
      ·exact kd
      intro wq hq
      have hS := hS.hp hq rfl
      refine (cuU8 ca src all _ wq hS.cur).mono ?_
      rintro e w1 ⟨rfl,h1,u1⟩
      have hH := hS.hpc hq rfl u1
      have hS := hS.turn h1 u1
      refine ⟨_,_,rfl,hH,?_⟩
      clear hq h1 u1 hH
      try simp only at hS
      repeat' first | refine Wl.move rfl rfl ?_ | refine Wl.assign rfl rfl ?_ | apply Wl.nil | apply St.seq | apply St.region | apply Gt.next
      apply Wl.callC
      ·exact rfl
      ·exact kd
      intro wq hq
      have hS := hS.hp hq rfl
      refine (sGet ca src all _ 16 wq hS.cur).mono ?_
      rintro e w1 ⟨rfl,h1,u1⟩
      have hH := hS.hpc hq rfl u1
      have hS := hS.turn h1 u1
      refine ⟨_,_,rfl,hH,?_⟩
      clear hq h1 u1 hH
      try simp only at hS
      rcases hg2 : getC (ci.u 1).2 16 with ⟨⟨ts,tb⟩,ct⟩
      rw [hg2] at hS
      simp only at hS ⊢
      have hbn2 : ¬ (tb = true ∧ (ci.u 1).1 < n ∧ ts ≠ []) → stateC n cu = none := fun e => hbn (by rw [hbx];exact boxC_no hg2 e)
      cases tb
      ·have e0 := hbn2 zd
       repeat' first | (apply Wl.storeA;exact rfl;exact rfl;exact rfl;(show (true && (Value.oneCell' sv && (Value.oneCell' iv && (Value.oneCell' bv && (true && (true && true)))))) = true;rw [o1,o2,o3];rfl);exact kd;exact .z (LOver.whole rfl)) | refine Wl.move rfl rfl ?_ | refine Wl.assign rfl rfl ?_ | (apply Wl.off;exact rfl;exact rfl;exact rfl;exact kh) | refine Wl.extract rfl rfl rfl ?_ | (apply Wl.pickT;exact rfl;exact rfl;exact k5;exact rfl) | refine Wl.not rfl rfl ?_ | (apply Wl.loadAH;exact rfl;exact rfl;exact kd;exact kd) | apply Wl.nil | apply St.seq | apply St.region | (apply St.condT;exact rfl;exact k5) | apply St.ret | apply Gt.next | apply Gt.thenRet | apply Gt.inRet
       apply Gt.outCT
       ·exact rfl
       ·infer_instance
       ·exact rfl
       ·exact rfl
       ·exact kd
       ·exact LSub.whole rfl
       intro w' hp
       exact ⟨by rw [e0];exact ⟨_,_,_,_,_,_,rfl,by simp only [List.all_cons,List.all_nil,hS.s.one,hS.i.one,hS.b.one,hS.l.one];rfl⟩,(hS.hp hp rfl).u⟩
      by_cases hw : (ci.u 1).1 < n
      ·have hdw : decide (((ci.u 1).1 : Int) ≥ (n : Int)) = false := decide_eq_false kc
       by_cases hts : ts = []
       ·have hds : decide (ts = []) = true := decide_eq_true hts
        have e0 := hbn2 (fun h => h.2.2 hts)
        repeat' first | (apply Wl.storeA;exact rfl;exact rfl;exact rfl;(show (true && (Value.oneCell' sv && (Value.oneCell' iv && (Value.oneCell' bv && (true && (true && true)))))) = true;rw [o1,o2,o3];rfl);exact kd;exact .z (LOver.whole rfl)) | refine Wl.move rfl rfl ?_ | refine Wl.assign rfl rfl ?_ | (apply Wl.on;exact rfl;exact rfl;exact k5) | refine Wl.extract rfl rfl rfl ?_ | (apply Wl.pickF;exact rfl;exact rfl;exact k5;exact rfl) | refine Wl.not rfl rfl ?_ | refine Wl.geq rfl rfl rfl ?_ | refine Wl.eqlSB rfl rfl rfl ?_ | (apply Wl.loadAH;exact rfl;exact rfl;exact kd;exact kd) | apply Wl.nil | apply St.seq | apply St.region | (apply St.condT;exact rfl;exact k5) | apply St.ret | apply Gt.next | apply Gt.thenRet | apply Gt.inRet
        apply Gt.outCT
        ·exact rfl
        ·infer_instance
        ·exact rfl
        ·exact rfl
        ·exact kd
        ·exact LSub.whole rfl
        intro w' hp
        exact ⟨by rw [e0];exact ⟨_,_,_,_,_,_,rfl,by simp only [List.all_cons,List.all_nil,hS.s.one,hS.i.one,hS.b.one,hS.l.one];rfl⟩,(hS.hp hp rfl).u⟩
       ·have hds : decide (ts = []) = false := decide_eq_false hts
        repeat' first | refine Wl.move rfl rfl ?_ | refine Wl.assign rfl rfl ?_ | (apply Wl.on;exact rfl;exact rfl;exact k5) | refine Wl.extract rfl rfl rfl ?_ | (apply Wl.pickF;exact rfl;exact rfl;exact k5;exact rfl) | refine Wl.not rfl rfl ?_ | refine Wl.geq rfl rfl rfl ?_ | refine Wl.eqlSB rfl rfl rfl ?_ | (apply Wl.buildS;exact rfl;exact kj;exact ka) | (apply Wl.lit;exact rfl;exact kj;exact rfl;exact rfl;exact ke;intro c hc ho) | apply Wl.nil | apply St.seq | apply St.region | (apply St.condF;exact rfl;exact k5) | apply St.skip | apply Gt.next
        apply Wl.appendT (base := w.heap.size) (n := xl.length) (m := 1) (sz := 2) (e := 78) (xs := (xl.map lineC).flatten)
        ·exact rfl
        ·exact rfl
        ·exact rfl
        ·assumption
        ·exact rfl
        ·exact hS.x
        ·exact fun k hk => off_in (hS.o xv zd k hk)
        ·exact rfl
        ·exact rfl
        ·decide
        ·unfold maxLen;omega
        ·omega
        ·exact hS.u.size
        intro xv' w5 a1 a2 a3 a4
        have hS := hS.gx (z := ((((ci.u 1).1 : Nat) : Int),ts)) rfl a1 a2 a4
        clear a1 a2 a3 a4
        repeat' first | refine Wl.move rfl rfl ?_ | refine Wl.assign rfl rfl ?_ | (refine Wl.addI rfl rfl rfl ?_ ?_;constructor <;> omega) | apply Wl.nil | apply St.region | apply Gt.next | apply Gt.inNormal
        exact Gt.round (i + 1,w5,ct,xv',xl ++ [((((ci.u 1).1 : Nat) : Int),ts)]) ⟨by simp only;omega,hS,(by rw [hbx,boxC_so hg2 ⟨hw,hts⟩];simp only;rw [show (cg.u 1).1 - (i + 1) = q2 by omega]),by rw [List.length_append,hxl];rfl⟩ ky kq (fun _ h => h)
      ·have hdw : decide (((ci.u 1).1 : Int) ≥ (n : Int)) = true := decide_eq_true kc
       have e0 := hbn2 (fun h => hw h.2.1)
       repeat' first | (apply Wl.storeA;exact rfl;exact rfl;exact rfl;(show (true && (Value.oneCell' sv && (Value.oneCell' iv && (Value.oneCell' bv && (true && (true && true)))))) = true;rw [o1,o2,o3];rfl);exact kd;exact .z (LOver.whole rfl)) | refine Wl.move rfl rfl ?_ | refine Wl.assign rfl rfl ?_ | (apply Wl.on;exact rfl;exact rfl;exact k5) | (apply Wl.off;exact rfl;exact rfl;exact rfl;exact kh) | refine Wl.extract rfl rfl rfl ?_ | (apply Wl.pickT;exact rfl;exact rfl;exact k5;exact rfl) | (apply Wl.pickF;exact rfl;exact rfl;exact k5;exact rfl) | refine Wl.not rfl rfl ?_ | refine Wl.geq rfl rfl rfl ?_ | (apply Wl.loadAH;exact rfl;exact rfl;exact kd;exact kd) | apply Wl.nil | apply St.seq | apply St.region | (apply St.condT;exact rfl;exact k5) | apply St.ret | apply Gt.next | apply Gt.thenRet | apply Gt.inRet
       apply Gt.outCT
       ·exact rfl
       ·infer_instance
       ·exact rfl
       ·exact rfl
       ·exact kd
       ·exact LSub.whole rfl
       intro w' hp
       exact ⟨by rw [e0];exact ⟨_,_,_,_,_,_,rfl,by simp only [List.all_cons,List.all_nil,hS.s.one,hS.i.one,hS.b.one,hS.l.one];rfl⟩,(hS.hp hp rfl).u⟩
     ·obtain hie : i = (cg.u 1).1 := by omega
      have hdi : decide ((i : Int) < ((cg.u 1).1 : Int)) = false := decide_eq_false kc
      rw [hie,Nat.sub_self] at hbx
      have hrs : rowC n cj = some ((staC cj,gs,xl),ci) := by rw [rowC_bx hg kc,hbx];rfl
      repeat' first | refine Wl.lss rfl rfl rfl ?_ | apply Wl.nil | apply St.seq | apply St.region | (apply St.condF;exact rfl;exact k5) | apply St.exit | apply Gt.next | apply Gt.thenExit | apply Gt.inExit
      have hxone := hS.x.one
      have hxl35 : (staC cj).cells.length = 35 := by simp [Sta.cells,staC,regV,regsC_len]
      have hx1 : (staC cj).cells.all Value.oneCell' = true := by simp [Sta.cells,staC,regV,Value.oneCell']
      have hrw2 := hrw
      refine St.treeK 16 (fun w' => w'.heap[c6]? = some (.cells ([.int .i64 tt,sv,iv,bv,.slice none 0 0,.pointer none] : List Value).toArray 54 (0,0)) ∧ w'.heap[c7]? = some (.cells (staC cj).cells.toArray 44 (0,0))) mixed (fun _ h' => ⟨Hp.drew h',own_c (Hp.drew h').own k7,own_c (Hp.drew h').own k7⟩) ?_
      refine Mtk.pureT 0 kb kf kf kb kb kf ?_
      repeat' first | refine Wl.fieldAddrZ rfl rfl ?_ | apply Wl.nilM
      apply Mtk.back
      refine Mtk.pure 2 kb kf kf kb kb kf kb ?_
      repeat' first | (apply Wl.loadAF (xs := (staC cj).cells);exact rfl;exact rfl;exact hxl35;(intro w' h' q v hq';rw [addLit];exact cell_of h'.2 (by simpa using hq'))) | apply Wl.nilM
      apply Mtk.back
      refine Mtk.pureT 5 kb kf kf kb kb kf ?_
      repeat' first | refine Wl.fieldAddrZ rfl rfl ?_ | apply Wl.nilM
      apply Mtk.back
      refine Mtk.pureT 7 kb kf kf kb kb kf ?_
      repeat' first | refine Wl.move rfl rfl ?_ | apply Wl.nilM
      apply Mtk.back
      refine Mtk.pureT 10 kb kf kf kb kb kf ?_
      repeat' first | refine Wl.fieldAddrZ rfl rfl ?_ | apply Wl.nilM
      apply Mtk.back
      refine Mtk.pureT 12 kb kf kf kb kb kf ?_
      repeat' first | refine Wl.move rfl rfl ?_ | apply Wl.nilM
      apply Mtk.back
      refine Mtk.pure 1 kb kf kf kb kb kf kb ?_
      repeat' first | (apply Wl.loadF;exact rfl;exact rfl;(intro w' h';exact cell_of h'.1 rfl)) | apply Wl.nilM
      apply Mtk.back
      refine Mtk.pure 6 kb kf kf kb kb kf kb ?_
      repeat' first | (apply Wl.loadF;exact rfl;exact rfl;(intro w' h';exact cell_of h'.1 rfl)) | apply Wl.nilM
      apply Mtk.back
      refine Mtk.pure 11 kb kf kf kb kb kf kb ?_
      repeat' first | (apply Wl.loadF;exact rfl;exact rfl;(intro w' h';exact cell_of h'.1 rfl)) | apply Wl.nilM
      apply Mtk.back
      refine Mtk.eff3 (i := 3) (j := 8) (l := 13) kb kf kf kf kf kf kf ?_ ?_ ?_
      ·apply Wl.lit (cs := (staC cj).cells)
       ·exact rfl
       ·(repeat (first | exact Parts.nil | apply Parts.cons rfl))
       ·exact rfl
       ·exact rfl
       ·exact CatP.agg qf .nil (lappE _)
       intro d3 hd3 _
       have hS := hS.new hd3
       apply Wl.nil
       refine Mtk.backE (fun _ h' => ⟨own_c h'.own k7,own_c h'.own k7⟩) ?_
       refine Mtk.eff3 (i := 4) (j := 8) (l := 13) kb kf kf kf kf kf kf ?_ ?_ ?_
       ·apply Wl.appendH (base := w.heap.size) (n := r.L.length) (m := 1) (sz := 35) (e := 44) (xs := (stas r.L).flatten)
        ·exact rfl
        ·exact rfl
        ·exact rfl
        ·exact kd
        ·exact qf
        ·exact hS.s
        ·exact fun k hk => off_in (hS.o _ zd k hk)
        ·exact hx1
        ·exact rfl
        ·decide
        ·unfold maxLen;omega
        ·omega
        ·exact hS.u.size
        intro v4 w5 a1 a2 a3 a4
        have hov4 := a1.one
        have hS := hS.gs rfl a1 rfl a2 a4
        clear a1 a2 a3 a4
        apply Wl.nil
        refine Mtk.backE (fun _ h' => ⟨own_c h'.own k7,own_c h'.own k7⟩) ?_
        refine Mtk.pureT 15 kb kf kf kb kb kf ?_
        repeat' first | refine Wl.fieldAddrZ rfl rfl ?_ | apply Wl.nilM
        apply Mtk.back
        refine Mtk.eff2 (i := 8) (j := 13) kb kf kf kf kf ?_ ?_
        ·apply Wl.lit (cs := [strV gs])
         ·exact rfl
         ·(repeat (first | exact Parts.nil | apply Parts.cons rfl))
         ·exact rfl
         ·exact rfl
         ·exact CatP.one rfl rfl .nil
         intro d8 hd8 _
         have hS := hS.new hd8
         apply Wl.nil
         refine Mtk.backE (fun _ h' => ⟨own_c h'.own k7,own_c h'.own k7⟩) ?_
         refine Mtk.eff2 (i := 9) (j := 13) kb kf kf kf kf ?_ ?_
         ·apply Wl.appendH (base := w.heap.size) (n := r.ins.length) (m := 1) (sz := 1) (e := 9) (xs := (r.ins.map strV))
          ·exact rfl
          ·exact rfl
          ·exact rfl
          ·exact kd
          ·exact rfl
          ·exact hS.i
          ·exact fun k hk => off_in (hS.o _ zd k hk)
          ·exact rfl
          ·exact rfl
          ·decide
          ·unfold maxLen;omega
          ·omega
          ·exact hS.u.size
          intro v9 w5 a1 a2 a3 a4
          have hov9 := a1.one
          have hS := hS.gi rfl a1 a2 a4
          clear a1 a2 a3 a4
          apply Wl.nil
          refine Mtk.backE (fun _ h' => ⟨own_c h'.own k7,own_c h'.own k7⟩) ?_
          refine Mtk.eff1 (i := 13) kb kf kf ?_
          apply Wl.lit (cs := [xv])
          ·exact rfl
          ·(repeat (first | exact Parts.nil | apply Parts.cons rfl))
          ·exact rfl
          ·exact rfl
          ·exact CatP.one hxone rfl .nil
          intro d13 hd13 _
          have hS := hS.new hd13
          apply Wl.nil
          refine Mtk.backE (fun _ h' => ⟨own_c h'.own k7,own_c h'.own k7⟩) ?_
          refine Mtk.eff1 (i := 14) kb kf kf ?_
          apply Wl.appendH (base := w.heap.size) (n := r.bx.length) (m := 1) (sz := 1) (e := 76) (xs := vs)
          ·exact rfl
          ·exact rfl
          ·exact rfl
          ·exact kd
          ·exact rfl
          ·exact hS.b
          ·exact fun k hk => off_in (hS.o _ zd k hk)
          ·exact zb
          ·exact rfl
          ·decide
          ·unfold maxLen;omega
          ·omega
          ·exact hS.u.size
          intro v14 w5 a1 a2 a3 a4
          have hov14 := a1.one
          have hS := hS.gb rfl a1 a2 a4
          clear a1 a2 a3 a4
          apply Wl.nil
          refine Mtk.backE (fun _ h' => ⟨own_c h'.own k7,own_c h'.own k7⟩) ?_
          refine Mtk.cut kb kf ?_
          repeat' first | (apply Wl.store;exact rfl;exact rfl;exact kv;exact kd;exact ki) | apply Wl.nil
          refine Mt.backE (fun _ _ => trivial) ?_
          refine Mt.pz 17 ?_
          refine Mt.e1 18 ?_
          repeat' first | (apply Wl.store;exact rfl;exact rfl;exact kv;exact kd;exact ki) | apply Wl.nil
          refine Mt.backE (fun _ _ => trivial) ?_
          refine Mt.pz 19 ?_
          refine Mt.e1 20 ?_
          repeat' first | (apply Wl.store;exact rfl;exact rfl;exact kv;exact kd;exact ki) | apply Wl.nil
          refine Mt.backE (fun _ _ => trivial) ?_
          refine Mt.toGt kb ?_
          repeat' first | refine Wl.move rfl rfl ?_ | (refine Wl.addI rfl rfl rfl ?_ ?_;constructor <;> omega) | apply Wl.nil | apply St.region | apply Gt.next | apply Gt.inNormal
          refine Gt.reb (H' := [⟨c6,[.int .i64 tt,v4,v9,v14,.slice none 0 0,.pointer none],54⟩,⟨c4,[.int .i64 0,.slice none 0 0,.slice none 0 0,.slice none 0 0,.slice none 0 0,.pointer none],54⟩]) fun w6 h6 => ⟨h6.own.2.2.2.2,h6.apart.2.2.2.2,?_⟩
          have hS := (hS.hp h6 rfl).pop.pop.pop.pop
          exact Gt.round (j + 1,w6,ci,⟨r.L ++ [staC cj],r.ins ++ [gs],r.bx ++ [xl]⟩,v4,v9,v14,vs ++ [xv]) ⟨by simp only;omega,hS,za,by simp only [List.length_append,hl1];rfl,by simp only [List.length_append,hl2];rfl,by simp only [List.length_append,hl3];rfl⟩ ky kq (fun _ h => h)
         ·apply Wl.lit (cs := [xv])
          ·exact rfl
          ·(repeat (first | exact Parts.nil | apply Parts.cons rfl))
          ·exact rfl
          ·exact rfl
          ·exact CatP.one hxone rfl .nil
          intro d13 hd13 _
          have hS := hS.new hd13
          apply Wl.nil
          refine Mtk.backE (fun _ h' => ⟨own_c h'.own k7,own_c h'.own k7⟩) ?_
          refine Mtk.eff1 (i := 9) kb kf kf ?_
          apply Wl.appendH (base := w.heap.size) (n := r.ins.length) (m := 1) (sz := 1) (e := 9) (xs := (r.ins.map strV))
          ·exact rfl
          ·exact rfl
          ·exact rfl
          ·exact kd
          ·exact rfl
          ·exact hS.i
          ·exact fun k hk => off_in (hS.o _ zd k hk)
          ·exact rfl
          ·exact rfl
          ·decide
          ·unfold maxLen;omega
          ·omega
          ·exact hS.u.size
          intro v9 w5 a1 a2 a3 a4
          have hov9 := a1.one
          have hS := hS.gi rfl a1 a2 a4
          clear a1 a2 a3 a4
          apply Wl.nil
          refine Mtk.backE (fun _ h' => ⟨own_c h'.own k7,own_c h'.own k7⟩) ?_
          refine Mtk.eff1 (i := 14) kb kf kf ?_
          apply Wl.appendH (base := w.heap.size) (n := r.bx.length) (m := 1) (sz := 1) (e := 76) (xs := vs)
          ·exact rfl
          ·exact rfl
          ·exact rfl
          ·exact kd
          ·exact rfl
          ·exact hS.b
          ·exact fun k hk => off_in (hS.o _ zd k hk)
          ·exact zb
          ·exact rfl
          ·decide
          ·unfold maxLen;omega
          ·omega
          ·exact hS.u.size
          intro v14 w5 a1 a2 a3 a4
          have hov14 := a1.one
          have hS := hS.gb rfl a1 a2 a4
          clear a1 a2 a3 a4
          apply Wl.nil
          refine Mtk.backE (fun _ h' => ⟨own_c h'.own k7,own_c h'.own k7⟩) ?_
          refine Mtk.cut kb kf ?_
          repeat' first | (apply Wl.store;exact rfl;exact rfl;exact kv;exact kd;exact ki) | apply Wl.nil
          refine Mt.backE (fun _ _ => trivial) ?_
          refine Mt.pz 17 ?_
          refine Mt.e1 18 ?_
          repeat' first | (apply Wl.store;exact rfl;exact rfl;exact kv;exact kd;exact ki) | apply Wl.nil
          refine Mt.backE (fun _ _ => trivial) ?_
          refine Mt.pz 19 ?_
          refine Mt.e1 20 ?_
          repeat' first | (apply Wl.store;exact rfl;exact rfl;exact kv;exact kd;exact ki) | apply Wl.nil
          refine Mt.backE (fun _ _ => trivial) ?_
          refine Mt.toGt kb ?_
          repeat' first | refine Wl.move rfl rfl ?_ | (refine Wl.addI rfl rfl rfl ?_ ?_;constructor <;> omega) | apply Wl.nil | apply St.region | apply Gt.next | apply Gt.inNormal
          refine Gt.reb (H' := [⟨c6,[.int .i64 tt,v4,v9,v14,.slice none 0 0,.pointer none],54⟩,⟨c4,[.int .i64 0,.slice none 0 0,.slice none 0 0,.slice none 0 0,.slice none 0 0,.pointer none],54⟩]) fun w6 h6 => ⟨h6.own.2.2.2.2,h6.apart.2.2.2.2,?_⟩
          have hS := (hS.hp h6 rfl).pop.pop.pop.pop
          exact Gt.round (j + 1,w6,ci,⟨r.L ++ [staC cj],r.ins ++ [gs],r.bx ++ [xl]⟩,v4,v9,v14,vs ++ [xv]) ⟨by simp only;omega,hS,za,by simp only [List.length_append,hl1];rfl,by simp only [List.length_append,hl2];rfl,by simp only [List.length_append,hl3];rfl⟩ ky kq (fun _ h => h)
        ·apply Wl.lit (cs := [xv])
         ·exact rfl
         ·(repeat (first | exact Parts.nil | apply Parts.cons rfl))
         ·exact rfl
         ·exact rfl
         ·exact CatP.one hxone rfl .nil
         intro d13 hd13 _
         have hS := hS.new hd13
         apply Wl.nil
         refine Mtk.backE (fun _ h' => ⟨own_c h'.own k7,own_c h'.own k7⟩) ?_
         refine Mtk.eff1 (i := 8) kb kf kf ?_
         apply Wl.lit (cs := [strV gs])
         ·exact rfl
         ·(repeat (first | exact Parts.nil | apply Parts.cons rfl))
         ·exact rfl
         ·exact rfl
         ·exact CatP.one rfl rfl .nil
         intro d8 hd8 _
         have hS := hS.new hd8
         apply Wl.nil
         refine Mtk.backE (fun _ h' => ⟨own_c h'.own k7,own_c h'.own k7⟩) ?_
         refine Mtk.eff1 (i := 9) kb kf kf ?_
         apply Wl.appendH (base := w.heap.size) (n := r.ins.length) (m := 1) (sz := 1) (e := 9) (xs := (r.ins.map strV))
         ·exact rfl
         ·exact rfl
         ·exact rfl
         ·exact kd
         ·exact rfl
         ·exact hS.i
         ·exact fun k hk => off_in (hS.o _ zd k hk)
         ·exact rfl
         ·exact rfl
         ·decide
         ·unfold maxLen;omega
         ·omega
         ·exact hS.u.size
         intro v9 w5 a1 a2 a3 a4
         have hov9 := a1.one
         have hS := hS.gi rfl a1 a2 a4
         clear a1 a2 a3 a4
         apply Wl.nil
         refine Mtk.backE (fun _ h' => ⟨own_c h'.own k7,own_c h'.own k7⟩) ?_
         refine Mtk.eff1 (i := 14) kb kf kf ?_
         apply Wl.appendH (base := w.heap.size) (n := r.bx.length) (m := 1) (sz := 1) (e := 76) (xs := vs)
         ·exact rfl
         ·exact rfl
         ·exact rfl
         ·exact kd
         ·exact rfl
         ·exact hS.b
         ·exact fun k hk => off_in (hS.o _ zd k hk)
         ·exact zb
         ·exact rfl
         ·decide
         ·unfold maxLen;omega
         ·omega
         ·exact hS.u.size
         intro v14 w5 a1 a2 a3 a4
         have hov14 := a1.one
         have hS := hS.gb rfl a1 a2 a4
         clear a1 a2 a3 a4
         apply Wl.nil
         refine Mtk.backE (fun _ h' => ⟨own_c h'.own k7,own_c h'.own k7⟩) ?_
         refine Mtk.cut kb kf ?_
         repeat' first | (apply Wl.store;exact rfl;exact rfl;exact kv;exact kd;exact ki) | apply Wl.nil
         refine Mt.backE (fun _ _ => trivial) ?_
         refine Mt.pz 17 ?_
         refine Mt.e1 18 ?_
         repeat' first | (apply Wl.store;exact rfl;exact rfl;exact kv;exact kd;exact ki) | apply Wl.nil
         refine Mt.backE (fun _ _ => trivial) ?_
         refine Mt.pz 19 ?_
         refine Mt.e1 20 ?_
         repeat' first | (apply Wl.store;exact rfl;exact rfl;exact kv;exact kd;exact ki) | apply Wl.nil
         refine Mt.backE (fun _ _ => trivial) ?_
         refine Mt.toGt kb ?_
         repeat' first | refine Wl.move rfl rfl ?_ | (refine Wl.addI rfl rfl rfl ?_ ?_;constructor <;> omega) | apply Wl.nil | apply St.region | apply Gt.next | apply Gt.inNormal
         refine Gt.reb (H' := [⟨c6,[.int .i64 tt,v4,v9,v14,.slice none 0 0,.pointer none],54⟩,⟨c4,[.int .i64 0,.slice none 0 0,.slice none 0 0,.slice none 0 0,.slice none 0 0,.pointer none],54⟩]) fun w6 h6 => ⟨h6.own.2.2.2.2,h6.apart.2.2.2.2,?_⟩
         have hS := (hS.hp h6 rfl).pop.pop.pop.pop
         exact Gt.round (j + 1,w6,ci,⟨r.L ++ [staC cj],r.ins ++ [gs],r.bx ++ [xl]⟩,v4,v9,v14,vs ++ [xv]) ⟨by simp only;omega,hS,za,by simp only [List.length_append,hl1];rfl,by simp only [List.length_append,hl2];rfl,by simp only [List.length_append,hl3];rfl⟩ ky kq (fun _ h => h)
       ·apply Wl.lit (cs := [strV gs])
        ·exact rfl
        ·(repeat (first | exact Parts.nil | apply Parts.cons rfl))
        ·exact rfl
        ·exact rfl
        ·exact CatP.one rfl rfl .nil
        intro d8 hd8 _
        have hS := hS.new hd8
        apply Wl.nil
        refine Mtk.backE (fun _ h' => ⟨own_c h'.own k7,own_c h'.own k7⟩) ?_
        refine Mtk.eff2 (i := 4) (j := 13) kb kf kf kf kf ?_ ?_
        ·apply Wl.appendH (base := w.heap.size) (n := r.L.length) (m := 1) (sz := 35) (e := 44) (xs := (stas r.L).flatten)
         ·exact rfl
         ·exact rfl
         ·exact rfl
         ·exact kd
         ·exact qf
         ·exact hS.s
         ·exact fun k hk => off_in (hS.o _ zd k hk)
         ·exact hx1
         ·exact rfl
         ·decide
         ·unfold maxLen;omega
         ·omega
         ·exact hS.u.size
         intro v4 w5 a1 a2 a3 a4
         have hov4 := a1.one
         have hS := hS.gs rfl a1 rfl a2 a4
         clear a1 a2 a3 a4
         apply Wl.nil
         refine Mtk.backE (fun _ h' => ⟨own_c h'.own k7,own_c h'.own k7⟩) ?_
         refine Mtk.pureT 15 kb kf kf kb kb kf ?_
         repeat' first | refine Wl.fieldAddrZ rfl rfl ?_ | apply Wl.nilM
         apply Mtk.back
         refine Mtk.eff2 (i := 9) (j := 13) kb kf kf kf kf ?_ ?_
         ·apply Wl.appendH (base := w.heap.size) (n := r.ins.length) (m := 1) (sz := 1) (e := 9) (xs := (r.ins.map strV))
          ·exact rfl
          ·exact rfl
          ·exact rfl
          ·exact kd
          ·exact rfl
          ·exact hS.i
          ·exact fun k hk => off_in (hS.o _ zd k hk)
          ·exact rfl
          ·exact rfl
          ·decide
          ·unfold maxLen;omega
          ·omega
          ·exact hS.u.size
          intro v9 w5 a1 a2 a3 a4
          have hov9 := a1.one
          have hS := hS.gi rfl a1 a2 a4
          clear a1 a2 a3 a4
          apply Wl.nil
          refine Mtk.backE (fun _ h' => ⟨own_c h'.own k7,own_c h'.own k7⟩) ?_
          refine Mtk.eff1 (i := 13) kb kf kf ?_
          apply Wl.lit (cs := [xv])
          ·exact rfl
          ·(repeat (first | exact Parts.nil | apply Parts.cons rfl))
          ·exact rfl
          ·exact rfl
          ·exact CatP.one hxone rfl .nil
          intro d13 hd13 _
          have hS := hS.new hd13
          apply Wl.nil
          refine Mtk.backE (fun _ h' => ⟨own_c h'.own k7,own_c h'.own k7⟩) ?_
          refine Mtk.eff1 (i := 14) kb kf kf ?_
          apply Wl.appendH (base := w.heap.size) (n := r.bx.length) (m := 1) (sz := 1) (e := 76) (xs := vs)
          ·exact rfl
          ·exact rfl
          ·exact rfl
          ·exact kd
          ·exact rfl
          ·exact hS.b
          ·exact fun k hk => off_in (hS.o _ zd k hk)
          ·exact zb
          ·exact rfl
          ·decide
          ·unfold maxLen;omega
          ·omega
          ·exact hS.u.size
          intro v14 w5 a1 a2 a3 a4
          have hov14 := a1.one
          have hS := hS.gb rfl a1 a2 a4
          clear a1 a2 a3 a4
          apply Wl.nil
          refine Mtk.backE (fun _ h' => ⟨own_c h'.own k7,own_c h'.own k7⟩) ?_
          refine Mtk.cut kb kf ?_
          repeat' first | (apply Wl.store;exact rfl;exact rfl;exact kv;exact kd;exact ki) | apply Wl.nil
          refine Mt.backE (fun _ _ => trivial) ?_
          refine Mt.pz 17 ?_
          refine Mt.e1 18 ?_
          repeat' first | (apply Wl.store;exact rfl;exact rfl;exact kv;exact kd;exact ki) | apply Wl.nil
          refine Mt.backE (fun _ _ => trivial) ?_
          refine Mt.pz 19 ?_
          refine Mt.e1 20 ?_
          repeat' first | (apply Wl.store;exact rfl;exact rfl;exact kv;exact kd;exact ki) | apply Wl.nil
          refine Mt.backE (fun _ _ => trivial) ?_
          refine Mt.toGt kb ?_
          repeat' first | refine Wl.move rfl rfl ?_ | (refine Wl.addI rfl rfl rfl ?_ ?_;constructor <;> omega) | apply Wl.nil | apply St.region | apply Gt.next | apply Gt.inNormal
          refine Gt.reb (H' := [⟨c6,[.int .i64 tt,v4,v9,v14,.slice none 0 0,.pointer none],54⟩,⟨c4,[.int .i64 0,.slice none 0 0,.slice none 0 0,.slice none 0 0,.slice none 0 0,.pointer none],54⟩]) fun w6 h6 => ⟨h6.own.2.2.2.2,h6.apart.2.2.2.2,?_⟩
          have hS := (hS.hp h6 rfl).pop.pop.pop.pop
          exact Gt.round (j + 1,w6,ci,⟨r.L ++ [staC cj],r.ins ++ [gs],r.bx ++ [xl]⟩,v4,v9,v14,vs ++ [xv]) ⟨by simp only;omega,hS,za,by simp only [List.length_append,hl1];rfl,by simp only [List.length_append,hl2];rfl,by simp only [List.length_append,hl3];rfl⟩ ky kq (fun _ h => h)
         ·apply Wl.lit (cs := [xv])
          ·exact rfl
          ·(repeat (first | exact Parts.nil | apply Parts.cons rfl))
          ·exact rfl
          ·exact rfl
          ·exact CatP.one hxone rfl .nil
          intro d13 hd13 _
          have hS := hS.new hd13
          apply Wl.nil
          refine Mtk.backE (fun _ h' => ⟨own_c h'.own k7,own_c h'.own k7⟩) ?_
          refine Mtk.eff1 (i := 9) kb kf kf ?_
          apply Wl.appendH (base := w.heap.size) (n := r.ins.length) (m := 1) (sz := 1) (e := 9) (xs := (r.ins.map strV))
          ·exact rfl
          ·exact rfl
          ·exact rfl
          ·exact kd
          ·exact rfl
          ·exact hS.i
          ·exact fun k hk => off_in (hS.o _ zd k hk)
          ·exact rfl
          ·exact rfl
          ·decide
          ·unfold maxLen;omega
          ·omega
          ·exact hS.u.size
          intro v9 w5 a1 a2 a3 a4
          have hov9 := a1.one
          have hS := hS.gi rfl a1 a2 a4
          clear a1 a2 a3 a4
          apply Wl.nil
          refine Mtk.backE (fun _ h' => ⟨own_c h'.own k7,own_c h'.own k7⟩) ?_
          refine Mtk.eff1 (i := 14) kb kf kf ?_
          apply Wl.appendH (base := w.heap.size) (n := r.bx.length) (m := 1) (sz := 1) (e := 76) (xs := vs)
          ·exact rfl
          ·exact rfl
          ·exact rfl
          ·exact kd
          ·exact rfl
          ·exact hS.b
          ·exact fun k hk => off_in (hS.o _ zd k hk)
          ·exact zb
          ·exact rfl
          ·decide
          ·unfold maxLen;omega
          ·omega
          ·exact hS.u.size
          intro v14 w5 a1 a2 a3 a4
          have hov14 := a1.one
          have hS := hS.gb rfl a1 a2 a4
          clear a1 a2 a3 a4
          apply Wl.nil
          refine Mtk.backE (fun _ h' => ⟨own_c h'.own k7,own_c h'.own k7⟩) ?_
          refine Mtk.cut kb kf ?_
          repeat' first | (apply Wl.store;exact rfl;exact rfl;exact kv;exact kd;exact ki) | apply Wl.nil
          refine Mt.backE (fun _ _ => trivial) ?_
          refine Mt.pz 17 ?_
          refine Mt.e1 18 ?_
          repeat' first | (apply Wl.store;exact rfl;exact rfl;exact kv;exact kd;exact ki) | apply Wl.nil
          refine Mt.backE (fun _ _ => trivial) ?_
          refine Mt.pz 19 ?_
          refine Mt.e1 20 ?_
          repeat' first | (apply Wl.store;exact rfl;exact rfl;exact kv;exact kd;exact ki) | apply Wl.nil
          refine Mt.backE (fun _ _ => trivial) ?_
          refine Mt.toGt kb ?_
          repeat' first | refine Wl.move rfl rfl ?_ | (refine Wl.addI rfl rfl rfl ?_ ?_;constructor <;> omega) | apply Wl.nil | apply St.region | apply Gt.next | apply Gt.inNormal
          refine Gt.reb (H' := [⟨c6,[.int .i64 tt,v4,v9,v14,.slice none 0 0,.pointer none],54⟩,⟨c4,[.int .i64 0,.slice none 0 0,.slice none 0 0,.slice none 0 0,.slice none 0 0,.pointer none],54⟩]) fun w6 h6 => ⟨h6.own.2.2.2.2,h6.apart.2.2.2.2,?_⟩
          have hS := (hS.hp h6 rfl).pop.pop.pop.pop
          exact Gt.round (j + 1,w6,ci,⟨r.L ++ [staC cj],r.ins ++ [gs],r.bx ++ [xl]⟩,v4,v9,v14,vs ++ [xv]) ⟨by simp only;omega,hS,za,by simp only [List.length_append,hl1];rfl,by simp only [List.length_append,hl2];rfl,by simp only [List.length_append,hl3];rfl⟩ ky kq (fun _ h => h)
        ·apply Wl.lit (cs := [xv])
         ·exact rfl
         ·(repeat (first | exact Parts.nil | apply Parts.cons rfl))
         ·exact rfl
         ·exact rfl
         ·exact CatP.one hxone rfl .nil
         intro d13 hd13 _
         have hS := hS.new hd13
         apply Wl.nil
         refine Mtk.backE (fun _ h' => ⟨own_c h'.own k7,own_c h'.own k7⟩) ?_
         refine Mtk.eff1 (i := 4) kb kf kf ?_
         apply Wl.appendH (base := w.heap.size) (n := r.L.length) (m := 1) (sz := 35) (e := 44) (xs := (stas r.L).flatten)
         ·exact rfl
         ·exact rfl
         ·exact rfl
         ·exact kd
         ·exact qf
         ·exact hS.s
         ·exact fun k hk => off_in (hS.o _ zd k hk)
         ·exact hx1
         ·exact rfl
         ·decide
         ·unfold maxLen;omega
         ·omega
         ·exact hS.u.size
         intro v4 w5 a1 a2 a3 a4
         have hov4 := a1.one
         have hS := hS.gs rfl a1 rfl a2 a4
         clear a1 a2 a3 a4
         apply Wl.nil
         refine Mtk.backE (fun _ h' => ⟨own_c h'.own k7,own_c h'.own k7⟩) ?_
         refine Mtk.pureT 15 kb kf kf kb kb kf ?_
         repeat' first | refine Wl.fieldAddrZ rfl rfl ?_ | apply Wl.nilM
         apply Mtk.back
         refine Mtk.eff1 (i := 9) kb kf kf ?_
         apply Wl.appendH (base := w.heap.size) (n := r.ins.length) (m := 1) (sz := 1) (e := 9) (xs := (r.ins.map strV))
         ·exact rfl
         ·exact rfl
         ·exact rfl
         ·exact kd
         ·exact rfl
         ·exact hS.i
         ·exact fun k hk => off_in (hS.o _ zd k hk)
         ·exact rfl
         ·exact rfl
         ·decide
         ·unfold maxLen;omega
         ·omega
         ·exact hS.u.size
         intro v9 w5 a1 a2 a3 a4
         have hov9 := a1.one
         have hS := hS.gi rfl a1 a2 a4
         clear a1 a2 a3 a4
         apply Wl.nil
         refine Mtk.backE (fun _ h' => ⟨own_c h'.own k7,own_c h'.own k7⟩) ?_
         refine Mtk.eff1 (i := 14) kb kf kf ?_
         apply Wl.appendH (base := w.heap.size) (n := r.bx.length) (m := 1) (sz := 1) (e := 76) (xs := vs)
         ·exact rfl
         ·exact rfl
         ·exact rfl
         ·exact kd
         ·exact rfl
         ·exact hS.b
         ·exact fun k hk => off_in (hS.o _ zd k hk)
         ·exact zb
         ·exact rfl
         ·decide
         ·unfold maxLen;omega
         ·omega
         ·exact hS.u.size
         intro v14 w5 a1 a2 a3 a4
         have hov14 := a1.one
         have hS := hS.gb rfl a1 a2 a4
         clear a1 a2 a3 a4
         apply Wl.nil
         refine Mtk.backE (fun _ h' => ⟨own_c h'.own k7,own_c h'.own k7⟩) ?_
         refine Mtk.cut kb kf ?_
         repeat' first | (apply Wl.store;exact rfl;exact rfl;exact kv;exact kd;exact ki) | apply Wl.nil
         refine Mt.backE (fun _ _ => trivial) ?_
         refine Mt.pz 17 ?_
         refine Mt.e1 18 ?_
         repeat' first | (apply Wl.store;exact rfl;exact rfl;exact kv;exact kd;exact ki) | apply Wl.nil
         refine Mt.backE (fun _ _ => trivial) ?_
         refine Mt.pz 19 ?_
         refine Mt.e1 20 ?_
         repeat' first | (apply Wl.store;exact rfl;exact rfl;exact kv;exact kd;exact ki) | apply Wl.nil
         refine Mt.backE (fun _ _ => trivial) ?_
         refine Mt.toGt kb ?_
         repeat' first | refine Wl.move rfl rfl ?_ | (refine Wl.addI rfl rfl rfl ?_ ?_;constructor <;> omega) | apply Wl.nil | apply St.region | apply Gt.next | apply Gt.inNormal
         refine Gt.reb (H' := [⟨c6,[.int .i64 tt,v4,v9,v14,.slice none 0 0,.pointer none],54⟩,⟨c4,[.int .i64 0,.slice none 0 0,.slice none 0 0,.slice none 0 0,.slice none 0 0,.pointer none],54⟩]) fun w6 h6 => ⟨h6.own.2.2.2.2,h6.apart.2.2.2.2,?_⟩
         have hS := (hS.hp h6 rfl).pop.pop.pop.pop
         exact Gt.round (j + 1,w6,ci,⟨r.L ++ [staC cj],r.ins ++ [gs],r.bx ++ [xl]⟩,v4,v9,v14,vs ++ [xv]) ⟨by simp only;omega,hS,za,by simp only [List.length_append,hl1];rfl,by simp only [List.length_append,hl2];rfl,by simp only [List.length_append,hl3];rfl⟩ ky kq (fun _ h => h)
       ·apply Wl.lit (cs := [xv])
        ·exact rfl
        ·(repeat (first | exact Parts.nil | apply Parts.cons rfl))
        ·exact rfl
        ·exact rfl
        ·exact CatP.one hxone rfl .nil
        intro d13 hd13 _
        have hS := hS.new hd13
        apply Wl.nil
        refine Mtk.backE (fun _ h' => ⟨own_c h'.own k7,own_c h'.own k7⟩) ?_
        refine Mtk.eff2 (i := 4) (j := 8) kb kf kf kf kf ?_ ?_
        ·apply Wl.appendH (base := w.heap.size) (n := r.L.length) (m := 1) (sz := 35) (e := 44) (xs := (stas r.L).flatten)
         ·exact rfl
         ·exact rfl
         ·exact rfl
         ·exact kd
         ·exact qf
         ·exact hS.s
         ·exact fun k hk => off_in (hS.o _ zd k hk)
         ·exact hx1
         ·exact rfl
         ·decide
         ·unfold maxLen;omega
         ·omega
         ·exact hS.u.size
         intro v4 w5 a1 a2 a3 a4
         have hov4 := a1.one
         have hS := hS.gs rfl a1 rfl a2 a4
         clear a1 a2 a3 a4
         apply Wl.nil
         refine Mtk.backE (fun _ h' => ⟨own_c h'.own k7,own_c h'.own k7⟩) ?_
         refine Mtk.pureT 15 kb kf kf kb kb kf ?_
         repeat' first | refine Wl.fieldAddrZ rfl rfl ?_ | apply Wl.nilM
         apply Mtk.back
         refine Mtk.eff1 (i := 8) kb kf kf ?_
         apply Wl.lit (cs := [strV gs])
         ·exact rfl
         ·(repeat (first | exact Parts.nil | apply Parts.cons rfl))
         ·exact rfl
         ·exact rfl
         ·exact CatP.one rfl rfl .nil
         intro d8 hd8 _
         have hS := hS.new hd8
         apply Wl.nil
         refine Mtk.backE (fun _ h' => ⟨own_c h'.own k7,own_c h'.own k7⟩) ?_
         refine Mtk.eff1 (i := 9) kb kf kf ?_
         apply Wl.appendH (base := w.heap.size) (n := r.ins.length) (m := 1) (sz := 1) (e := 9) (xs := (r.ins.map strV))
         ·exact rfl
         ·exact rfl
         ·exact rfl
         ·exact kd
         ·exact rfl
         ·exact hS.i
         ·exact fun k hk => off_in (hS.o _ zd k hk)
         ·exact rfl
         ·exact rfl
         ·decide
         ·unfold maxLen;omega
         ·omega
         ·exact hS.u.size
         intro v9 w5 a1 a2 a3 a4
         have hov9 := a1.one
         have hS := hS.gi rfl a1 a2 a4
         clear a1 a2 a3 a4
         apply Wl.nil
         refine Mtk.backE (fun _ h' => ⟨own_c h'.own k7,own_c h'.own k7⟩) ?_
         refine Mtk.eff1 (i := 14) kb kf kf ?_
         apply Wl.appendH (base := w.heap.size) (n := r.bx.length) (m := 1) (sz := 1) (e := 76) (xs := vs)
         ·exact rfl
         ·exact rfl
         ·exact rfl
         ·exact kd
         ·exact rfl
         ·exact hS.b
         ·exact fun k hk => off_in (hS.o _ zd k hk)
         ·exact zb
         ·exact rfl
         ·decide
         ·unfold maxLen;omega
         ·omega
         ·exact hS.u.size
         intro v14 w5 a1 a2 a3 a4
         have hov14 := a1.one
         have hS := hS.gb rfl a1 a2 a4
         clear a1 a2 a3 a4
         apply Wl.nil
         refine Mtk.backE (fun _ h' => ⟨own_c h'.own k7,own_c h'.own k7⟩) ?_
         refine Mtk.cut kb kf ?_
         repeat' first | (apply Wl.store;exact rfl;exact rfl;exact kv;exact kd;exact ki) | apply Wl.nil
         refine Mt.backE (fun _ _ => trivial) ?_
         refine Mt.pz 17 ?_
         refine Mt.e1 18 ?_
         repeat' first | (apply Wl.store;exact rfl;exact rfl;exact kv;exact kd;exact ki) | apply Wl.nil
         refine Mt.backE (fun _ _ => trivial) ?_
         refine Mt.pz 19 ?_
         refine Mt.e1 20 ?_
         repeat' first | (apply Wl.store;exact rfl;exact rfl;exact kv;exact kd;exact ki) | apply Wl.nil
         refine Mt.backE (fun _ _ => trivial) ?_
         refine Mt.toGt kb ?_
         repeat' first | refine Wl.move rfl rfl ?_ | (refine Wl.addI rfl rfl rfl ?_ ?_;constructor <;> omega) | apply Wl.nil | apply St.region | apply Gt.next | apply Gt.inNormal
         refine Gt.reb (H' := [⟨c6,[.int .i64 tt,v4,v9,v14,.slice none 0 0,.pointer none],54⟩,⟨c4,[.int .i64 0,.slice none 0 0,.slice none 0 0,.slice none 0 0,.slice none 0 0,.pointer none],54⟩]) fun w6 h6 => ⟨h6.own.2.2.2.2,h6.apart.2.2.2.2,?_⟩
         have hS := (hS.hp h6 rfl).pop.pop.pop.pop
         exact Gt.round (j + 1,w6,ci,⟨r.L ++ [staC cj],r.ins ++ [gs],r.bx ++ [xl]⟩,v4,v9,v14,vs ++ [xv]) ⟨by simp only;omega,hS,za,by simp only [List.length_append,hl1];rfl,by simp only [List.length_append,hl2];rfl,by simp only [List.length_append,hl3];rfl⟩ ky kq (fun _ h => h)
        ·apply Wl.lit (cs := [strV gs])
         ·exact rfl
         ·(repeat (first | exact Parts.nil | apply Parts.cons rfl))
         ·exact rfl
         ·exact rfl
         ·exact CatP.one rfl rfl .nil
         intro d8 hd8 _
         have hS := hS.new hd8
         apply Wl.nil
         refine Mtk.backE (fun _ h' => ⟨own_c h'.own k7,own_c h'.own k7⟩) ?_
         refine Mtk.eff1 (i := 4) kb kf kf ?_
         apply Wl.appendH (base := w.heap.size) (n := r.L.length) (m := 1) (sz := 35) (e := 44) (xs := (stas r.L).flatten)
         ·exact rfl
         ·exact rfl
         ·exact rfl
         ·exact kd
         ·exact qf
         ·exact hS.s
         ·exact fun k hk => off_in (hS.o _ zd k hk)
         ·exact hx1
         ·exact rfl
         ·decide
         ·unfold maxLen;omega
         ·omega
         ·exact hS.u.size
         intro v4 w5 a1 a2 a3 a4
         have hov4 := a1.one
         have hS := hS.gs rfl a1 rfl a2 a4
         clear a1 a2 a3 a4
         apply Wl.nil
         refine Mtk.backE (fun _ h' => ⟨own_c h'.own k7,own_c h'.own k7⟩) ?_
         refine Mtk.pureT 15 kb kf kf kb kb kf ?_
         repeat' first | refine Wl.fieldAddrZ rfl rfl ?_ | apply Wl.nilM
         apply Mtk.back
         refine Mtk.eff1 (i := 9) kb kf kf ?_
         apply Wl.appendH (base := w.heap.size) (n := r.ins.length) (m := 1) (sz := 1) (e := 9) (xs := (r.ins.map strV))
         ·exact rfl
         ·exact rfl
         ·exact rfl
         ·exact kd
         ·exact rfl
         ·exact hS.i
         ·exact fun k hk => off_in (hS.o _ zd k hk)
         ·exact rfl
         ·exact rfl
         ·decide
         ·unfold maxLen;omega
         ·omega
         ·exact hS.u.size
         intro v9 w5 a1 a2 a3 a4
         have hov9 := a1.one
         have hS := hS.gi rfl a1 a2 a4
         clear a1 a2 a3 a4
         apply Wl.nil
         refine Mtk.backE (fun _ h' => ⟨own_c h'.own k7,own_c h'.own k7⟩) ?_
         refine Mtk.eff1 (i := 14) kb kf kf ?_
         apply Wl.appendH (base := w.heap.size) (n := r.bx.length) (m := 1) (sz := 1) (e := 76) (xs := vs)
         ·exact rfl
         ·exact rfl
         ·exact rfl
         ·exact kd
         ·exact rfl
         ·exact hS.b
         ·exact fun k hk => off_in (hS.o _ zd k hk)
         ·exact zb
         ·exact rfl
         ·decide
         ·unfold maxLen;omega
         ·omega
         ·exact hS.u.size
         intro v14 w5 a1 a2 a3 a4
         have hov14 := a1.one
         have hS := hS.gb rfl a1 a2 a4
         clear a1 a2 a3 a4
         apply Wl.nil
         refine Mtk.backE (fun _ h' => ⟨own_c h'.own k7,own_c h'.own k7⟩) ?_
         refine Mtk.cut kb kf ?_
         repeat' first | (apply Wl.store;exact rfl;exact rfl;exact kv;exact kd;exact ki) | apply Wl.nil
         refine Mt.backE (fun _ _ => trivial) ?_
         refine Mt.pz 17 ?_
         refine Mt.e1 18 ?_
         repeat' first | (apply Wl.store;exact rfl;exact rfl;exact kv;exact kd;exact ki) | apply Wl.nil
         refine Mt.backE (fun _ _ => trivial) ?_
         refine Mt.pz 19 ?_
         refine Mt.e1 20 ?_
         repeat' first | (apply Wl.store;exact rfl;exact rfl;exact kv;exact kd;exact ki) | apply Wl.nil
         refine Mt.backE (fun _ _ => trivial) ?_
         refine Mt.toGt kb ?_
         repeat' first | refine Wl.move rfl rfl ?_ | (refine Wl.addI rfl rfl rfl ?_ ?_;constructor <;> omega) | apply Wl.nil | apply St.region | apply Gt.next | apply Gt.inNormal
         refine Gt.reb (H' := [⟨c6,[.int .i64 tt,v4,v9,v14,.slice none 0 0,.pointer none],54⟩,⟨c4,[.int .i64 0,.slice none 0 0,.slice none 0 0,.slice none 0 0,.slice none 0 0,.pointer none],54⟩]) fun w6 h6 => ⟨h6.own.2.2.2.2,h6.apart.2.2.2.2,?_⟩
         have hS := (hS.hp h6 rfl).pop.pop.pop.pop
         exact Gt.round (j + 1,w6,ci,⟨r.L ++ [staC cj],r.ins ++ [gs],r.bx ++ [xl]⟩,v4,v9,v14,vs ++ [xv]) ⟨by simp only;omega,hS,za,by simp only [List.length_append,hl1];rfl,by simp only [List.length_append,hl2];rfl,by simp only [List.length_append,hl3];rfl⟩ ky kq (fun _ h => h)
      ·apply Wl.lit (cs := [strV gs])
       ·exact rfl
       ·(repeat (first | exact Parts.nil | apply Parts.cons rfl))
       ·exact rfl
       ·exact rfl
       ·exact CatP.one rfl rfl .nil
       intro d8 hd8 _
       have hS := hS.new hd8
       apply Wl.nil
       refine Mtk.backE (fun _ h' => ⟨own_c h'.own k7,own_c h'.own k7⟩) ?_
       refine Mtk.eff2 (i := 3) (j := 13) kb kf kf kf kf ?_ ?_
       ·apply Wl.lit (cs := (staC cj).cells)
        ·exact rfl
        ·(repeat (first | exact Parts.nil | apply Parts.cons rfl))
        ·exact rfl
        ·exact rfl
        ·exact CatP.agg qf .nil (lappE _)
        intro d3 hd3 _
        have hS := hS.new hd3
        apply Wl.nil
        refine Mtk.backE (fun _ h' => ⟨own_c h'.own k7,own_c h'.own k7⟩) ?_
        refine Mtk.eff2 (i := 4) (j := 13) kb kf kf kf kf ?_ ?_
        ·apply Wl.appendH (base := w.heap.size) (n := r.L.length) (m := 1) (sz := 35) (e := 44) (xs := (stas r.L).flatten)
         ·exact rfl
         ·exact rfl
         ·exact rfl
         ·exact kd
         ·exact qf
         ·exact hS.s
         ·exact fun k hk => off_in (hS.o _ zd k hk)
         ·exact hx1
         ·exact rfl
         ·decide
         ·unfold maxLen;omega
         ·omega
         ·exact hS.u.size
         intro v4 w5 a1 a2 a3 a4
         have hov4 := a1.one
         have hS := hS.gs rfl a1 rfl a2 a4
         clear a1 a2 a3 a4
         apply Wl.nil
         refine Mtk.backE (fun _ h' => ⟨own_c h'.own k7,own_c h'.own k7⟩) ?_
         refine Mtk.pureT 15 kb kf kf kb kb kf ?_
         repeat' first | refine Wl.fieldAddrZ rfl rfl ?_ | apply Wl.nilM
         apply Mtk.back
         refine Mtk.eff2 (i := 9) (j := 13) kb kf kf kf kf ?_ ?_
         ·apply Wl.appendH (base := w.heap.size) (n := r.ins.length) (m := 1) (sz := 1) (e := 9) (xs := (r.ins.map strV))
          ·exact rfl
          ·exact rfl
          ·exact rfl
          ·exact kd
          ·exact rfl
          ·exact hS.i
          ·exact fun k hk => off_in (hS.o _ zd k hk)
          ·exact rfl
          ·exact rfl
          ·decide
          ·unfold maxLen;omega
          ·omega
          ·exact hS.u.size
          intro v9 w5 a1 a2 a3 a4
          have hov9 := a1.one
          have hS := hS.gi rfl a1 a2 a4
          clear a1 a2 a3 a4
          apply Wl.nil
          refine Mtk.backE (fun _ h' => ⟨own_c h'.own k7,own_c h'.own k7⟩) ?_
          refine Mtk.eff1 (i := 13) kb kf kf ?_
          apply Wl.lit (cs := [xv])
          ·exact rfl
          ·(repeat (first | exact Parts.nil | apply Parts.cons rfl))
          ·exact rfl
          ·exact rfl
          ·exact CatP.one hxone rfl .nil
          intro d13 hd13 _
          have hS := hS.new hd13
          apply Wl.nil
          refine Mtk.backE (fun _ h' => ⟨own_c h'.own k7,own_c h'.own k7⟩) ?_
          refine Mtk.eff1 (i := 14) kb kf kf ?_
          apply Wl.appendH (base := w.heap.size) (n := r.bx.length) (m := 1) (sz := 1) (e := 76) (xs := vs)
          ·exact rfl
          ·exact rfl
          ·exact rfl
          ·exact kd
          ·exact rfl
          ·exact hS.b
          ·exact fun k hk => off_in (hS.o _ zd k hk)
          ·exact zb
          ·exact rfl
          ·decide
          ·unfold maxLen;omega
          ·omega
          ·exact hS.u.size
          intro v14 w5 a1 a2 a3 a4
          have hov14 := a1.one
          have hS := hS.gb rfl a1 a2 a4
          clear a1 a2 a3 a4
          apply Wl.nil
          refine Mtk.backE (fun _ h' => ⟨own_c h'.own k7,own_c h'.own k7⟩) ?_
          refine Mtk.cut kb kf ?_
          repeat' first | (apply Wl.store;exact rfl;exact rfl;exact kv;exact kd;exact ki) | apply Wl.nil
          refine Mt.backE (fun _ _ => trivial) ?_
          refine Mt.pz 17 ?_
          refine Mt.e1 18 ?_
          repeat' first | (apply Wl.store;exact rfl;exact rfl;exact kv;exact kd;exact ki) | apply Wl.nil
          refine Mt.backE (fun _ _ => trivial) ?_
          refine Mt.pz 19 ?_
          refine Mt.e1 20 ?_
          repeat' first | (apply Wl.store;exact rfl;exact rfl;exact kv;exact kd;exact ki) | apply Wl.nil
          refine Mt.backE (fun _ _ => trivial) ?_
          refine Mt.toGt kb ?_
          repeat' first | refine Wl.move rfl rfl ?_ | (refine Wl.addI rfl rfl rfl ?_ ?_;constructor <;> omega) | apply Wl.nil | apply St.region | apply Gt.next | apply Gt.inNormal
          refine Gt.reb (H' := [⟨c6,[.int .i64 tt,v4,v9,v14,.slice none 0 0,.pointer none],54⟩,⟨c4,[.int .i64 0,.slice none 0 0,.slice none 0 0,.slice none 0 0,.slice none 0 0,.pointer none],54⟩]) fun w6 h6 => ⟨h6.own.2.2.2.2,h6.apart.2.2.2.2,?_⟩
          have hS := (hS.hp h6 rfl).pop.pop.pop.pop
          exact Gt.round (j + 1,w6,ci,⟨r.L ++ [staC cj],r.ins ++ [gs],r.bx ++ [xl]⟩,v4,v9,v14,vs ++ [xv]) ⟨by simp only;omega,hS,za,by simp only [List.length_append,hl1];rfl,by simp only [List.length_append,hl2];rfl,by simp only [List.length_append,hl3];rfl⟩ ky kq (fun _ h => h)
         ·apply Wl.lit (cs := [xv])
          ·exact rfl
          ·(repeat (first | exact Parts.nil | apply Parts.cons rfl))
          ·exact rfl
          ·exact rfl
          ·exact CatP.one hxone rfl .nil
          intro d13 hd13 _
          have hS := hS.new hd13
          apply Wl.nil
          refine Mtk.backE (fun _ h' => ⟨own_c h'.own k7,own_c h'.own k7⟩) ?_
          refine Mtk.eff1 (i := 9) kb kf kf ?_
          apply Wl.appendH (base := w.heap.size) (n := r.ins.length) (m := 1) (sz := 1) (e := 9) (xs := (r.ins.map strV))
          ·exact rfl
          ·exact rfl
          ·exact rfl
          ·exact kd
          ·exact rfl
          ·exact hS.i
          ·exact fun k hk => off_in (hS.o _ zd k hk)
          ·exact rfl
          ·exact rfl
          ·decide
          ·unfold maxLen;omega
          ·omega
          ·exact hS.u.size
          intro v9 w5 a1 a2 a3 a4
          have hov9 := a1.one
          have hS := hS.gi rfl a1 a2 a4
          clear a1 a2 a3 a4
          apply Wl.nil
          refine Mtk.backE (fun _ h' => ⟨own_c h'.own k7,own_c h'.own k7⟩) ?_
          refine Mtk.eff1 (i := 14) kb kf kf ?_
          apply Wl.appendH (base := w.heap.size) (n := r.bx.length) (m := 1) (sz := 1) (e := 76) (xs := vs)
          ·exact rfl
          ·exact rfl
          ·exact rfl
          ·exact kd
          ·exact rfl
          ·exact hS.b
          ·exact fun k hk => off_in (hS.o _ zd k hk)
          ·exact zb
          ·exact rfl
          ·decide
          ·unfold maxLen;omega
          ·omega
          ·exact hS.u.size
          intro v14 w5 a1 a2 a3 a4
          have hov14 := a1.one
          have hS := hS.gb rfl a1 a2 a4
          clear a1 a2 a3 a4
          apply Wl.nil
          refine Mtk.backE (fun _ h' => ⟨own_c h'.own k7,own_c h'.own k7⟩) ?_
          refine Mtk.cut kb kf ?_
          repeat' first | (apply Wl.store;exact rfl;exact rfl;exact kv;exact kd;exact ki) | apply Wl.nil
          refine Mt.backE (fun _ _ => trivial) ?_
          refine Mt.pz 17 ?_
          refine Mt.e1 18 ?_
          repeat' first | (apply Wl.store;exact rfl;exact rfl;exact kv;exact kd;exact ki) | apply Wl.nil
          refine Mt.backE (fun _ _ => trivial) ?_
          refine Mt.pz 19 ?_
          refine Mt.e1 20 ?_
          repeat' first | (apply Wl.store;exact rfl;exact rfl;exact kv;exact kd;exact ki) | apply Wl.nil
          refine Mt.backE (fun _ _ => trivial) ?_
          refine Mt.toGt kb ?_
          repeat' first | refine Wl.move rfl rfl ?_ | (refine Wl.addI rfl rfl rfl ?_ ?_;constructor <;> omega) | apply Wl.nil | apply St.region | apply Gt.next | apply Gt.inNormal
          refine Gt.reb (H' := [⟨c6,[.int .i64 tt,v4,v9,v14,.slice none 0 0,.pointer none],54⟩,⟨c4,[.int .i64 0,.slice none 0 0,.slice none 0 0,.slice none 0 0,.slice none 0 0,.pointer none],54⟩]) fun w6 h6 => ⟨h6.own.2.2.2.2,h6.apart.2.2.2.2,?_⟩
          have hS := (hS.hp h6 rfl).pop.pop.pop.pop
          exact Gt.round (j + 1,w6,ci,⟨r.L ++ [staC cj],r.ins ++ [gs],r.bx ++ [xl]⟩,v4,v9,v14,vs ++ [xv]) ⟨by simp only;omega,hS,za,by simp only [List.length_append,hl1];rfl,by simp only [List.length_append,hl2];rfl,by simp only [List.length_append,hl3];rfl⟩ ky kq (fun _ h => h)
        ·apply Wl.lit (cs := [xv])
         ·exact rfl
         ·(repeat (first | exact Parts.nil | apply Parts.cons rfl))
         ·exact rfl
         ·exact rfl
         ·exact CatP.one hxone rfl .nil
         intro d13 hd13 _
         have hS := hS.new hd13
         apply Wl.nil
         refine Mtk.backE (fun _ h' => ⟨own_c h'.own k7,own_c h'.own k7⟩) ?_
         refine Mtk.eff1 (i := 4) kb kf kf ?_
         apply Wl.appendH (base := w.heap.size) (n := r.L.length) (m := 1) (sz := 35) (e := 44) (xs := (stas r.L).flatten)
         ·exact rfl
         ·exact rfl
         ·exact rfl
         ·exact kd
         ·exact qf
         ·exact hS.s
         ·exact fun k hk => off_in (hS.o _ zd k hk)
         ·exact hx1
         ·exact rfl
         ·decide
         ·unfold maxLen;omega
         ·omega
         ·exact hS.u.size
         intro v4 w5 a1 a2 a3 a4
         have hov4 := a1.one
         have hS := hS.gs rfl a1 rfl a2 a4
         clear a1 a2 a3 a4
         apply Wl.nil
         refine Mtk.backE (fun _ h' => ⟨own_c h'.own k7,own_c h'.own k7⟩) ?_
         refine Mtk.pureT 15 kb kf kf kb kb kf ?_
         repeat' first | refine Wl.fieldAddrZ rfl rfl ?_ | apply Wl.nilM
         apply Mtk.back
         refine Mtk.eff1 (i := 9) kb kf kf ?_
         apply Wl.appendH (base := w.heap.size) (n := r.ins.length) (m := 1) (sz := 1) (e := 9) (xs := (r.ins.map strV))
         ·exact rfl
         ·exact rfl
         ·exact rfl
         ·exact kd
         ·exact rfl
         ·exact hS.i
         ·exact fun k hk => off_in (hS.o _ zd k hk)
         ·exact rfl
         ·exact rfl
         ·decide
         ·unfold maxLen;omega
         ·omega
         ·exact hS.u.size
         intro v9 w5 a1 a2 a3 a4
         have hov9 := a1.one
         have hS := hS.gi rfl a1 a2 a4
         clear a1 a2 a3 a4
         apply Wl.nil
         refine Mtk.backE (fun _ h' => ⟨own_c h'.own k7,own_c h'.own k7⟩) ?_
         refine Mtk.eff1 (i := 14) kb kf kf ?_
         apply Wl.appendH (base := w.heap.size) (n := r.bx.length) (m := 1) (sz := 1) (e := 76) (xs := vs)
         ·exact rfl
         ·exact rfl
         ·exact rfl
         ·exact kd
         ·exact rfl
         ·exact hS.b
         ·exact fun k hk => off_in (hS.o _ zd k hk)
         ·exact zb
         ·exact rfl
         ·decide
         ·unfold maxLen;omega
         ·omega
         ·exact hS.u.size
         intro v14 w5 a1 a2 a3 a4
         have hov14 := a1.one
         have hS := hS.gb rfl a1 a2 a4
         clear a1 a2 a3 a4
         apply Wl.nil
         refine Mtk.backE (fun _ h' => ⟨own_c h'.own k7,own_c h'.own k7⟩) ?_
         refine Mtk.cut kb kf ?_
         repeat' first | (apply Wl.store;exact rfl;exact rfl;exact kv;exact kd;exact ki) | apply Wl.nil
         refine Mt.backE (fun _ _ => trivial) ?_
         refine Mt.pz 17 ?_
         refine Mt.e1 18 ?_
         repeat' first | (apply Wl.store;exact rfl;exact rfl;exact kv;exact kd;exact ki) | apply Wl.nil
         refine Mt.backE (fun _ _ => trivial) ?_
         refine Mt.pz 19 ?_
         refine Mt.e1 20 ?_
         repeat' first | (apply Wl.store;exact rfl;exact rfl;exact kv;exact kd;exact ki) | apply Wl.nil
         refine Mt.backE (fun _ _ => trivial) ?_
         refine Mt.toGt kb ?_
         repeat' first | refine Wl.move rfl rfl ?_ | (refine Wl.addI rfl rfl rfl ?_ ?_;constructor <;> omega) | apply Wl.nil | apply St.region | apply Gt.next | apply Gt.inNormal
         refine Gt.reb (H' := [⟨c6,[.int .i64 tt,v4,v9,v14,.slice none 0 0,.pointer none],54⟩,⟨c4,[.int .i64 0,.slice none 0 0,.slice none 0 0,.slice none 0 0,.slice none 0 0,.pointer none],54⟩]) fun w6 h6 => ⟨h6.own.2.2.2.2,h6.apart.2.2.2.2,?_⟩
         have hS := (hS.hp h6 rfl).pop.pop.pop.pop
         exact Gt.round (j + 1,w6,ci,⟨r.L ++ [staC cj],r.ins ++ [gs],r.bx ++ [xl]⟩,v4,v9,v14,vs ++ [xv]) ⟨by simp only;omega,hS,za,by simp only [List.length_append,hl1];rfl,by simp only [List.length_append,hl2];rfl,by simp only [List.length_append,hl3];rfl⟩ ky kq (fun _ h => h)
       ·apply Wl.lit (cs := [xv])
        ·exact rfl
        ·(repeat (first | exact Parts.nil | apply Parts.cons rfl))
        ·exact rfl
        ·exact rfl
        ·exact CatP.one hxone rfl .nil
        intro d13 hd13 _
        have hS := hS.new hd13
        apply Wl.nil
        refine Mtk.backE (fun _ h' => ⟨own_c h'.own k7,own_c h'.own k7⟩) ?_
        refine Mtk.eff1 (i := 3) kb kf kf ?_
        apply Wl.lit (cs := (staC cj).cells)
        ·exact rfl
        ·(repeat (first | exact Parts.nil | apply Parts.cons rfl))
        ·exact rfl
        ·exact rfl
        ·exact CatP.agg qf .nil (lappE _)
        intro d3 hd3 _
        have hS := hS.new hd3
        apply Wl.nil
        refine Mtk.backE (fun _ h' => ⟨own_c h'.own k7,own_c h'.own k7⟩) ?_
        refine Mtk.eff1 (i := 4) kb kf kf ?_
        apply Wl.appendH (base := w.heap.size) (n := r.L.length) (m := 1) (sz := 35) (e := 44) (xs := (stas r.L).flatten)
        ·exact rfl
        ·exact rfl
        ·exact rfl
        ·exact kd
        ·exact qf
        ·exact hS.s
        ·exact fun k hk => off_in (hS.o _ zd k hk)
        ·exact hx1
        ·exact rfl
        ·decide
        ·unfold maxLen;omega
        ·omega
        ·exact hS.u.size
        intro v4 w5 a1 a2 a3 a4
        have hov4 := a1.one
        have hS := hS.gs rfl a1 rfl a2 a4
        clear a1 a2 a3 a4
        apply Wl.nil
        refine Mtk.backE (fun _ h' => ⟨own_c h'.own k7,own_c h'.own k7⟩) ?_
        refine Mtk.pureT 15 kb kf kf kb kb kf ?_
        repeat' first | refine Wl.fieldAddrZ rfl rfl ?_ | apply Wl.nilM
        apply Mtk.back
        refine Mtk.eff1 (i := 9) kb kf kf ?_
        apply Wl.appendH (base := w.heap.size) (n := r.ins.length) (m := 1) (sz := 1) (e := 9) (xs := (r.ins.map strV))
        ·exact rfl
        ·exact rfl
        ·exact rfl
        ·exact kd
        ·exact rfl
        ·exact hS.i
        ·exact fun k hk => off_in (hS.o _ zd k hk)
        ·exact rfl
        ·exact rfl
        ·decide
        ·unfold maxLen;omega
        ·omega
        ·exact hS.u.size
        intro v9 w5 a1 a2 a3 a4
        have hov9 := a1.one
        have hS := hS.gi rfl a1 a2 a4
        clear a1 a2 a3 a4
        apply Wl.nil
        refine Mtk.backE (fun _ h' => ⟨own_c h'.own k7,own_c h'.own k7⟩) ?_
        refine Mtk.eff1 (i := 14) kb kf kf ?_
        apply Wl.appendH (base := w.heap.size) (n := r.bx.length) (m := 1) (sz := 1) (e := 76) (xs := vs)
        ·exact rfl
        ·exact rfl
        ·exact rfl
        ·exact kd
        ·exact rfl
        ·exact hS.b
        ·exact fun k hk => off_in (hS.o _ zd k hk)
        ·exact zb
        ·exact rfl
        ·decide
        ·unfold maxLen;omega
        ·omega
        ·exact hS.u.size
        intro v14 w5 a1 a2 a3 a4
        have hov14 := a1.one
        have hS := hS.gb rfl a1 a2 a4
        clear a1 a2 a3 a4
        apply Wl.nil
        refine Mtk.backE (fun _ h' => ⟨own_c h'.own k7,own_c h'.own k7⟩) ?_
        refine Mtk.cut kb kf ?_
        repeat' first | (apply Wl.store;exact rfl;exact rfl;exact kv;exact kd;exact ki) | apply Wl.nil
        refine Mt.backE (fun _ _ => trivial) ?_
        refine Mt.pz 17 ?_
        refine Mt.e1 18 ?_
        repeat' first | (apply Wl.store;exact rfl;exact rfl;exact kv;exact kd;exact ki) | apply Wl.nil
        refine Mt.backE (fun _ _ => trivial) ?_
        refine Mt.pz 19 ?_
        refine Mt.e1 20 ?_
        repeat' first | (apply Wl.store;exact rfl;exact rfl;exact kv;exact kd;exact ki) | apply Wl.nil
        refine Mt.backE (fun _ _ => trivial) ?_
        refine Mt.toGt kb ?_
        repeat' first | refine Wl.move rfl rfl ?_ | (refine Wl.addI rfl rfl rfl ?_ ?_;constructor <;> omega) | apply Wl.nil | apply St.region | apply Gt.next | apply Gt.inNormal
        refine Gt.reb (H' := [⟨c6,[.int .i64 tt,v4,v9,v14,.slice none 0 0,.pointer none],54⟩,⟨c4,[.int .i64 0,.slice none 0 0,.slice none 0 0,.slice none 0 0,.slice none 0 0,.pointer none],54⟩]) fun w6 h6 => ⟨h6.own.2.2.2.2,h6.apart.2.2.2.2,?_⟩
        have hS := (hS.hp h6 rfl).pop.pop.pop.pop
        exact Gt.round (j + 1,w6,ci,⟨r.L ++ [staC cj],r.ins ++ [gs],r.bx ++ [xl]⟩,v4,v9,v14,vs ++ [xv]) ⟨by simp only;omega,hS,za,by simp only [List.length_append,hl1];rfl,by simp only [List.length_append,hl2];rfl,by simp only [List.length_append,hl3];rfl⟩ ky kq (fun _ h => h)
      ·apply Wl.lit (cs := [xv])
       ·exact rfl
       ·(repeat (first | exact Parts.nil | apply Parts.cons rfl))
       ·exact rfl
       ·exact rfl
       ·exact CatP.one hxone rfl .nil
       intro d13 hd13 _
       have hS := hS.new hd13
       apply Wl.nil
       refine Mtk.backE (fun _ h' => ⟨own_c h'.own k7,own_c h'.own k7⟩) ?_
       refine Mtk.eff2 (i := 3) (j := 8) kb kf kf kf kf ?_ ?_
       ·apply Wl.lit (cs := (staC cj).cells)
        ·exact rfl
        ·(repeat (first | exact Parts.nil | apply Parts.cons rfl))
        ·exact rfl
        ·exact rfl
        ·exact CatP.agg qf .nil (lappE _)
        intro d3 hd3 _
        have hS := hS.new hd3
        apply Wl.nil
        refine Mtk.backE (fun _ h' => ⟨own_c h'.own k7,own_c h'.own k7⟩) ?_
        refine Mtk.eff2 (i := 4) (j := 8) kb kf kf kf kf ?_ ?_
        ·apply Wl.appendH (base := w.heap.size) (n := r.L.length) (m := 1) (sz := 35) (e := 44) (xs := (stas r.L).flatten)
         ·exact rfl
         ·exact rfl
         ·exact rfl
         ·exact kd
         ·exact qf
         ·exact hS.s
         ·exact fun k hk => off_in (hS.o _ zd k hk)
         ·exact hx1
         ·exact rfl
         ·decide
         ·unfold maxLen;omega
         ·omega
         ·exact hS.u.size
         intro v4 w5 a1 a2 a3 a4
         have hov4 := a1.one
         have hS := hS.gs rfl a1 rfl a2 a4
         clear a1 a2 a3 a4
         apply Wl.nil
         refine Mtk.backE (fun _ h' => ⟨own_c h'.own k7,own_c h'.own k7⟩) ?_
         refine Mtk.pureT 15 kb kf kf kb kb kf ?_
         repeat' first | refine Wl.fieldAddrZ rfl rfl ?_ | apply Wl.nilM
         apply Mtk.back
         refine Mtk.eff1 (i := 8) kb kf kf ?_
         apply Wl.lit (cs := [strV gs])
         ·exact rfl
         ·(repeat (first | exact Parts.nil | apply Parts.cons rfl))
         ·exact rfl
         ·exact rfl
         ·exact CatP.one rfl rfl .nil
         intro d8 hd8 _
         have hS := hS.new hd8
         apply Wl.nil
         refine Mtk.backE (fun _ h' => ⟨own_c h'.own k7,own_c h'.own k7⟩) ?_
         refine Mtk.eff1 (i := 9) kb kf kf ?_
         apply Wl.appendH (base := w.heap.size) (n := r.ins.length) (m := 1) (sz := 1) (e := 9) (xs := (r.ins.map strV))
         ·exact rfl
         ·exact rfl
         ·exact rfl
         ·exact kd
         ·exact rfl
         ·exact hS.i
         ·exact fun k hk => off_in (hS.o _ zd k hk)
         ·exact rfl
         ·exact rfl
         ·decide
         ·unfold maxLen;omega
         ·omega
         ·exact hS.u.size
         intro v9 w5 a1 a2 a3 a4
         have hov9 := a1.one
         have hS := hS.gi rfl a1 a2 a4
         clear a1 a2 a3 a4
         apply Wl.nil
         refine Mtk.backE (fun _ h' => ⟨own_c h'.own k7,own_c h'.own k7⟩) ?_
         refine Mtk.eff1 (i := 14) kb kf kf ?_
         apply Wl.appendH (base := w.heap.size) (n := r.bx.length) (m := 1) (sz := 1) (e := 76) (xs := vs)
         ·exact rfl
         ·exact rfl
         ·exact rfl
         ·exact kd
         ·exact rfl
         ·exact hS.b
         ·exact fun k hk => off_in (hS.o _ zd k hk)
         ·exact zb
         ·exact rfl
         ·decide
         ·unfold maxLen;omega
         ·omega
         ·exact hS.u.size
         intro v14 w5 a1 a2 a3 a4
         have hov14 := a1.one
         have hS := hS.gb rfl a1 a2 a4
         clear a1 a2 a3 a4
         apply Wl.nil
         refine Mtk.backE (fun _ h' => ⟨own_c h'.own k7,own_c h'.own k7⟩) ?_
         refine Mtk.cut kb kf ?_
         repeat' first | (apply Wl.store;exact rfl;exact rfl;exact kv;exact kd;exact ki) | apply Wl.nil
         refine Mt.backE (fun _ _ => trivial) ?_
         refine Mt.pz 17 ?_
         refine Mt.e1 18 ?_
         repeat' first | (apply Wl.store;exact rfl;exact rfl;exact kv;exact kd;exact ki) | apply Wl.nil
         refine Mt.backE (fun _ _ => trivial) ?_
         refine Mt.pz 19 ?_
         refine Mt.e1 20 ?_
         repeat' first | (apply Wl.store;exact rfl;exact rfl;exact kv;exact kd;exact ki) | apply Wl.nil
         refine Mt.backE (fun _ _ => trivial) ?_
         refine Mt.toGt kb ?_
         repeat' first | refine Wl.move rfl rfl ?_ | (refine Wl.addI rfl rfl rfl ?_ ?_;constructor <;> omega) | apply Wl.nil | apply St.region | apply Gt.next | apply Gt.inNormal
         refine Gt.reb (H' := [⟨c6,[.int .i64 tt,v4,v9,v14,.slice none 0 0,.pointer none],54⟩,⟨c4,[.int .i64 0,.slice none 0 0,.slice none 0 0,.slice none 0 0,.slice none 0 0,.pointer none],54⟩]) fun w6 h6 => ⟨h6.own.2.2.2.2,h6.apart.2.2.2.2,?_⟩
         have hS := (hS.hp h6 rfl).pop.pop.pop.pop
         exact Gt.round (j + 1,w6,ci,⟨r.L ++ [staC cj],r.ins ++ [gs],r.bx ++ [xl]⟩,v4,v9,v14,vs ++ [xv]) ⟨by simp only;omega,hS,za,by simp only [List.length_append,hl1];rfl,by simp only [List.length_append,hl2];rfl,by simp only [List.length_append,hl3];rfl⟩ ky kq (fun _ h => h)
        ·apply Wl.lit (cs := [strV gs])
         ·exact rfl
         ·(repeat (first | exact Parts.nil | apply Parts.cons rfl))
         ·exact rfl
         ·exact rfl
         ·exact CatP.one rfl rfl .nil
         intro d8 hd8 _
         have hS := hS.new hd8
         apply Wl.nil
         refine Mtk.backE (fun _ h' => ⟨own_c h'.own k7,own_c h'.own k7⟩) ?_
         refine Mtk.eff1 (i := 4) kb kf kf ?_
         apply Wl.appendH (base := w.heap.size) (n := r.L.length) (m := 1) (sz := 35) (e := 44) (xs := (stas r.L).flatten)
         ·exact rfl
         ·exact rfl
         ·exact rfl
         ·exact kd
         ·exact qf
         ·exact hS.s
         ·exact fun k hk => off_in (hS.o _ zd k hk)
         ·exact hx1
         ·exact rfl
         ·decide
         ·unfold maxLen;omega
         ·omega
         ·exact hS.u.size
         intro v4 w5 a1 a2 a3 a4
         have hov4 := a1.one
         have hS := hS.gs rfl a1 rfl a2 a4
         clear a1 a2 a3 a4
         apply Wl.nil
         refine Mtk.backE (fun _ h' => ⟨own_c h'.own k7,own_c h'.own k7⟩) ?_
         refine Mtk.pureT 15 kb kf kf kb kb kf ?_
         repeat' first | refine Wl.fieldAddrZ rfl rfl ?_ | apply Wl.nilM
         apply Mtk.back
         refine Mtk.eff1 (i := 9) kb kf kf ?_
         apply Wl.appendH (base := w.heap.size) (n := r.ins.length) (m := 1) (sz := 1) (e := 9) (xs := (r.ins.map strV))
         ·exact rfl
         ·exact rfl
         ·exact rfl
         ·exact kd
         ·exact rfl
         ·exact hS.i
         ·exact fun k hk => off_in (hS.o _ zd k hk)
         ·exact rfl
         ·exact rfl
         ·decide
         ·unfold maxLen;omega
         ·omega
         ·exact hS.u.size
         intro v9 w5 a1 a2 a3 a4
         have hov9 := a1.one
         have hS := hS.gi rfl a1 a2 a4
         clear a1 a2 a3 a4
         apply Wl.nil
         refine Mtk.backE (fun _ h' => ⟨own_c h'.own k7,own_c h'.own k7⟩) ?_
         refine Mtk.eff1 (i := 14) kb kf kf ?_
         apply Wl.appendH (base := w.heap.size) (n := r.bx.length) (m := 1) (sz := 1) (e := 76) (xs := vs)
         ·exact rfl
         ·exact rfl
         ·exact rfl
         ·exact kd
         ·exact rfl
         ·exact hS.b
         ·exact fun k hk => off_in (hS.o _ zd k hk)
         ·exact zb
         ·exact rfl
         ·decide
         ·unfold maxLen;omega
         ·omega
         ·exact hS.u.size
         intro v14 w5 a1 a2 a3 a4
         have hov14 := a1.one
         have hS := hS.gb rfl a1 a2 a4
         clear a1 a2 a3 a4
         apply Wl.nil
         refine Mtk.backE (fun _ h' => ⟨own_c h'.own k7,own_c h'.own k7⟩) ?_
         refine Mtk.cut kb kf ?_
         repeat' first | (apply Wl.store;exact rfl;exact rfl;exact kv;exact kd;exact ki) | apply Wl.nil
         refine Mt.backE (fun _ _ => trivial) ?_
         refine Mt.pz 17 ?_
         refine Mt.e1 18 ?_
         repeat' first | (apply Wl.store;exact rfl;exact rfl;exact kv;exact kd;exact ki) | apply Wl.nil
         refine Mt.backE (fun _ _ => trivial) ?_
         refine Mt.pz 19 ?_
         refine Mt.e1 20 ?_
         repeat' first | (apply Wl.store;exact rfl;exact rfl;exact kv;exact kd;exact ki) | apply Wl.nil
         refine Mt.backE (fun _ _ => trivial) ?_
         refine Mt.toGt kb ?_
         repeat' first | refine Wl.move rfl rfl ?_ | (refine Wl.addI rfl rfl rfl ?_ ?_;constructor <;> omega) | apply Wl.nil | apply St.region | apply Gt.next | apply Gt.inNormal
         refine Gt.reb (H' := [⟨c6,[.int .i64 tt,v4,v9,v14,.slice none 0 0,.pointer none],54⟩,⟨c4,[.int .i64 0,.slice none 0 0,.slice none 0 0,.slice none 0 0,.slice none 0 0,.pointer none],54⟩]) fun w6 h6 => ⟨h6.own.2.2.2.2,h6.apart.2.2.2.2,?_⟩
         have hS := (hS.hp h6 rfl).pop.pop.pop.pop
         exact Gt.round (j + 1,w6,ci,⟨r.L ++ [staC cj],r.ins ++ [gs],r.bx ++ [xl]⟩,v4,v9,v14,vs ++ [xv]) ⟨by simp only;omega,hS,za,by simp only [List.length_append,hl1];rfl,by simp only [List.length_append,hl2];rfl,by simp only [List.length_append,hl3];rfl⟩ ky kq (fun _ h => h)
       ·apply Wl.lit (cs := [strV gs])
        ·exact rfl
        ·(repeat (first | exact Parts.nil | apply Parts.cons rfl))
        ·exact rfl
        ·exact rfl
        ·exact CatP.one rfl rfl .nil
        intro d8 hd8 _
        have hS := hS.new hd8
        apply Wl.nil
        refine Mtk.backE (fun _ h' => ⟨own_c h'.own k7,own_c h'.own k7⟩) ?_
        refine Mtk.eff1 (i := 3) kb kf kf ?_
        apply Wl.lit (cs := (staC cj).cells)
        ·exact rfl
        ·(repeat (first | exact Parts.nil | apply Parts.cons rfl))
        ·exact rfl
        ·exact rfl
        ·exact CatP.agg qf .nil (lappE _)
        intro d3 hd3 _
        have hS := hS.new hd3
        apply Wl.nil
        refine Mtk.backE (fun _ h' => ⟨own_c h'.own k7,own_c h'.own k7⟩) ?_
        refine Mtk.eff1 (i := 4) kb kf kf ?_
        apply Wl.appendH (base := w.heap.size) (n := r.L.length) (m := 1) (sz := 35) (e := 44) (xs := (stas r.L).flatten)
        ·exact rfl
        ·exact rfl
        ·exact rfl
        ·exact kd
        ·exact qf
        ·exact hS.s
        ·exact fun k hk => off_in (hS.o _ zd k hk)
        ·exact hx1
        ·exact rfl
        ·decide
        ·unfold maxLen;omega
        ·omega
        ·exact hS.u.size
        intro v4 w5 a1 a2 a3 a4
        have hov4 := a1.one
        have hS := hS.gs rfl a1 rfl a2 a4
        clear a1 a2 a3 a4
        apply Wl.nil
        refine Mtk.backE (fun _ h' => ⟨own_c h'.own k7,own_c h'.own k7⟩) ?_
        refine Mtk.pureT 15 kb kf kf kb kb kf ?_
        repeat' first | refine Wl.fieldAddrZ rfl rfl ?_ | apply Wl.nilM
        apply Mtk.back
        refine Mtk.eff1 (i := 9) kb kf kf ?_
        apply Wl.appendH (base := w.heap.size) (n := r.ins.length) (m := 1) (sz := 1) (e := 9) (xs := (r.ins.map strV))
        ·exact rfl
        ·exact rfl
        ·exact rfl
        ·exact kd
        ·exact rfl
        ·exact hS.i
        ·exact fun k hk => off_in (hS.o _ zd k hk)
        ·exact rfl
        ·exact rfl
        ·decide
        ·unfold maxLen;omega
        ·omega
        ·exact hS.u.size
        intro v9 w5 a1 a2 a3 a4
        have hov9 := a1.one
        have hS := hS.gi rfl a1 a2 a4
        clear a1 a2 a3 a4
        apply Wl.nil
        refine Mtk.backE (fun _ h' => ⟨own_c h'.own k7,own_c h'.own k7⟩) ?_
        refine Mtk.eff1 (i := 14) kb kf kf ?_
        apply Wl.appendH (base := w.heap.size) (n := r.bx.length) (m := 1) (sz := 1) (e := 76) (xs := vs)
        ·exact rfl
        ·exact rfl
        ·exact rfl
        ·exact kd
        ·exact rfl
        ·exact hS.b
        ·exact fun k hk => off_in (hS.o _ zd k hk)
        ·exact zb
        ·exact rfl
        ·decide
        ·unfold maxLen;omega
        ·omega
        ·exact hS.u.size
        intro v14 w5 a1 a2 a3 a4
        have hov14 := a1.one
        have hS := hS.gb rfl a1 a2 a4
        clear a1 a2 a3 a4
        apply Wl.nil
        refine Mtk.backE (fun _ h' => ⟨own_c h'.own k7,own_c h'.own k7⟩) ?_
        refine Mtk.cut kb kf ?_
        repeat' first | (apply Wl.store;exact rfl;exact rfl;exact kv;exact kd;exact ki) | apply Wl.nil
        refine Mt.backE (fun _ _ => trivial) ?_
        refine Mt.pz 17 ?_
        refine Mt.e1 18 ?_
        repeat' first | (apply Wl.store;exact rfl;exact rfl;exact kv;exact kd;exact ki) | apply Wl.nil
        refine Mt.backE (fun _ _ => trivial) ?_
        refine Mt.pz 19 ?_
        refine Mt.e1 20 ?_
        repeat' first | (apply Wl.store;exact rfl;exact rfl;exact kv;exact kd;exact ki) | apply Wl.nil
        refine Mt.backE (fun _ _ => trivial) ?_
        refine Mt.toGt kb ?_
        repeat' first | refine Wl.move rfl rfl ?_ | (refine Wl.addI rfl rfl rfl ?_ ?_;constructor <;> omega) | apply Wl.nil | apply St.region | apply Gt.next | apply Gt.inNormal
        refine Gt.reb (H' := [⟨c6,[.int .i64 tt,v4,v9,v14,.slice none 0 0,.pointer none],54⟩,⟨c4,[.int .i64 0,.slice none 0 0,.slice none 0 0,.slice none 0 0,.slice none 0 0,.pointer none],54⟩]) fun w6 h6 => ⟨h6.own.2.2.2.2,h6.apart.2.2.2.2,?_⟩
        have hS := (hS.hp h6 rfl).pop.pop.pop.pop
        exact Gt.round (j + 1,w6,ci,⟨r.L ++ [staC cj],r.ins ++ [gs],r.bx ++ [xl]⟩,v4,v9,v14,vs ++ [xv]) ⟨by simp only;omega,hS,za,by simp only [List.length_append,hl1];rfl,by simp only [List.length_append,hl2];rfl,by simp only [List.length_append,hl3];rfl⟩ ky kq (fun _ h => h)
   ·obtain rfl : j = n := by omega
    have hdj : decide ((j : Int) < (j : Int)) = false := decide_eq_false kc
    rw [Nat.sub_self] at hrw
    repeat' first | refine Wl.lss rfl rfl rfl ?_ | apply Wl.nil | apply St.seq | apply St.region | (apply St.condF;exact rfl;exact k5) | apply St.exit | apply Gt.next | apply Gt.thenExit | apply Gt.inExit
    exact Gt.meet (wj,cj,r,sv,iv,bv,vs) ⟨hS,hrw,hl1,hl2,hl3⟩ kq (fun _ h => h)
  clear hS
  rintro ⟨wj,cj,r,sv,iv,bv,vs⟩ ⟨hS,hrw,hl1,hl2,hl3⟩
  try simp only at hS hrw hl1 hl2 hl3 ⊢
  have hst : stateC n cu = tailC n tt r cj := by unfold stateC;rw [if_pos h0,hcu3,hrw,htt]
  repeat' first | refine Wl.move rfl rfl ?_ | refine Wl.assign rfl rfl ?_ | apply Wl.nil | apply St.seq | apply St.region | apply Gt.next
  apply Wl.callC
  ·exact rfl
  ·exact kd
  intro wq hq
  have hS := hS.hp hq rfl
  refine (cuU16 ca src all _ wq hS.cur).mono ?_
  rintro e w1 ⟨rfl,h1,u1⟩
  have hH := hS.hpc hq rfl u1
  have hS := hS.turn h1 u1
  refine ⟨_,_,rfl,hH,?_⟩
  clear hq h1 u1 hH
  try simp only at hS
  repeat' first | refine Wl.move rfl rfl ?_ | apply Wl.nil | apply St.block | apply Gt.next
  have hm := Cu.u_lt cj 2 kc
  refine St.loop (σ := Nat × World × Cu × Value × List (Int × List UInt8) × Nat) (fun τ => τ.1 ≤ (cj.u 2).1 ∧ R4 w τ.2.1 ca src all [c6,c4] τ.2.2.1 r.L r.ins r.bx [] τ.2.2.2.2.1 sv iv bv (.slice none 0 0) τ.2.2.2.1 vs ∧ linC n (cj.u 2).1 0 [] (cj.u 2).2 = linC n ((cj.u 2).1 - τ.1) τ.2.2.2.2.2 τ.2.2.2.2.1 τ.2.2.1 ∧ τ.2.2.2.2.1.length = τ.1 ∧ τ.2.2.2.2.2 ≤ 256)
   (fun τ => [(0,.pointer (some ⟨ca,0,none⟩)),(1,.int .i64 (n : Int)),(4,.pointer (some ⟨c4,0,none⟩)),(5,.bool false),(6,.pointer (some ⟨c6,0,none⟩)),(16,.int .i64 (τ.2.2.2.2.2 : Int)),(116,.int .i64 ((cj.u 2).1 : Int)),(117,.int .i64 (τ.1 : Int))])
   (fun τ => Hp τ.2.1 [⟨c6,[.int .i64 tt,sv,iv,bv,τ.2.2.2.1,.pointer none],54⟩,⟨c4,[.int .i64 0,.slice none 0 0,.slice none 0 0,.slice none 0 0,.slice none 0 0,.pointer none],54⟩]) (fun τ => (cj.u 2).1 - τ.1)
   (0,_,(cj.u 2).2,.slice none 0 0,[],0) ⟨Nat.zero_le _,hS,rfl,rfl,Nat.zero_le _⟩ kq (fun _ h => h) ?_
  clear hS
  rintro ⟨i,wi,ci,lv,ll,u⟩ ⟨hi,hS,hli,hll,hu⟩
  try simp only at hi hS hli hll hu ⊢
  have o1 := hS.s.one
  have o2 := hS.i.one
  have o3 := hS.b.one
  have o4 := hS.l.one
  by_cases him : i < (cj.u 2).1
  ·have hdi : decide ((i : Int) < ((cj.u 2).1 : Int)) = true := decide_eq_true kc
   obtain ⟨q2,hq2⟩ : ∃ q,(cj.u 2).1 - i = q + 1 := ⟨(cj.u 2).1 - i - 1,by omega⟩
   rw [hq2] at hli
   repeat' first | refine Wl.move rfl rfl ?_ | refine Wl.lss rfl rfl rfl ?_ | apply Wl.nil | apply St.seq | apply St.block | apply St.region | (apply St.condT;exact rfl;exact k5) | apply St.skip | apply Gt.next
   apply Wl.callC
   ·exact rfl
   ·exact kd
   intro wq hq
   have hS := hS.hp hq rfl
   refine (cuU8 ca src all _ wq hS.cur).mono ?_
   rintro e w1 ⟨rfl,h1,u1⟩
   have hH := hS.hpc hq rfl u1
   have hS := hS.turn h1 u1
   refine ⟨_,_,rfl,hH,?_⟩
   clear hq h1 u1 hH
   try simp only at hS
   repeat' first | refine Wl.move rfl rfl ?_ | refine Wl.assign rfl rfl ?_ | apply Wl.nil | apply St.seq | apply St.region | apply Gt.next
   apply Wl.callC
   ·exact rfl
   ·exact kd
   intro wq hq
   have hS := hS.hp hq rfl
   refine (sGet ca src all _ 64 wq hS.cur).mono ?_
   rintro e w1 ⟨rfl,h1,u1⟩
   have hH := hS.hpc hq rfl u1
   have hS := hS.turn h1 u1
   refine ⟨_,_,rfl,hH,?_⟩
   clear hq h1 u1 hH
   try simp only at hS
   rcases hg : getC (ci.u 1).2 64 with ⟨⟨ts,tb⟩,ct⟩
   have hlen : ts.length ≤ 64 := by have := getC_len (ci.u 1).2 64;rw [hg] at this;exact this
   rw [hg] at hS
   simp only at hS ⊢
   have hz : IntKind.i64.wrap ((u : Int) + ((strOf ts).size : Int)) = ((u + ts.length : Nat) : Int) := by
    rw [strV_size ts,IntKind.wrap_i64]
    omega
   have hln : ¬ (tb = true ∧ (ci.u 1).1 < n ∧ ts ≠ [] ∧ u + ts.length ≤ 256) → stateC n cu = none := fun e => by rw [hst];exact tailC_no (by rw [hli];exact linC_no hg e)
   cases tb
   ·have e0 := hln zd
    repeat' first | (apply Wl.addIs hz;exact rfl;exact rfl;exact rfl) | (apply Wl.storeA;exact rfl;exact rfl;exact rfl;(show (true && (Value.oneCell' sv && (Value.oneCell' iv && (Value.oneCell' bv && (Value.oneCell' lv && (true && true)))))) = true;rw [o1,o2,o3,o4];rfl);exact kd;exact .z (LOver.whole rfl)) | refine Wl.move rfl rfl ?_ | refine Wl.assign rfl rfl ?_ | (apply Wl.off;exact rfl;exact rfl;exact rfl;exact kh) | refine Wl.extract rfl rfl rfl ?_ | (apply Wl.pickT;exact rfl;exact rfl;exact k5;exact rfl) | refine Wl.not rfl rfl ?_ | refine Wl.lenS rfl rfl ?_ | (apply Wl.loadAH;exact rfl;exact rfl;exact kd;exact kd) | apply Wl.nil | apply St.seq | apply St.region | (apply St.condT;exact rfl;exact k5) | apply St.ret | apply Gt.next | apply Gt.thenRet | apply Gt.inRet
    apply Gt.outCT
    ·exact rfl
    ·infer_instance
    ·exact rfl
    ·exact rfl
    ·exact kd
    ·exact LSub.whole rfl
    intro w' hp
    exact ⟨by rw [e0];exact ⟨_,_,_,_,_,_,rfl,by simp only [List.all_cons,List.all_nil,hS.s.one,hS.i.one,hS.b.one,hS.l.one];rfl⟩,(hS.hp hp rfl).u⟩
   by_cases hw : (ci.u 1).1 < n
   ·have hdw : decide (((ci.u 1).1 : Int) ≥ (n : Int)) = false := decide_eq_false kc
    by_cases hts : ts = []
    ·have hds : decide (ts = []) = true := decide_eq_true hts
     have e0 := hln (fun h => h.2.2.1 hts)
     repeat' first | (apply Wl.addIs hz;exact rfl;exact rfl;exact rfl) | (apply Wl.storeA;exact rfl;exact rfl;exact rfl;(show (true && (Value.oneCell' sv && (Value.oneCell' iv && (Value.oneCell' bv && (Value.oneCell' lv && (true && true)))))) = true;rw [o1,o2,o3,o4];rfl);exact kd;exact .z (LOver.whole rfl)) | refine Wl.move rfl rfl ?_ | refine Wl.assign rfl rfl ?_ | (apply Wl.on;exact rfl;exact rfl;exact k5) | (apply Wl.off;exact rfl;exact rfl;exact rfl;exact kh) | refine Wl.extract rfl rfl rfl ?_ | (apply Wl.pickT;exact rfl;exact rfl;exact k5;exact rfl) | (apply Wl.pickF;exact rfl;exact rfl;exact k5;exact rfl) | refine Wl.not rfl rfl ?_ | refine Wl.geq rfl rfl rfl ?_ | refine Wl.eqlSB rfl rfl rfl ?_ | refine Wl.lenS rfl rfl ?_ | (apply Wl.loadAH;exact rfl;exact rfl;exact kd;exact kd) | apply Wl.nil | apply St.seq | apply St.region | (apply St.condT;exact rfl;exact k5) | apply St.ret | apply Gt.next | apply Gt.thenRet | apply Gt.inRet
     apply Gt.outCT
     ·exact rfl
     ·infer_instance
     ·exact rfl
     ·exact rfl
     ·exact kd
     ·exact LSub.whole rfl
     intro w' hp
     exact ⟨by rw [e0];exact ⟨_,_,_,_,_,_,rfl,by simp only [List.all_cons,List.all_nil,hS.s.one,hS.i.one,hS.b.one,hS.l.one];rfl⟩,(hS.hp hp rfl).u⟩
    ·have hds : decide (ts = []) = false := decide_eq_false hts
     by_cases hbig : u + ts.length ≤ 256
     ·have hdb : decide (((u + ts.length : Nat) : Int) > 256) = false := decide_eq_false kc
      repeat' first | (apply Wl.addIs hz;exact rfl;exact rfl;exact rfl) | refine Wl.move rfl rfl ?_ | refine Wl.assign rfl rfl ?_ | (apply Wl.on;exact rfl;exact rfl;exact k5) | refine Wl.extract rfl rfl rfl ?_ | (apply Wl.pickF;exact rfl;exact rfl;exact k5;exact rfl) | refine Wl.not rfl rfl ?_ | refine Wl.fieldAddrZ rfl rfl ?_ | (apply Wl.loadH;exact rfl;exact rfl;exact kd;exact rfl) | refine Wl.gtr rfl rfl rfl ?_ | refine Wl.geq rfl rfl rfl ?_ | refine Wl.eqlSB rfl rfl rfl ?_ | refine Wl.lenS rfl rfl ?_ | (apply Wl.buildS;exact rfl;exact kj;exact ka) | (apply Wl.lit;exact rfl;exact kj;exact rfl;exact rfl;exact ke;intro c hc ho) | apply Wl.nil | apply St.seq | apply St.region | (apply St.condF;exact rfl;exact k5) | apply St.skip | apply Gt.next
      apply Wl.appendT (base := w.heap.size) (n := ll.length) (m := 1) (sz := 2) (e := 111) (xs := (ll.map lineC).flatten)
      ·exact rfl
      ·exact rfl
      ·exact rfl
      ·assumption
      ·exact rfl
      ·exact hS.l
      ·exact fun k hk => off_in (hS.o _ zd k hk)
      ·exact rfl
      ·exact rfl
      ·decide
      ·unfold maxLen;omega
      ·omega
      ·exact hS.u.size
      intro lv' w5 a1 a2 a3 a4
      have hov := a1.one
      have hS := hS.gl (z := ((((ci.u 1).1 : Nat) : Int),ts)) rfl a1 a2 a4
      clear a1 a2 a3 a4
      repeat' first | (apply Wl.store;exact rfl;exact rfl;exact hov;exact kd;exact ki) | refine Wl.move rfl rfl ?_ | refine Wl.fieldAddrZ rfl rfl ?_ | (refine Wl.addI rfl rfl rfl ?_ ?_;constructor <;> omega) | apply Wl.nil | apply St.region | apply Gt.next | apply Gt.inNormal
      exact Gt.round (i + 1,w5,ct,lv',ll ++ [((((ci.u 1).1 : Nat) : Int),ts)],u + ts.length) ⟨by simp only;omega,hS,(by rw [hli,linC_so hg ⟨hw,hts,hbig⟩];simp only;rw [show (cj.u 2).1 - (i + 1) = q2 by omega]),by rw [List.length_append,hll];rfl,hbig⟩ ky kq (fun _ h => h)
     ·have hdb : decide (((u + ts.length : Nat) : Int) > 256) = true := decide_eq_true kc
      have e0 := hln (fun h => hbig h.2.2.2)
      repeat' first | (apply Wl.addIs hz;exact rfl;exact rfl;exact rfl) | (apply Wl.storeA;exact rfl;exact rfl;exact rfl;(show (true && (Value.oneCell' sv && (Value.oneCell' iv && (Value.oneCell' bv && (Value.oneCell' lv && (true && true)))))) = true;rw [o1,o2,o3,o4];rfl);exact kd;exact .z (LOver.whole rfl)) | refine Wl.move rfl rfl ?_ | refine Wl.assign rfl rfl ?_ | (apply Wl.on;exact rfl;exact rfl;exact k5) | refine Wl.extract rfl rfl rfl ?_ | (apply Wl.pickF;exact rfl;exact rfl;exact k5;exact rfl) | refine Wl.not rfl rfl ?_ | refine Wl.gtr rfl rfl rfl ?_ | refine Wl.geq rfl rfl rfl ?_ | refine Wl.eqlSB rfl rfl rfl ?_ | refine Wl.lenS rfl rfl ?_ | (apply Wl.loadAH;exact rfl;exact rfl;exact kd;exact kd) | apply Wl.nil | apply St.seq | apply St.region | (apply St.condT;exact rfl;exact k5) | apply St.ret | apply Gt.next | apply Gt.thenRet | apply Gt.inRet
      apply Gt.outCT
      ·exact rfl
      ·infer_instance
      ·exact rfl
      ·exact rfl
      ·exact kd
      ·exact LSub.whole rfl
      intro w' hp
      exact ⟨by rw [e0];exact ⟨_,_,_,_,_,_,rfl,by simp only [List.all_cons,List.all_nil,hS.s.one,hS.i.one,hS.b.one,hS.l.one];rfl⟩,(hS.hp hp rfl).u⟩
   ·have hdw : decide (((ci.u 1).1 : Int) ≥ (n : Int)) = true := decide_eq_true kc
    have e0 := hln (fun h => hw h.2.1)
    repeat' first | (apply Wl.addIs hz;exact rfl;exact rfl;exact rfl) | (apply Wl.storeA;exact rfl;exact rfl;exact rfl;(show (true && (Value.oneCell' sv && (Value.oneCell' iv && (Value.oneCell' bv && (Value.oneCell' lv && (true && true)))))) = true;rw [o1,o2,o3,o4];rfl);exact kd;exact .z (LOver.whole rfl)) | refine Wl.move rfl rfl ?_ | refine Wl.assign rfl rfl ?_ | (apply Wl.on;exact rfl;exact rfl;exact k5) | (apply Wl.off;exact rfl;exact rfl;exact rfl;exact kh) | refine Wl.extract rfl rfl rfl ?_ | (apply Wl.pickT;exact rfl;exact rfl;exact k5;exact rfl) | (apply Wl.pickF;exact rfl;exact rfl;exact k5;exact rfl) | refine Wl.not rfl rfl ?_ | refine Wl.geq rfl rfl rfl ?_ | refine Wl.lenS rfl rfl ?_ | (apply Wl.loadAH;exact rfl;exact rfl;exact kd;exact kd) | apply Wl.nil | apply St.seq | apply St.region | (apply St.condT;exact rfl;exact k5) | apply St.ret | apply Gt.next | apply Gt.thenRet | apply Gt.inRet
    apply Gt.outCT
    ·exact rfl
    ·infer_instance
    ·exact rfl
    ·exact rfl
    ·exact kd
    ·exact LSub.whole rfl
    intro w' hp
    exact ⟨by rw [e0];exact ⟨_,_,_,_,_,_,rfl,by simp only [List.all_cons,List.all_nil,hS.s.one,hS.i.one,hS.b.one,hS.l.one];rfl⟩,(hS.hp hp rfl).u⟩
  ·have hie : i = (cj.u 2).1 := by omega
   have hdi : decide ((i : Int) < ((cj.u 2).1 : Int)) = false := decide_eq_false kc
   rw [hie,Nat.sub_self] at hli
   have hst2 : stateC n cu = match unpC 65536 0 (fun _ => 0) ci with
    | none => none
    | some y => if (!y.2.bad && decide (y.2.l = [])) = true then some ⟨tt,r,ll,y.1⟩ else none := by
    rw [hst];unfold tailC;rw [hli];rfl
   repeat' first | refine Wl.move rfl rfl ?_ | refine Wl.lss rfl rfl rfl ?_ | apply Wl.nil | apply St.seq | apply St.region | (apply St.condF;exact rfl;exact k5) | apply St.exit | apply Gt.next | apply Gt.thenExit | apply Gt.inExit
   apply Wl.callC
   ·exact rfl
   ·exact kd
   intro wq hq
   have hS := hS.hp hq rfl
   have lq6 : c6 < wq.heap.size := lt_of_block (own_c hq.own (.head _))
   have lq4 : c4 < wq.heap.size := lt_of_block (own_c hq.own (.tail _ (.head _)))
   refine (sUnpack ca src all _ wq hS.cur (fun k hk hne => Nat.lt_of_lt_of_le (hS.cl.2 k hk hne) hS.u.size)).mono ?_
   rintro e w1 ⟨u1,hr⟩
   have g6 := hS.d c6 zd
   have g4 := hS.d c4 zd
   have gl := hS.cl.1
   have hH : Hp w1 _ w1 := ⟨Upd.refl _ _,hq.own.upd u1 k6,hq.apart⟩
   rcases hr with ⟨hu,rfl⟩ | ⟨f,cu',d,hu,hd,rfl,hm'⟩
   ·have e0 : stateC n cu = none := by rw [hst2,hu]
    refine ⟨_,_,rfl,hH,?_⟩
    repeat' first | (apply Wl.storeA;exact rfl;exact rfl;exact rfl;(show (true && (Value.oneCell' sv && (Value.oneCell' iv && (Value.oneCell' bv && (Value.oneCell' lv && (true && true)))))) = true;rw [o1,o2,o3,o4];rfl);exact kd;exact .z (LOver.whole rfl)) | refine Wl.move rfl rfl ?_ | refine Wl.assign rfl rfl ?_ | refine Wl.extract rfl rfl rfl ?_ | refine Wl.fieldAddrZ rfl rfl ?_ | (apply Wl.store;exact rfl;exact rfl;exact rfl;exact kd;exact ki) | (apply Wl.loadAH;exact rfl;exact rfl;exact kd;exact kd) | apply Wl.nil | apply St.seq | apply St.region | apply St.ret | apply Gt.next
    apply Gt.outCT
    ·exact rfl
    ·infer_instance
    ·exact rfl
    ·exact rfl
    ·exact kd
    ·exact LSub.whole rfl
    intro w' hp
    have hfin := hS.fin (u1.comp hp.upd (T := fun k => (k = ca ∨ wq.heap.size ≤ k) ∨ k ∈ [c6,c4]) fun k _ h => h.imp id fun y => in_off y) fun k hk hlt => hk.elim (fun h => h.elim .inl fun h => by omega) .inr
    exact ⟨by rw [e0];exact ⟨_,_,_,_,_,_,rfl,by simp only [List.all_cons,List.all_nil,o1,o2,o3,o4];rfl⟩,hfin.1⟩
   ·refine ⟨_,_,rfl,hH,?_⟩
    rw [hu] at hst2
    simp only at hst2
    generalize hbb : (!cu'.bad && decide (cu'.l = [])) = bb at *
    cases bb
    ·have e0 : stateC n cu = none := hst2
     repeat' first | (apply Wl.storeA;exact rfl;exact rfl;exact rfl;(show (true && (Value.oneCell' sv && (Value.oneCell' iv && (Value.oneCell' bv && (Value.oneCell' lv && (true && true)))))) = true;rw [o1,o2,o3,o4];rfl);exact kd;exact .z (LOver.whole rfl)) | refine Wl.move rfl rfl ?_ | refine Wl.assign rfl rfl ?_ | refine Wl.extract rfl rfl rfl ?_ | refine Wl.fieldAddrZ rfl rfl ?_ | (apply Wl.store;exact rfl;exact rfl;exact rfl;exact kd;exact ki) | (apply Wl.loadAH;exact rfl;exact rfl;exact kd;exact kd) | apply Wl.nil | apply St.seq | apply St.region | apply St.ret | apply Gt.next
     apply Gt.outCT
     ·exact rfl
     ·infer_instance
     ·exact rfl
     ·exact rfl
     ·exact kd
     ·exact LSub.whole rfl
     intro w' hp
     have hfin := hS.fin (u1.comp hp.upd (T := fun k => (k = ca ∨ wq.heap.size ≤ k) ∨ k ∈ [c6,c4]) fun k _ h => h.imp id fun y => in_off y) fun k hk hlt => hk.elim (fun h => h.elim .inl fun h => by omega) .inr
     exact ⟨by rw [e0];exact ⟨_,_,_,_,_,_,rfl,by simp only [List.all_cons,List.all_nil,o1,o2,o3,o4];rfl⟩,hfin.1⟩
    ·have e0 : stateC n cu = some ⟨tt,r,ll,f⟩ := hst2
     repeat' first | (apply Wl.storeA;exact rfl;exact rfl;exact rfl;(show (true && (Value.oneCell' sv && (Value.oneCell' iv && (Value.oneCell' bv && (Value.oneCell' lv && (true && true)))))) = true;rw [o1,o2,o3,o4];rfl);exact kd;exact .z (LOver.whole rfl)) | refine Wl.move rfl rfl ?_ | refine Wl.assign rfl rfl ?_ | refine Wl.extract rfl rfl rfl ?_ | refine Wl.fieldAddrZ rfl rfl ?_ | (apply Wl.store;exact rfl;exact rfl;exact rfl;exact kd;exact ki) | (apply Wl.loadAH;exact rfl;exact rfl;exact kd;exact kd) | apply Wl.nil | apply St.seq | apply St.region | apply St.ret | apply Gt.next
     apply Gt.outCT
     ·exact rfl
     ·infer_instance
     ·exact rfl
     ·exact rfl
     ·exact kd
     ·exact LSub.whole rfl
     intro w' hp
     have hfin := hS.fin (u1.comp hp.upd (T := fun k => (k = ca ∨ wq.heap.size ≤ k) ∨ k ∈ [c6,c4]) fun k _ h => h.imp id fun y => in_off y) fun k hk hlt => hk.elim (fun h => h.elim .inl fun h => by omega) .inr
     obtain ⟨f1,f2,f3,f4,f5,f6⟩ := hfin
     have hmw : memH w' d f := by
      refine hp.upd.heap hm' fun y => ?_
      have := in_off y
      simp only [List.map_cons,List.map_nil,List.mem_cons,List.not_mem_nil,or_false] at this
      omega
     exact ⟨by rw [e0];exact ⟨sv,iv,bv,lv,d,vs,rfl,⟨f2,f3,f4,f5,f6,hmw⟩,Nat.le_trans hS.u.size hd⟩,f1⟩
 ·have hd : decide (((cu.u 1).1 : Int) ≠ (n : Int)) = true := by simp;omega
  have e0 : stateC n cu = none := if_neg h0
  repeat' first | refine Wl.move rfl rfl ?_ | refine Wl.assign rfl rfl ?_ | refine Wl.neq rfl rfl rfl ?_ | (apply Wl.storeA;exact rfl;exact rfl;exact rfl;exact rfl;exact kd;exact kn) | (apply Wl.loadAH;exact rfl;exact rfl;exact kd;exact kd) | apply Wl.nil | apply St.seq | apply St.region | (apply St.condT;exact rfl;exact k5) | apply St.ret | apply Gt.next | apply Gt.thenRet
  apply Gt.outCT
  ·exact rfl
  ·infer_instance
  ·exact rfl
  ·exact rfl
  ·exact kd
  ·exact LSub.whole rfl
  intro w' hp
  exact ⟨by rw [e0];exact ⟨_,_,_,_,_,_,rfl,by simp only [List.all_cons,List.all_nil,hS.s.one,hS.i.one,hS.b.one,hS.l.one];rfl⟩,(hS.hp hp rfl).u⟩
end Go.Proofs.YtabbklpalbikdaaGreatDoor
end
section
namespace Go.Pt
open Go.RowKit
section
variable {P : Program} {md : Md} {N : Nat} {ops : Array Oper} {rest : List Oper} {Γ : Env} {C : World → Prop} {Q : Exit → Act → World → Prop} {d : Nat} {ty : TypeId} {pos : String} {af : Array Edge}
theorem run_appendS {w : World} {t u ty e base n : Nat} {v : Value} {xs : List Value} {s : ByteArray} [ht : TyD P t (.slice e)] [hu : TyD P u .string] [hs : TyS P e 1 1] [hz : TyZ P e (.int .u8 0)]
  (hown : w.ownsRow base e 1 v n xs) (h63 : n + s.size ≤ maxLen) (hb : n + s.size ≤ 140737488355328) (hbase : base ≤ w.heap.size) :
  ∃ v' w',(Builtin.append_ #[t,u] ty #[v,.string s]).run P w = .ok v' w' ∧ w'.ownsRow base e 1 v' (n + s.size) (xs ++ Lib.strCells s) ∧ w.grownBy w' v.ownBlock ∧ ∀ k,v'.ownBlock = some k → v.ownBlock = some k ∨ w.heap.size ≤ k := by
 have a1 := hs.out
 have a2 := hz.out
 cases e1 : P.info? e with
 | none => rw [e1] at a1;cases a1
 | some i =>
  rw [e1] at a1 a2
  simp at a1 a2
  obtain ⟨v',w',hr,h2,h3,_⟩ := Lib.run_append_own_string (P := P) w base t u ty e i ht.out hu.out e1 a2 a1.1 a1.2 v n xs hown s h63 hb hbase
  refine ⟨v',w',hr,h2,h3,?_⟩
  have hxl : xs.length = n := by simpa using hown.1
  rcases hown.2 with ⟨rfl,rfl⟩ | ⟨g,cap,cur,rfl,hbg,hg,hnc,hcm,hcs,htake⟩
  ·have hx : xs = [] := List.eq_nil_of_length_eq_zero hxl
   subst hx
   obtain ⟨v2,w2,hr2,h22,_⟩ := Lib.run_append_own_string (P := P) w w.heap.size t u ty e i ht.out hu.out e1 a2 a1.1 a1.2 (.slice none 0 0) 0 [] (World.ownsRow_nil w _ e 1) s h63 hb (Nat.le_refl _)
   have he := hr.symm.trans hr2
   injection he with he _
   subst he
   exact fun k hk => .inr (h22.lt k hk).1
  ·by_cases hroom : n + s.size ≤ cap
   ·have hr2 := Lib.run_append_room_string (P := P) w t u ty e i ht.out hu.out e1 a1.1 g n cap cur hg s hroom kc
    have he := hr.symm.trans hr2
    injection he with he _
    subst he
    exact fun k hk => .inl hk
   ·have hr2 := Lib.run_append_grow_string (P := P) w t u ty e i (.int .u8 0) ht.out hu.out e1 a2 ⟨g,0,none⟩ n cap xs (by rw [a1.1];simpa using hxl) (hown.cells (g := g) rfl) s kc (by unfold maxLen at h63;omega) (by rw [a1.2];exact growslice_fits kc kc)
    have he := hr.symm.trans hr2
    injection he with he _
    subst he
    exact fun k hk => .inr (by cases hk;exact Nat.le_refl _)
theorem Wl.appendS {w0 : World} {H : List Blk} {t u e base n : Nat} {v : Value} {xs : List Value} {l : List UInt8} {s x : Operand} [ht : TyD P t (.slice e)] [hu : TyD P u .string] [hs : TyS P e 1 1] [hz : TyZ P e (.int .u8 0)]
  (hd : Nat.blt d N = true) (hs' : ev Γ s = some v) (hx : ev Γ x = some (.string (strOf l))) (hown : w0.ownsRow base e 1 v n xs) (hoff : ∀ k,v.ownBlock = some k → Off H k) (h63 : n + l.length ≤ maxLen) (hb : n + l.length ≤ 140737488355328) (hbase : base ≤ w0.heap.size)
  (h : ∀ v' w1,w1.ownsRow base e 1 v' (n + l.length) (xs ++ byteCells l) → Upd (fun k => v.ownBlock = some k ∨ ¬ Off H k) w0 w1 → (∀ k,v'.ownBlock = some k → Off H k ∧ (v.ownBlock = some k ∨ w0.heap.size ≤ k)) → Wl rest P .seq ops N ((d,v') :: Γ) (Hp w1 H) Q) :
  Wl (⟨some d,.call { callee := .builtin .append,args := #[s,x],argTypes := #[t,u] },ty,pos,af,none⟩ :: rest) P .seq ops N Γ (Hp w0 H) Q :=
 Wl.eff fun a w ha hw => by
  have hown' : w.ownsRow base e 1 v n xs := ownsRow_upd hown hw.upd fun k hk x => x (hoff k hk)
  obtain ⟨v',w',hrun,ho,hg,hk⟩ := run_appendS (P := P) (t := t) (u := u) (ty := ty) (s := strOf l) hown' h63 hb (Nat.le_trans hbase hw.upd.size)
  have u : Upd (fun k => v.ownBlock = some k) w w' := Upd.grown hg fun k hk => hk
  have hp1 : Own w' H := hw.own.upd u fun y hy hk => (hoff _ hk).at hy rfl
  refine ⟨v',w',.inl ?_,(h v' w' ho ((hw.upd.mono fun k _ hk => .inr hk).trans (u.mono fun k _ hk => .inl hk)) (fun k hk' => (hk k hk').elim (fun e => ⟨hoff k e,.inl e⟩) fun hge => ⟨Off.of fun y hy e => by have := hw.own.lt hy;omega,.inr (Nat.le_trans hw.upd.size hge)⟩)).elim _ _ (ha.put hd _) ⟨Upd.refl _ _,hp1,hw.apart⟩⟩
  simp [execOp,resolve,invoke,builtin,ha.ev hs',ha.ev hx,hrun]
end
end Go.Pt
end
section
namespace Go.Proofs.YtabbklpalbikdaaGreatDoor
open Go.RowKit Go.Pt
theorem p16X (base : Nat) (v : Value) (l : List UInt8) (x : Int) (w : World) (h : Bo w base v l) (hb : base ≤ w.heap.size) (hl : l.length ≤ 1099511627776) :
  Calls Tryz.prog 93 #[v,.int .i64 x] w fun e w' => ∃ v',e = .returned v' ∧ Bo w' base v' (l ++ leB 2 (x % 65536).toNat) ∧ Upd (fun k => v.ownBlock = some k) w w' ∧ (∀ k,v'.ownBlock = some k → v.ownBlock = some k ∨ w.heap.size ≤ k) := by
 obtain ⟨a,cap,rfl,hlc,hm⟩ := h.shape
 refine enter (args := [_,_]) (Γ := [(0,_),(1,_)]) Tryz.func93 Tryz.ntmps93 rfl odq (.cons rfl (.cons rfl .nil)) ?_
 repeat' first | refine Wl.move rfl rfl ?_ | refine Wl.assign rfl rfl ?_ | (refine Wl.shr rfl rfl rfl ?_ ?_;omega) | refine Wl.convI rfl rfl ?_ | (apply Wl.lit;exact rfl;exact kj;exact rfl;exact rfl;exact ke;intro c hc ho) | apply Wl.nil | apply St.seq | apply St.region | apply Gt.next
 apply Wl.appendT
 exact rfl
 exact rfl
 exact rfl
 exact hc
 exact rfl
 exact h
 ·intro k _;trivial
 exact rfl
 exact rfl
 ·decide
 ·unfold maxLen;omega
 ·omega
 ·exact hb
 intro v' w1 ho2 u _ hown
 repeat' first | refine Wl.assign rfl rfl ?_ | apply Wl.nil | apply St.ret | apply Gt.next | (apply Gt.out1;exact rfl;exact rfl;intro w' hp)
 refine ⟨_,rfl,?_,u.comp hp.upd fun k hk' hs => hs.elim (fun hs => hs.elim id fun y => (y trivial).elim) fun y => (y trivial).elim,fun k hk => (hown k hk).2⟩
 refine Bo.upd (Bo.of ho2 rfl ?_) hp.upd fun k hk' x => x trivial
 simp only [byteCells,leB,List.map_cons,List.map_nil,wrap8]
 congr 4
 ·congr 2;omega
 ·congr 4;rw [Int.fdiv_eq_ediv_of_nonneg _ ku];simp [IntKind.bits];omega
theorem p32X (base : Nat) (v : Value) (l : List UInt8) (x : Int) (hx : U32 x) (w : World) (h : Bo w base v l) (hb : base ≤ w.heap.size) (hl : l.length ≤ 1099511627776) :
  Calls Tryz.prog 91 #[v,.int .u32 x] w fun e w' => ∃ v',e = .returned v' ∧ Bo w' base v' (l ++ leB 4 x.toNat) ∧ Upd (fun k => v.ownBlock = some k) w w' ∧ (∀ k,v'.ownBlock = some k → v.ownBlock = some k ∨ w.heap.size ≤ k) := by
 obtain ⟨a,cap,rfl,hlc,hm⟩ := h.shape
 unfold U32 at hx
 refine enter (args := [_,_]) (Γ := [(0,_),(1,_)]) Tryz.func91 Tryz.ntmps91 rfl odq (.cons rfl (.cons rfl .nil)) ?_
 repeat' first | refine Wl.move rfl rfl ?_ | refine Wl.assign rfl rfl ?_ | (refine Wl.shr rfl rfl rfl ?_ ?_;omega) | refine Wl.convI rfl rfl ?_ | (apply Wl.lit;exact rfl;exact kj;exact rfl;exact rfl;exact ke;intro c hc ho) | apply Wl.nil | apply St.seq | apply St.region | apply Gt.next
 apply Wl.appendT
 exact rfl
 exact rfl
 exact rfl
 exact hc
 exact rfl
 exact h
 ·intro k _;trivial
 exact rfl
 exact rfl
 ·decide
 ·unfold maxLen;omega
 ·omega
 ·exact hb
 intro v' w1 ho2 u _ hown
 repeat' first | refine Wl.assign rfl rfl ?_ | apply Wl.nil | apply St.ret | apply Gt.next | (apply Gt.out1;exact rfl;exact rfl;intro w' hp)
 refine ⟨_,rfl,?_,u.comp hp.upd fun k hk' hs => hs.elim (fun hs => hs.elim id fun y => (y trivial).elim) fun y => (y trivial).elim,fun k hk => (hown k hk).2⟩
 refine Bo.upd (Bo.of ho2 rfl ?_) hp.upd fun k hk' x => x trivial
 obtain ⟨n,rfl⟩ := Int.eq_ofNat_of_zero_le hx.1
 simp only [byteCells,leB,List.map_cons,List.map_nil,wrap8]
 have e (k : Nat) : ((n : Int).fdiv (2 ^ k) % 256).toNat = n / 2 ^ k % 256 := by
  rw [Int.fdiv_eq_ediv_of_nonneg _ (Int.le_of_lt (Int.pow_pos ku))]
  have : ((n : Int) / 2 ^ k % 256) = ((n / 2 ^ k % 256 : Nat) : Int) := by simp
  rw [this];rfl
 simp only [e]
 simp [IntKind.bits,Nat.div_div_eq_div_mul]
 omega
def txtE (s : List UInt8) : List UInt8 := leB 2 s.length ++ s
theorem sText (base : Nat) (v : Value) (l s : List UInt8) (w : World) (h : Bo w base v l) (hb : base ≤ w.heap.size) (hl : l.length ≤ 1000000) (hs : s.length ≤ 65535) :
  Calls Tryz.prog 92 #[v,strV s] w fun e w' => ∃ v',e = .returned v' ∧ Bo w' base v' (l ++ txtE s) ∧ Upd (fun k => v.ownBlock = some k) w w' ∧ (∀ k,v'.ownBlock = some k → v.ownBlock = some k ∨ w.heap.size ≤ k) := by
 have hss := strV_size s
 refine enter (args := [_,_]) (Γ := [(0,_),(1,_)]) Tryz.func92 Tryz.ntmps92 rfl odq (.cons rfl (.cons rfl .nil)) ?_
 repeat' first | refine Wl.move rfl rfl ?_ | refine Wl.assign rfl rfl ?_ | refine Wl.lenS rfl rfl ?_ | apply Wl.nil | apply St.seq | apply St.region | apply Gt.next
 apply Wl.callC
 ·exact rfl
 ·exact kd
 intro wq hq
 have zq := hq.upd.size
 have hBq : Bo wq base v l := h.upd hq.upd fun _ _ y => y trivial
 refine (p16X base v l ((strOf s).size : Int) wq hBq kc kc).mono ?_
 rintro e w1 ⟨v1,rfl,h1,u1,o1⟩
 have z1 := u1.size
 rw [show (((strOf s).size : Int) % 65536).toNat = s.length by omega] at h1
 have hl1 : (l ++ leB 2 s.length).length = l.length + 2 := by rw [List.length_append,leB_length]
 refine ⟨_,_,rfl,Hp.start w1,?_⟩
 repeat' first | refine Wl.move rfl rfl ?_
 apply Wl.appendS (base := base) (l := s)
 ·exact rfl
 ·exact rfl
 ·exact rfl
 ·exact h1
 ·exact fun _ _ => trivial
 ·unfold maxLen;omega
 ·omega
 ·omega
 intro v2 w2 ho2 u2 o2
 repeat' first | refine Wl.assign rfl rfl ?_ | apply Wl.nil | apply St.ret | apply Gt.next | (apply Gt.out1;exact rfl;exact rfl;intro w' hp)
 refine ⟨v2,rfl,?_,?_,fun k hk => (o2 k hk).2.elim (fun h => (o1 k h).imp id fun h => by omega) fun h => .inr kc⟩
 ·have := Bo.of (m := s) ho2 rfl rfl
  rw [List.append_assoc] at this
  exact Bo.upd this hp.upd fun k hk x => x trivial
 ·refine (((hq.upd.mono fun _ _ y => (y trivial).elim).comp u1 (T := fun k => v.ownBlock = some k) fun k _ h => h.elim id id).comp u2 (T := fun k => v.ownBlock = some k) fun k hk h => ?_).comp hp.upd fun k _ h => h.elim id fun y => (y trivial).elim
  rcases h with h | h | h
  ·exact h
  ·exact (o1 k h).elim id fun h => by omega
  ·exact (h trivial).elim
end Go.Proofs.YtabbklpalbikdaaGreatDoor
end
section
namespace Sha
open Go (k5 k6 k7 ka kb kc kd ke kf kh ki kj kn kq ku kv ky qf qh qz za zb zd)
open Go.Pt
def X (m n : Nat) : Nat := (m ^^^ n) % 4294967296
def A (m n : Nat) : Nat := (m &&& n) % 4294967296
def O (m n : Nat) : Nat := (m ||| n) % 4294967296
def P (m n : Nat) : Nat := (m + n) % 4294967296
def rr (r x : Nat) : Nat := O (x * 2 ^ (32 - r) % 4294967296) (x / 2 ^ r)
def sg0 (a : Nat) : Nat := X (X (rr 7 a) (rr 18 a)) (a / 2 ^ 3)
def sg1 (a : Nat) : Nat := X (X (rr 17 a) (rr 19 a)) (a / 2 ^ 10)
def S1 (x : Nat) : Nat := X (X (rr 6 x) (rr 11 x)) (rr 25 x)
def S0 (x : Nat) : Nat := X (X (rr 2 x) (rr 13 x)) (rr 22 x)
def ch (x y z : Nat) : Nat := X z (A x (X y z))
def mj (x y z : Nat) : Nat := O (A x y) (A z (O x y))
def ldw (p : Nat → Nat) : Nat → Nat → Nat
 | 0 => fun _ => 0
 | i + 1 => updN (ldw p i) (i / 4) (O (ldw p i (i / 4) * 2 ^ 8 % 4294967296) (p i))
def sch1 (w : Nat → Nat) (i : Nat) : Nat := P (P (P (w (i - 16)) (w (i - 7))) (sg0 (w (i - 15)))) (sg1 (w (i - 2)))
def sch (f : Nat → Nat) : Nat → Nat → Nat
 | 0 => f
 | i + 1 => updN (sch f i) (16 + i) (sch1 (sch f i) (16 + i))
def tt (v : Nat → Nat) (k w : Nat) : Nat := P (P (P (P (v 7) (S1 (v 4))) (ch (v 4) (v 5) (v 6))) k) w
def uu (v : Nat → Nat) : Nat := P (S0 (v 0)) (mj (v 0) (v 1) (v 2))
def v8 (a b c d e f g h : Nat) : Nat → Nat
 | 0 => a | 1 => b | 2 => c | 3 => d | 4 => e | 5 => f | 6 => g | _ => h
def rnd (v : Nat → Nat) (k w : Nat) : Nat → Nat := v8 (P (tt v k w) (uu v)) (v 0) (v 1) (v 2) (P (v 3) (tt v k w)) (v 4) (v 5) (v 6)
def rnds (K W v : Nat → Nat) : Nat → Nat → Nat
 | 0 => v
 | i + 1 => rnd (rnds K W v i) (K i) (W i)
def KL : List Nat := [
 0x428a2f98,0x71374491,0xb5c0fbcf,0xe9b5dba5,0x3956c25b,0x59f111f1,0x923f82a4,0xab1c5ed5,
 0xd807aa98,0x12835b01,0x243185be,0x550c7dc3,0x72be5d74,0x80deb1fe,0x9bdc06a7,0xc19bf174,
 0xe49b69c1,0xefbe4786,0x0fc19dc6,0x240ca1cc,0x2de92c6f,0x4a7484aa,0x5cb0a9dc,0x76f988da,
 0x983e5152,0xa831c66d,0xb00327c8,0xbf597fc7,0xc6e00bf3,0xd5a79147,0x06ca6351,0x14292967,
 0x27b70a85,0x2e1b2138,0x4d2c6dfc,0x53380d13,0x650a7354,0x766a0abb,0x81c2c92e,0x92722c85,
 0xa2bfe8a1,0xa81a664b,0xc24b8b70,0xc76c51a3,0xd192e819,0xd6990624,0xf40e3585,0x106aa070,
 0x19a4c116,0x1e376c08,0x2748774c,0x34b0bcb5,0x391c0cb3,0x4ed8aa4a,0x5b9cca4f,0x682e6ff3,
 0x748f82ee,0x78a5636f,0x84c87814,0x8cc70208,0x90befffa,0xa4506ceb,0xbef9a3f7,0xc67178f2]
def K (i : Nat) : Nat := KL.getD i 0
def H0 : Nat → Nat := v8 0x6a09e667 0xbb67ae85 0x3c6ef372 0xa54ff53a 0x510e527f 0x9b05688c 0x1f83d9ab 0x5be0cd19
def comp (h p : Nat → Nat) : Nat → Nat := fun j => P (h j) (rnds K (sch (ldw p 64) 48) h 64 j)
structure St where
 h : Nat → Nat
 p : Nat → Nat
 n : Nat
def wr (s : St) (c : Nat) : St :=
 if (s.n + 1) % 64 = 0 then ⟨comp s.h (updN s.p (s.n % 64) c),updN s.p (s.n % 64) c,s.n + 1⟩ else ⟨s.h,updN s.p (s.n % 64) c,s.n + 1⟩
def wrL (s : St) (l : List UInt8) : St := l.foldl (fun s c => wr s c.toNat) s
theorem wr_n (s : St) (c : Nat) : (wr s c).n = s.n + 1 := by unfold wr;split <;> rfl
theorem wrL_n (l : List UInt8) : ∀ s : St,(wrL s l).n = s.n + l.length := by
 induction l with
 | nil => intro s;rfl
 | cons c r ih =>
  intro s
  show (wrL (wr s c.toNat) r).n = _
  rw [ih,wr_n,List.length_cons];omega
theorem wrL_app (s : St) (l m : List UInt8) : wrL s (l ++ m) = wrL (wrL s l) m := by unfold wrL;rw [List.foldl_append]
def zeros (k : Nat) : List UInt8 := List.replicate k 0
def be8 (n : Nat) : List UInt8 := (List.range 8).map fun i => UInt8.ofNat (n / 2 ^ (56 - 8 * i))
def pad (n : Nat) : List UInt8 := 0x80 :: (zeros ((119 - n % 64) % 64) ++ be8 (n * 8))
def outB (h : Nat → Nat) (j : Nat) : Nat := h (j / 4) / 2 ^ (24 - 8 * (j % 4)) % 256
def sum (s : St) : Nat → Nat := outB (wrL s (pad s.n)).h
def ini : St := ⟨H0,fun _ => 0,0⟩
def of (l : List UInt8) : Nat → Nat := sum (wrL ini l)
end Sha
namespace Go.Pt
open Go.RowKit
theorem bits_xorN32 (m n : Nat) : bits .xor .u32 (m : Int) n = ((Sha.X m n : Nat) : Int) := by
 show IntKind.u32.wrap (((BitVec.ofInt 32 m) ^^^ (BitVec.ofInt 32 n)).toNat : Int) = _
 rw [IntWalk.u32_in _ ⟨by omega,by have := ((BitVec.ofInt 32 m) ^^^ (BitVec.ofInt 32 n)).isLt;omega⟩,BitVec.ofInt_natCast,BitVec.ofInt_natCast,BitVec.toNat_xor,BitVec.toNat_ofNat,BitVec.toNat_ofNat]
 unfold Sha.X
 rw [← Nat.xor_mod_two_pow]
theorem bits_xorN64 (m n : Nat) : bits .xor .u64 (m : Int) n = (((m ^^^ n) % 18446744073709551616 : Nat) : Int) := by
 show IntKind.u64.wrap (((BitVec.ofInt 64 m) ^^^ (BitVec.ofInt 64 n)).toNat : Int) = _
 rw [IntWalk.u64_in _ ⟨by omega,by have := ((BitVec.ofInt 64 m) ^^^ (BitVec.ofInt 64 n)).isLt;omega⟩,BitVec.ofInt_natCast,BitVec.ofInt_natCast,BitVec.toNat_xor,BitVec.toNat_ofNat,BitVec.toNat_ofNat]
 rw [← Nat.xor_mod_two_pow]
theorem bits_andN32 (m n : Nat) : bits .and .u32 (m : Int) n = ((Sha.A m n : Nat) : Int) := by
 show IntKind.u32.wrap (((BitVec.ofInt 32 m) &&& (BitVec.ofInt 32 n)).toNat : Int) = _
 rw [IntWalk.u32_in _ ⟨by omega,by have := ((BitVec.ofInt 32 m) &&& (BitVec.ofInt 32 n)).isLt;omega⟩,BitVec.ofInt_natCast,BitVec.ofInt_natCast,BitVec.toNat_and,BitVec.toNat_ofNat,BitVec.toNat_ofNat]
 unfold Sha.A
 rw [← Nat.and_mod_two_pow]
theorem bits_andN64 (m n : Nat) : bits .and .u64 (m : Int) n = (((m &&& n) % 18446744073709551616 : Nat) : Int) := by
 show IntKind.u64.wrap (((BitVec.ofInt 64 m) &&& (BitVec.ofInt 64 n)).toNat : Int) = _
 rw [IntWalk.u64_in _ ⟨by omega,by have := ((BitVec.ofInt 64 m) &&& (BitVec.ofInt 64 n)).isLt;omega⟩,BitVec.ofInt_natCast,BitVec.ofInt_natCast,BitVec.toNat_and,BitVec.toNat_ofNat,BitVec.toNat_ofNat]
 rw [← Nat.and_mod_two_pow]
theorem bits_orN32 (m n : Nat) : bits .or .u32 (m : Int) n = ((Sha.O m n : Nat) : Int) := by
 show IntKind.u32.wrap (((BitVec.ofInt 32 m) ||| (BitVec.ofInt 32 n)).toNat : Int) = _
 rw [IntWalk.u32_in _ ⟨by omega,by have := ((BitVec.ofInt 32 m) ||| (BitVec.ofInt 32 n)).isLt;omega⟩,BitVec.ofInt_natCast,BitVec.ofInt_natCast,BitVec.toNat_or,BitVec.toNat_ofNat,BitVec.toNat_ofNat]
 unfold Sha.O
 rw [← Nat.or_mod_two_pow]
section
variable {P : Program} {md : Md} {N : Nat} {ops : Array Oper} {rest : List Oper} {Γ : Env} {C : World → Prop} {Q : Exit → Act → World → Prop} {d : Nat} {ty : TypeId} {pos : String} {af : Array Edge} {t u : TypeId} {x y : Operand} {m n : Nat}
theorem Wl.xorN32 (hd : Nat.blt d N = true) (hx : ev Γ x = some (.int .u32 (m : Int))) (hy : ev Γ y = some (.int .u32 (n : Int))) (h : Wl rest P md ops N ((d,.int .u32 ((Sha.X m n : Nat) : Int)) :: Γ) C Q) : Wl (⟨some d,.binOp .xor t x y u,ty,pos,af,none⟩ :: rest) P md ops N Γ C Q :=
 Wl.xor hd hx hy (by rw [bits_xorN32];exact h)
theorem Wl.xorN64 (hd : Nat.blt d N = true) (hx : ev Γ x = some (.int .u64 (m : Int))) (hy : ev Γ y = some (.int .u64 (n : Int))) (h : Wl rest P md ops N ((d,.int .u64 (((m ^^^ n) % 18446744073709551616 : Nat) : Int)) :: Γ) C Q) : Wl (⟨some d,.binOp .xor t x y u,ty,pos,af,none⟩ :: rest) P md ops N Γ C Q :=
 Wl.xor hd hx hy (by rw [bits_xorN64];exact h)
theorem Wl.andN32 (hd : Nat.blt d N = true) (hx : ev Γ x = some (.int .u32 (m : Int))) (hy : ev Γ y = some (.int .u32 (n : Int))) (h : Wl rest P md ops N ((d,.int .u32 ((Sha.A m n : Nat) : Int)) :: Γ) C Q) : Wl (⟨some d,.binOp .and t x y u,ty,pos,af,none⟩ :: rest) P md ops N Γ C Q :=
 Wl.and hd hx hy (by rw [bits_andN32];exact h)
theorem Wl.andN64 (hd : Nat.blt d N = true) (hx : ev Γ x = some (.int .u64 (m : Int))) (hy : ev Γ y = some (.int .u64 (n : Int))) (h : Wl rest P md ops N ((d,.int .u64 (((m &&& n) % 18446744073709551616 : Nat) : Int)) :: Γ) C Q) : Wl (⟨some d,.binOp .and t x y u,ty,pos,af,none⟩ :: rest) P md ops N Γ C Q :=
 Wl.and hd hx hy (by rw [bits_andN64];exact h)
theorem Wl.orN32 (hd : Nat.blt d N = true) (hx : ev Γ x = some (.int .u32 (m : Int))) (hy : ev Γ y = some (.int .u32 (n : Int))) (h : Wl rest P md ops N ((d,.int .u32 ((Sha.O m n : Nat) : Int)) :: Γ) C Q) : Wl (⟨some d,.binOp .or t x y u,ty,pos,af,none⟩ :: rest) P md ops N Γ C Q :=
 Wl.or hd hx hy (by rw [bits_orN32];exact h)
theorem Wl.shlP {k' : IntKind} {i : Int} (n : Nat) (hd : Nat.blt d N = true) (hx : ev Γ x = some (.int .u32 (m : Int))) (hy : ev Γ y = some (.int k' i)) (hi : i = (n : Int)) (hn : n ≤ 32) (h : Wl rest P md ops N ((d,.int .u32 ((m * 2 ^ n % 4294967296 : Nat) : Int)) :: Γ) C Q) : Wl (⟨some d,.binOp .shl t x y u,ty,pos,af,none⟩ :: rest) P md ops N Γ C Q :=
 Wl.shlV hd hx (hi ▸ hy) hn h
theorem Wl.shrP {k k' : IntKind} {i : Int} (n : Nat) (hd : Nat.blt d N = true) (hx : ev Γ x = some (.int k (m : Int))) (hy : ev Γ y = some (.int k' i)) (hi : i = (n : Int)) (hn : n ≤ k.bits) (h : Wl rest P md ops N ((d,.int k ((m / 2 ^ n : Nat) : Int)) :: Γ) C Q) : Wl (⟨some d,.binOp .shr t x y u,ty,pos,af,none⟩ :: rest) P md ops N Γ C Q :=
 Wl.shrV hd hx (hi ▸ hy) hn h
theorem Wl.addP (hd : Nat.blt d N = true) (hx : ev Γ x = some (.int .u32 (m : Int))) (hy : ev Γ y = some (.int .u32 (n : Int))) (h : Wl rest P md ops N ((d,.int .u32 ((Sha.P m n : Nat) : Int)) :: Γ) C Q) : Wl (⟨some d,.binOp .add t x y u,ty,pos,af,none⟩ :: rest) P md ops N Γ C Q := Wl.addN32 hd hx hy h
theorem exec_callV2 {f : FuncId} [hE : Ent P f] {a : Act} {w : World} {N : Nat} {Γ : Env} (ha : Fr N a Γ) {x : Operand} (hf : ev Γ x = some (.func (.func f) #[] #[])) {d : Option Nat} {xs : Array Operand} {vs : List Value} {ts : Array TypeId} {ty : TypeId} {pos : String} {af : Array Edge} {g : Option (Nat × Bool)} (hx : Evs Γ xs.toList vs) :
  (execOp a.eval ⟨d,.call { callee := .value x,args := xs,argTypes := ts },ty,pos,af,g⟩).run P w = .ok (.enter f vs.toArray) w := by
 have e : xs.map a.eval = vs.toArray := by
  obtain ⟨l⟩ := xs
  simp only [List.map_toArray]
  exact congrArg _ (hx.map ha)
 simp [execOp,resolve,e,ha.ev hf,Deferred.ofValue,invoke,hE.out]
theorem Wl.callVQ {f : FuncId} {x : Operand} {xs : Array Operand} {vs : List Value} {ts : Array TypeId} {v : Value} (hd : Nat.blt d N = true) (hf : ev Γ x = some (.func (.func f) #[] #[])) (_hE : Ent P f) (hx : Evs Γ xs.toList vs)
  (hq : ∀ w,C w → Calls P f vs.toArray w fun e w' => e = .returned v ∧ C w') (h : Wl rest P .seq ops N ((d,v) :: Γ) C Q) :
  Wl (⟨some d,.call { callee := .value x,args := xs,argTypes := ts },ty,pos,af,none⟩ :: rest) P .seq ops N Γ C Q := Wl.intro fun a w ha hw => by
 refine wpList_plain rfl fun K hK => ?_
 simp only [Oper.wp,exec_callV2 ha hf hx,Oper.upon]
 refine (hq w hw).mono ?_
 rintro e w' ⟨rfl,hC⟩
 exact hK _ _ (h.elim _ _ (ha.put hd v) hC)
theorem Wl.andE {k : IntKind} {a b r : Int} (hd : Nat.blt d N = true) (hx : ev Γ x = some (.int k a)) (hy : ev Γ y = some (.int k b)) (e : bits .and k a b = r) (h : Wl rest P md ops N ((d,.int k r) :: Γ) C Q) : Wl (⟨some d,.binOp .and t x y u,ty,pos,af,none⟩ :: rest) P md ops N Γ C Q :=
 Wl.and hd hx hy (by rw [e];exact h)
theorem Wl.subE {k : IntKind} {a b r : Int} (hd : Nat.blt d N = true) (hx : ev Γ x = some (.int k a)) (hy : ev Γ y = some (.int k b)) (e : k.wrap (a - b) = r) (h : Wl rest P md ops N ((d,.int k r) :: Γ) C Q) : Wl (⟨some d,.binOp .sub t x y u,ty,pos,af,none⟩ :: rest) P md ops N Γ C Q :=
 Wl.sub' hd hx hy (by rw [e];exact h)
theorem Wl.subC {i : Int} (n : Nat) (hd : Nat.blt d N = true) (hx : ev Γ x = some (.int .i64 (m : Int))) (hy : ev Γ y = some (.int .i64 i)) (hi : i = (n : Int)) (hn : n ≤ m) (hm : m < 9223372036854775808) (h : Wl rest P md ops N ((d,.int .i64 ((m - n : Nat) : Int)) :: Γ) C Q) : Wl (⟨some d,.binOp .sub t x y u,ty,pos,af,none⟩ :: rest) P md ops N Γ C Q :=
 Wl.subE hd hx hy (by rw [hi,IntKind.wrap_i64];omega) h
theorem Wl.subR {i : Int} (m : Nat) (hd : Nat.blt d N = true) (hx : ev Γ x = some (.int .i64 i)) (hi : i = (m : Int)) (hy : ev Γ y = some (.int .i64 (n : Int))) (hn : n ≤ m) (hm : m < 9223372036854775808) (h : Wl rest P md ops N ((d,.int .i64 ((m - n : Nat) : Int)) :: Γ) C Q) : Wl (⟨some d,.binOp .sub t x y u,ty,pos,af,none⟩ :: rest) P md ops N Γ C Q :=
 Wl.subE hd hx hy (by rw [hi,IntKind.wrap_i64];omega) h
theorem Wl.indexVS {md : Md} {C : World → Prop} {t e n b1 : TypeId} [ht : TyD P t (.array n e)] [hs : TyS P e 1 b1] [hc : TyC P e] {x i : Operand} {q : IntKind} {j : Nat} {xs : List Value} {v : Value} (hd : Nat.blt d N = true) (hx : ev Γ x = some (.agg xs.toArray)) (hi : ev Γ i = some (.int q (j : Int)))
  (hj : xs[j]? = some v) (hn : j < n) (h : Wl rest P md ops N ((d,v) :: Γ) C Q) : Wl (⟨some d,.index t x i,ty,pos,af,none⟩ :: rest) P md ops N Γ C Q :=
 Wl.val hd (fun a w ha _ => by
  have hj' : xs.toArray[j]? = some v := by simpa using hj
  simp [execOp,ha.ev hx,ha.ev hi,Instr.index,asIntOf,run_underlying ht.out,hn,run_size (P := P) (t := e),part,run_aggC (P := P) (t := e),hj',hj]) h
end
end Go.Pt
end
section
namespace Go.Pt
open Go.RowKit
theorem hpNil (w : World) : Hp w [] w := ⟨Upd.refl _ _,trivial,trivial⟩
theorem hpRb {w0 w : World} {H : List Blk} (h : Hp w0 H w) : Hp w H w := ⟨Upd.refl _ _,h.own,h.apart⟩
theorem hpOn {w w1 w2 : World} {H : List Blk} (h : Hp w1 H w2) (hu : Upd (fun k => w.heap.size ≤ k) w w1) (hH : ∀ x ∈ H,w.heap.size ≤ x.b) : Upd (fun k => w.heap.size ≤ k) w w2 :=
 hu.comp h.upd fun j _ hs => hs.elim id fun y => Classical.byContradiction fun hlt => y (Off.of fun x hx e => by have := hH x hx;omega)
theorem hpNewer {w0 w w' : World} {H : List Blk} (h : Hp w0 H w) (u : Upd (fun k => w.heap.size ≤ k) w w') : Hp w0 H w' :=
 h.step u (fun x hx hle => by have := h.own.lt hx;omega) (fun k hk hle => by have := h.upd.size;omega)
theorem hpFin {w w1 w' : World} {H : List Blk} (hp : Hp w1 H w') (hu : Upd (fun k => w.heap.size ≤ k) w w1) (hH : ∀ x ∈ H,w.heap.size ≤ x.b) : Hp w [] w' := hpNewer (hpNil w) (hpOn hp hu hH)
theorem hpPop {w0 w : World} {x : Blk} {H : List Blk} (h : Hp w0 (x :: H) w) (hx : w0.heap.size ≤ x.b) : Hp w0 H w :=
 ⟨h.upd.mono fun k hk hs ho => hs ⟨fun e => by omega,ho⟩,h.own.2,h.apart.2⟩
def ArrAt (w : World) (b o : Nat) (k : IntKind) (n : Nat) (f : Nat → Nat) : Prop := ∀ j,j < n → w.cell? ⟨b,o + j,none⟩ = some (.int k (f j))
theorem ArrAt.lt {w : World} {b o n : Nat} {k : IntKind} {f : Nat → Nat} (h : ArrAt w b o k n f) (hn : 0 < n) : b < w.heap.size := World.block_lt_of_cell? w _ (h 0 hn)
theorem ArrAt.upd {S : Nat → Prop} {w w' : World} {b o n : Nat} {k : IntKind} {f : Nat → Nat} (h : ArrAt w b o k n f) (u : Upd S w w') (hs : ¬ S b) : ArrAt w' b o k n f := fun j hj => u.cell (h j hj) hs
theorem ArrAt.hp {w w' : World} {H : List Blk} {b o n : Nat} {k : IntKind} {f : Nat → Nat} (h : ArrAt w b o k n f) (u : Hp w H w') (hs : Off H b) : ArrAt w' b o k n f := h.upd u.upd fun y => y hs
section
variable {P : Program} {md : Md} {N : Nat} {ops : Array Oper} {rest : List Oper} {Γ : Env} {Q : Exit → Act → World → Prop} {d : Nat} {ty : TypeId} {pos : String} {af : Array Edge} {t : TypeId} {x y : Operand}
theorem Wl.loadME {w0 : World} {H : List Blk} {n : Nat} [TyC P t] {b j : Nat} {k : IntKind} {f : Nat → Nat} (hd : Nat.blt d N = true) (hx : ev Γ x = some (.pointer (some ⟨b,j,none⟩))) (hm : ArrAt w0 b 0 k n f) (ho : Off H b) (hj : j < n)
  (h : Wl rest P md ops N ((d,.int k (f j)) :: Γ) (Hp w0 H) Q) : Wl (⟨some d,.load t x,ty,pos,af,none⟩ :: rest) P md ops N Γ (Hp w0 H) Q :=
 Wl.loadO hd hx (by have := hm j hj;rw [Nat.zero_add] at this;exact this) ho h
end
theorem Gt.outN {P : Program} {N : Nat} {Γ : Env} {w0 : World} {H : List Blk} {fn : Func} {R : Ending → World → Prop} {t ty n c m bt : Nat} {k : IntKind} {f : Nat → Nat} (hr : fn.results = #[.cell t ty]) (hT : TyA P ty n) (ht : look Γ t = some (.pointer (some ⟨c,0,none⟩))) (hm : (⟨c,cellsN k m f,bt⟩ : Blk) ∈ H) (hn : Nat.beq m n = true)
  (h : ∀ w,Hp w0 H w → R (.returned (.agg (cellsN k m f).toArray)) w) : Gt N .ret Γ (Hp w0 H) (bodyPost P fn R) := Gt.outC' hr hT ht hm (LSub.whole ((cellsN_len k m f).trans (Nat.eq_of_beq_eq_true hn))) h
theorem LSet.appN {p r : List Value} {x v : Value} {n : Nat} (hn : p.length = n) : LSet (p ++ x :: r) n v (p ++ v :: r) := by
 subst hn
 induction p with
 | nil => exact .z
 | cons y s ih => exact .s ih
theorem LOver.appN {l xs r : List Value} (h : l.length = xs.length) : LOver (l ++ r) xs (xs ++ r) := by
 induction xs generalizing l with
 | nil => cases l with
  | nil => exact .nil
  | cons _ _ => simp at h
 | cons x s ih => cases l with
  | nil => simp at h
  | cons y t => exact .cons (ih qz)
theorem LPut.appN {p l xs r : List Value} {n : Nat} (hn : p.length = n) (h : l.length = xs.length) : LPut (p ++ (l ++ r)) n xs (p ++ (xs ++ r)) := by
 subst hn
 induction p with
 | nil => exact .z (LOver.appN h)
 | cons x s ih => exact .s ih
theorem LSub.mid {a b c : List Value} {i n : Nat} (h1 : a.length = i) (h2 : b.length = n) : LSub (a ++ (b ++ c)) i n b := by
 subst h1 h2
 induction a with
 | nil =>
  induction b with
  | nil => exact .z
  | cons x r ih => exact .t ih
 | cons x r ih => exact .s ih
section
variable {P : Program} {N : Nat} {ops : Array Oper} {rest : List Oper} {Γ : Env} {Q : Exit → Act → World → Prop} {ty : TypeId} {pos : String} {af : Array Edge} {t : TypeId} {x y : Operand}
theorem Wl.storeAll {w0 : World} {H H' : List Blk} {n bt : TypeId} [ht : TyA P t n] {c : Nat} {cs xs : List Value} (hx : ev Γ x = some (.pointer (some ⟨c,0,none⟩))) (hy : ev Γ y = some (.agg xs.toArray)) (hs : HSet c cs xs bt H H') (hn : xs.length = n) (hl : cs.length = n) (h1 : xs.all Value.oneCell' = true)
  (h : Wl rest P .seq ops N Γ (Hp w0 H') Q) : Wl (⟨none,.store t x y,ty,pos,af,none⟩ :: rest) P .seq ops N Γ (Hp w0 H) Q :=
 Wl.storeA hx hy hn h1 hs (.z (LOver.whole (by rw [hl,hn]))) h
end
end Go.Pt
namespace Go.Proofs.YtabbklpalbikdaaGreatDoor
open Go.RowKit Go.Pt
abbrev mp (b : Nat) : Value := .pointer (some ⟨b,0,none⟩)
end Go.Proofs.YtabbklpalbikdaaGreatDoor
end
